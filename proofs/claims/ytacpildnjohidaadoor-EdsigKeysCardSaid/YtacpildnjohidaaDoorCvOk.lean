/- CvOk: a part of the proof of statements of this seat. -/
import Derived.Test.YtacpildnjohidaaDoorPae
import Derived.Test.YtacpildnjohidaaDoorPad
import Derived.Test.YtacpildnjohidaaDoorPac
open Go renaming World->aG
open List renaming flatten_cons->oh,take_append_drop->oi,length_drop->oZ,take_of_length_le->uK,drop_drop->Cg,drop_of_length_le->Uq,take_add->ad1
set_option linter.unusedVariables false
set_option maxRecDepth 100000
namespace Go.Fd
open Go Go.b9 Go.Proofs
theorem gx:Tryd.prog.follows .mixedOrders=true:=by kernel_rfl
theorem ev:IL Tryd.prog 76:=afE Tryd.func76 (by kernel_rfl) (by kernel_rfl) (by kernel_rfl) (by kernel_rfl)
theorem eA:IV Tryd.prog 53:=ant Tryd.func53 (by kernel_rfl) (by kernel_rfl) (by kernel_rfl) (by kernel_rfl)
theorem ey:IS Tryd.prog 75:=alz gx (enters (by kernel_rfl)) (λK=>by kernel_rfl)
theorem uD {α:Type}:∀(nC:List Nat) (l:List α),(cD nC l).flatten=l
 |[],[]=>rfl
 |[],_::_=>by simp[cD]
 |k::nC,l=>by simp only[cD,oh,uD nC,oi]
def ew (id:Nat):List Int->List Int->Prop:=λzs rs=>SB id (cD (sh id).1 zs) (cD (sh id).2 rs)
abbrev dY (G:Nat->List Int->List Int):Nat->List Int->List Int->Prop:=jK sh (fr G)
theorem apV (G:Nat->List Int->List Int):∀id a rs cX,dY G id a rs->dY G id a cX->rs=cX:=λid a rs cX h bm=>by
 have e:=h.2;have cW:=bm.2;rw[uD,uD]at e cW;exact e.trans cW.symm
theorem Ud {lsh:Nat->List Nat} {G:Nat->List Int->List Int} {id:Nat} {lens:List Nat} {bds:List (Int×Int)} {ds:List D} {t:T} (hl:lens=(sh id).1) (hd:vh ds=(sh id).2) (h:fg sh lsh (fr G) (eP ds id) lens bds ds t):
 ∀zs,ab bds zs->t.holds (dY G) (ki ds λrs=>ab (aY ds) rs/\ew id zs rs) (λ_ _=>False) (bR (λ_=>0) 0 zs):=λzs hz=>by
 have h:=nj (L4 h) hz;simp only[eP,uD]at h;rw[hl,hd]at h;exact h
theorem L1 {P:Program} {wb:aG} {c:bJ} {s H9:List Int->List Int->Prop} (h:c.bD P wb s) (hs:∀zs rs,s zs rs->H9 zs rs):c.bD P wb H9:=
 ⟨h.1,λzs hz=>by obtain⟨rs,h1,h2,h3⟩:=h.2 zs hz;exact⟨rs,h1,hs zs rs h2,h3⟩⟩
def ff (wb:aG) (L:List bJ) (G:Nat->List Int->List Int):Prop:=∀c∈L,c.bD Tryd.prog wb (dY G c.id)
theorem ff.step {wb:aG} {L:List bJ} {G:Nat->List Int->List Int} {c:bJ} (h:ff wb L G) (dA:(L.all λe3=> !(Nat.beq e3.id c.id))=true) (h0:c.bD Tryd.prog wb (ew c.id)):∃eV,ff wb (c::L) eV:=by
 obtain⟨F,hF⟩:=h0.fn;refine⟨λid=>if id=c.id then F else G id,λe3 EV=>?_⟩;rcases List.mem_cons.1 EV with rfl|hm
 ·refine L1 hF λzs rs ⟨h1,h2⟩=>⟨h2,?_⟩;simp only[uD,if_true];exact h1
 ·refine L1 (h e3 hm) λzs rs ⟨h1,h2⟩=>⟨h1,?_⟩;have hb:=List.all_eq_true.1 dA e3 hm;have hn:¬e3.id=c.id:=λe=>by rw[e]at hb;simp at hb
  simp only[if_neg hn];exact h2
theorem cm {α:Type} {l:List α} {i:Nat} {a:α} (h:l[i]?=some a):a∈l:=List.mem_of_getElem? h
theorem bb {α:Type} {p:α->Prop}:∀x∈([]:List α),p x:=λ_ h=>by cases h
theorem Ah {zs:List Int} {a b:Nat} (h:zs.length=a+b):cD [a,b] zs=[zs.take a,zs.drop a]:=by
 have az:(zs.drop a).take b=zs.drop a:=uK (by rw[oZ];omega);have aI:(zs.drop a).drop b=[]:=Uq (by rw[oZ];omega);show zs.take a::(zs.drop a).take b::cD [] ((zs.drop a).drop b)=_;rw[az,aI];rfl
theorem q6 {zs:List Int} {a:Nat} (h:zs.length=a):cD [a] zs=[zs]:=by
 have az:zs.take a=zs:=uK (by omega);have aI:zs.drop a=[]:=Uq (by omega);show zs.take a::cD [] (zs.drop a)=_;rw[az,aI];rfl
theorem hP {wb:aG} {G:Nat->List Int->List Int} {c:bJ} {cal:gL} {li:FuncId->Nat->Option hN} {rounds d:Nat} {lsh:Nat->List Nat} {lens:List Nat} (dy:∀r ex ro,iM (dY G) Tryd.prog gl ⟨wb,r,ex,ro,[]⟩ cal) (hg:gM gl ⟨wb,wb,λ_=>False,λ_=>False,[]⟩)
 (hf:∀args w,(callFunc c.f args).run Tryd.prog w= .ok (.enter c.f args) w) (hp:(c.tree Tryd.prog gl cal li rounds d).plain=true) (hl:lens=(sh c.id).1) (hd:vh c.res=(sh c.id).2)
 (hv:fg sh lsh (fr G) (eP c.res c.id) lens (aY c.args) c.res (c.tree Tryd.prog gl cal li rounds d)):c.bD Tryd.prog wb (ew c.id):=
 bJ.azx (S:=dY G) (spec:=ew c.id) gx dy hg hf (apV G) hp (Ud hl hd hv)
theorem TC {zs:List Int} {a b c:Nat} (h:zs.length=a+(b+c)):cD [a,b,c] zs=[zs.take a,(zs.drop a).take b,(zs.drop a).drop b]:=by
 have e:cD [a,b,c] zs=zs.take a::cD [b,c] (zs.drop a):=rfl;rw[e,Ah (zs:=zs.drop a) (a:=b) (b:=c) (by rw[oZ];omega)]
theorem amO {rs:List Int} (h:ab (aY [gN,pZ]) rs):cD [32,1] rs=[rs.take 32,rs.drop 32]/\ab (ai 0 255 32) (rs.take 32)/\∃e,rs.drop 32=[e]:=by
 rw[agG]at h;have hl:rs.length=32+1:=dR h;have hs:=Bm h;rw[H3]at hs;refine⟨Ah hl,hs.1,?_⟩;have h2:=hs.2
 match rs.drop 32,h2 with
 |[e],_=>exact⟨e,rfl⟩
theorem anX {id:Nat} {zs rs cX:List Int} {al:List (List Int)} {o:Option (Int×Int)} (hr:(sh id).2=[32,1]) (ha:cD (sh id).1 zs=al) (hS:∀r e,SB id al [r,[e]]->rk r e o) (h1:ab (aY [gN,pZ]) rs) (h2:ab (aY [gN,pZ]) cX) (e:ew id zs rs) (cW:ew id zs cX):rs=cX:=by
 obtain⟨b7,a2,x,a3⟩:=amO h1;obtain⟨ca,cc,y,dm⟩:=amO h2;unfold ew at e cW;rw[hr,ha,b7,a3]at e;rw[hr,ha,ca,dm]at cW;have k:=aq0 (hS _ _ e) (hS _ _ cW) a2 cc;rw[<-oi 32 rs,<-oi 32 cX,a3,dm,k.1,k.2]
theorem aGb (zs:List Int):[zs.take 5,(zs.drop 5).take 5,((zs.drop 5).drop 5).take 5,(((zs.drop 5).drop 5).drop 5).take 5].flatten=zs.take 20:=by
 simp only[oh,List.flatten_nil,List.append_nil,Cg,Nat.reduceAdd];rw[show(20:Nat)=5+(5+(5+5)) by rfl,ad1,ad1,ad1];simp only[Cg,Nat.reduceAdd]
theorem ay4 {G:Nat->List Int->List Int} {zs:List Int} {r:List (List Int)} (je:zs.length=20+32) (h:V7 G (cD [5,5,5,5,32] zs) r):eP oE.res 107 (cD [5,5,5,5,32] zs) r/\r.flatten=w4 G (zs.take 20) (nb (zs.drop 20)).toNat 256:=by
 have e:cD [5,5,5,5,32] zs=[zs.take 5,(zs.drop 5).take 5,((zs.drop 5).drop 5).take 5,(((zs.drop 5).drop 5).drop 5).take 5,zs.drop 20]:=by
  have gE:cD [5,5,5,5,32] zs=zs.take 5::(zs.drop 5).take 5::((zs.drop 5).drop 5).take 5::(((zs.drop 5).drop 5).drop 5).take 5::cD [32] ((((zs.drop 5).drop 5).drop 5).drop 5):=rfl;have az:((((zs.drop 5).drop 5).drop 5).drop 5)=zs.drop 20:=by simp only[Cg]
  rw[gE,az,q6 (by rw[oZ];omega)]
 rw[e]at h⊢;refine⟨h.1,?_⟩;have h2:=h.2;simp only at h2;rw[aGb]at h2;exact h2
theorem aEq {G:Nat->List Int->List Int} {zs:List Int} {r:List (List Int)} (je:zs.length=32+12) (h:V8 G (cD [32,4,4,4] zs) r):eP qW.res 123 (cD [32,4,4,4] zs) r/\r.flatten=uy G (zs.drop 32) (nb (zs.take 32)).toNat 256:=by
 have gE:cD [32,4,4,4] zs=zs.take 32::cD [4,4,4] (zs.drop 32):=rfl;have az:=TC (zs:=zs.drop 32) (a:=4) (b:=4) (c:=4) (by rw[oZ];omega);rw[gE,az]at h⊢;refine⟨h.1,?_⟩;have h2:=h.2;simp only at h2;rw[h2]
 congr 1
 have aI:=uD [4,4,4] (zs.drop 32);rw[az]at aI;exact aI
section
variable {wb:aG} (hg:gM gl ⟨wb,wb,λ_=>False,λ_=>False,[]⟩) {G:Nat->List Int->List Int}
include hg G
theorem SX:lg.bD Tryd.prog wb (ew lg.id):=by
 refine hP (G:=G) (c:=lg) (cal:=(bo [] [] 75 76 53)) (li:=bw) (rounds:=600) (d:=6) (lsh:=ck) (λr ex ro=>eB ey ev eA bb bb) hg (enters (by kernel_rfl)) aCA rfl rfl (lens:=[32]) ?_;rw[aGV];exact abZ G
theorem aAi:tp.bD Tryd.prog wb (ew tp.id):=by
 refine hP (G:=G) (c:=tp) (cal:=(bo [] [] 75 76 53)) (li:=bw) (rounds:=600) (d:=6) (lsh:=ck) (λr ex ro=>eB ey ev eA bb bb) hg (enters (by kernel_rfl)) aCF rfl rfl (lens:=[4]) ?_;rw[aG4];exact aBN G
theorem aAx:l4.bD Tryd.prog wb (ew l4.id):=by
 refine hP (G:=G) (c:=l4) (cal:=(bo [] [] 75 76 53)) (li:=bw) (rounds:=600) (d:=6) (lsh:=ck) (λr ex ro=>eB ey ev eA bb bb) hg (enters (by kernel_rfl)) aCV rfl rfl (lens:=[]) ?_;rw[aHl];exact aB3 G
theorem aAt:lK.bD Tryd.prog wb (ew lK.id):=by
 refine hP (G:=G) (c:=lK) (cal:=(bo [] [] 75 76 53)) (li:=bw) (rounds:=600) (d:=6) (lsh:=ck) (λr ex ro=>eB ey ev eA bb bb) hg (enters (by kernel_rfl)) aCS rfl rfl (lens:=[4,4]) ?_;rw[aHh];exact aBZ G
theorem aAv:n4.bD Tryd.prog wb (ew n4.id):=by
 refine hP (G:=G) (c:=n4) (cal:=(bo [] [] 75 76 53)) (li:=bw) (rounds:=600) (d:=6) (lsh:=ck) (λr ex ro=>eB ey ev eA bb bb) hg (enters (by kernel_rfl)) aCT rfl rfl (lens:=[4,4]) ?_;rw[aHj];exact aB1 G
theorem aAy:n5.bD Tryd.prog wb (ew n5.id):=by
 refine hP (G:=G) (c:=n5) (cal:=(bo [] [] 75 76 53)) (li:=bw) (rounds:=600) (d:=6) (lsh:=ck) (λr ex ro=>eB ey ev eA bb bb) hg (enters (by kernel_rfl)) aCW rfl rfl (lens:=[4,4]) ?_;rw[aHm];exact aB4 G
theorem aAm (h:∀c∈[lK,l4,n4],c.bD Tryd.prog wb (dY G c.id)):rU.bD Tryd.prog wb (ew rU.id):=by
 refine hP (G:=G) (c:=rU) (cal:=(bo [] [lK,l4,n4] 75 76 53)) (li:=bw) (rounds:=600) (d:=6) (lsh:=ck) (λr ex ro=>eB ey ev eA bb (λc hc=>(h c hc).f)) hg (enters (by kernel_rfl)) aCJ rfl rfl (lens:=[4]) ?_;rw[aG8];exact aBR G
theorem aAC (h:∀c∈[n5,rU],c.bD Tryd.prog wb (dY G c.id)):rW.bD Tryd.prog wb (ew rW.id):=by
 refine hP (G:=G) (c:=rW) (cal:=(bo [] [n5,rU] 75 76 53)) (li:=bw) (rounds:=600) (d:=6) (lsh:=ck) (λr ex ro=>eB ey ev eA bb (λc hc=>(h c hc).f)) hg (enters (by kernel_rfl)) aC0 rfl rfl (lens:=[4,4]) ?_;rw[aHq];exact aB8 G
theorem aAo (h:∀c∈[lK,n5,l4,n4],c.bD Tryd.prog wb (dY G c.id)):oF.bD Tryd.prog wb (ew oF.id):=by
 refine hP (G:=G) (c:=oF) (cal:=(bo [] [lK,n5,l4,n4] 75 76 53)) (li:=bw) (rounds:=600) (d:=6) (lsh:=ck) (λr ex ro=>eB ey ev eA bb (λc hc=>(h c hc).f)) hg (enters (by kernel_rfl)) aCL rfl rfl (lens:=[4,4]) ?_;rw[aHa];exact aBT G
theorem aAq (h:∀c∈[n5,rU],c.bD Tryd.prog wb (dY G c.id)):vc.bD Tryd.prog wb (ew vc.id):=by
 refine hP (G:=G) (c:=vc) (cal:=(bo [] [n5,rU] 75 76 53)) (li:=bw) (rounds:=600) (d:=6) (lsh:=ck) (λr ex ro=>eB ey ev eA bb (λc hc=>(h c hc).f)) hg (enters (by kernel_rfl)) aCO rfl rfl (lens:=[4,4]) ?_;rw[aHd];exact aBW G
theorem aAz (h:∀c∈[vc],c.bD Tryd.prog wb (dY G c.id)):lv.bD Tryd.prog wb (ew lv.id):=by
 refine hP (G:=G) (c:=lv) (cal:=(bo [] [vc] 75 76 53)) (li:=bw) (rounds:=600) (d:=6) (lsh:=ck) (λr ex ro=>eB ey ev eA bb (λc hc=>(h c hc).f)) hg (enters (by kernel_rfl)) aCX rfl rfl (lens:=[4,4]) ?_;rw[aHn];exact aB5 G
theorem aAD (h:∀c∈[lv],c.bD Tryd.prog wb (dY G c.id)):rX.bD Tryd.prog wb (ew 44):=
 bJ.ps (S:=dY G) (spec:=ew 44) (c:=rX) (cal:=(bo [] [lv] 75 76 53)) (li:=akW) (rounds:=600) (d:=6) gx (λr ex ro=>eB ey ev eA bb (λc hc=>(h c hc).f)) hg (enters (by kernel_rfl)) (λzs rs cX hz h1 h2 e cW=>by
  have je:zs.length=4+4:=dR hz;have l1:rs.length=4:=dR h1;have l2:cX.length=4:=dR h2;unfold ew at e cW;have hs:sh 44=([4,4],[4]):=rfl;rw[hs]at e cW;simp only[Ah je,q6 l1]at e;simp only[Ah je,q6 l2]at cW;have e:ad rs=cr (ad (zs.take 4)) (ad (zs.drop 4)).toNat:=e;have cW:ad cX=cr (ad (zs.take 4)) (ad (zs.drop 4)).toNat:=cW;exact vi h1 h2 (e.trans cW.symm))
  (tM (Ud (G:=G) (id:=44) (lens:=[4,4]) (bds:=(aY rX.args)) (ds:=rX.res) rfl rfl (by rw[aHr];exact aB9 G)))
theorem aAr (h:∀c∈[n4,l4,rX],c.bD Tryd.prog wb (dY G c.id)):rV.bD Tryd.prog wb (ew rV.id):=by
 refine hP (G:=G) (c:=rV) (cal:=(bo [] [n4,l4,rX] 75 76 53)) (li:=bw) (rounds:=600) (d:=6) (lsh:=ck) (λr ex ro=>eB ey ev eA bb (λc hc=>(h c hc).f)) hg (enters (by kernel_rfl)) aCQ rfl rfl (lens:=[4]) ?_;rw[aHf];exact aBX G
theorem aAB (h:∀c∈[rX,lv,oF],c.bD Tryd.prog wb (dY G c.id)):tr.bD Tryd.prog wb (ew tr.id):=by
 refine hP (G:=G) (c:=tr) (cal:=(bo [] [rX,lv,oF] 75 76 53)) (li:=bw) (rounds:=600) (d:=6) (lsh:=ck) (λr ex ro=>eB ey ev eA bb (λc hc=>(h c hc).f)) hg (enters (by kernel_rfl)) aCZ rfl rfl (lens:=[4]) ?_;rw[aHp];exact aB7 G
theorem aAn:qV.bD Tryd.prog wb (ew qV.id):=by
 refine hP (G:=G) (c:=qV) (cal:=(bo [] [] 75 76 53)) (li:=bw) (rounds:=600) (d:=6) (lsh:=ck) (λr ex ro=>eB ey ev eA bb bb) hg (enters (by kernel_rfl)) aCK rfl rfl (lens:=[]) ?_;rw[aG9];exact aBS G
theorem aAE:ve.bD Tryd.prog wb (ew ve.id):=by
 refine hP (G:=G) (c:=ve) (cal:=(bo [] [] 75 76 53)) (li:=bw) (rounds:=600) (d:=6) (lsh:=ck) (λr ex ro=>eB ey ev eA bb bb) hg (enters (by kernel_rfl)) aC1 rfl rfl (lens:=[]) ?_;rw[aHs];exact aCa G
theorem aAk (h:∀c∈[lv,qV,oF,rW],c.bD Tryd.prog wb (dY G c.id)):vb.bD Tryd.prog wb (ew vb.id):=by
 refine hP (G:=G) (c:=vb) (cal:=(bo [] [lv,qV,oF,rW] 75 76 53)) (li:=bw) (rounds:=600) (d:=6) (lsh:=ck) (λr ex ro=>eB ey ev eA bb (λc hc=>(h c hc).f)) hg (enters (by kernel_rfl)) aCH rfl rfl (lens:=[4,4,4,4,4,4]) ?_;rw[aG6];exact aBP G
theorem aAu (h:∀c∈[ve,vb],c.bD Tryd.prog wb (dY G c.id)):qW.bD Tryd.prog wb (ew 123):=
 L1 (bJ.ps (S:=dY G) (spec:=λzs rs=>ew 123 zs rs/\rs=uy G (zs.drop 32) (nb (zs.take 32)).toNat 256) (c:=qW) (cal:=(bo [] [ve,vb] 75 76 53)) (li:=abh) (rounds:=600) (d:=6) gx (λr ex ro=>eB ey ev eA bb (λc hc=>(h c hc).f)) hg (enters (by kernel_rfl)) (λzs rs cX hz h1 h2 e cW=>e.2.trans cW.2.symm)
  (tM λzs hz=>by
    have hv:=nj (L4 (S:=fr G) (K:=V8 G) (sh:=sh) (lsh:=ak5) (lens:=[32,4,4,4]) (bds:=aY qW.args) (ds:=qW.res) (t:=(qW.tree Tryd.prog gl (bo [] [ve,vb] 75 76 53) abh 600 6)) (by rw[aHi];exact aB0 G)) hz;have je:zs.length=32+12:=dR hz;refine kM (λv ρ hl=>?_) _ _ _ hv;unfold ki at hl⊢;split
    ·rename_i os aA;rw[aA]at hl;have hl:eP qW.res 123 (cD [32,4,4,4] zs) (cD (vh qW.res) (os.map (O.den ρ)))/\(cD (vh qW.res) (os.map (O.den ρ))).flatten=uy G (zs.drop 32) (nb (zs.take 32)).toNat 256:=aEq je hl;simp only[eP,uD]at hl;exact⟨hl.1.1,hl.1.2,hl.2⟩
    ·rename_i aA;rw[aA]at hl;exact hl)) λzs rs h=>h.1
theorem aAj (h:∀c∈[rV,lv,tp],c.bD Tryd.prog wb (dY G c.id)):va.bD Tryd.prog wb (ew va.id):=by
 refine hP (G:=G) (c:=va) (cal:=(bo [] [rV,lv,tp] 75 76 53)) (li:=bw) (rounds:=600) (d:=6) (lsh:=ck) (λr ex ro=>eB ey ev eA bb (λc hc=>(h c hc).f)) hg (enters (by kernel_rfl)) aCG rfl rfl (lens:=[4,4,4]) ?_;rw[aG5];exact aBO G
theorem aAA (h:∀c∈[lg,lK,l4,lv,qV,rW,rV,tr,oF],c.bD Tryd.prog wb (dY G c.id)):vd.bD Tryd.prog wb (ew vd.id):=by
 refine hP (G:=G) (c:=vd) (cal:=(bo [] [lg,lK,l4,lv,qV,rW,rV,tr,oF] 75 76 53)) (li:=bw) (rounds:=600) (d:=6) (lsh:=ck) (λr ex ro=>eB ey ev eA bb (λc hc=>(h c hc).f)) hg (enters (by kernel_rfl)) aCY rfl rfl (lens:=[32]) ?_;rw[aHo];exact aB6 G
theorem aAl (h:∀c∈[vd,qW,va],c.bD Tryd.prog wb (dY G c.id)):z8.bD Tryd.prog wb (ew z8.id):=by
 refine hP (G:=G) (c:=z8) (cal:=(bo [] [vd,qW,va] 75 76 53)) (li:=bw) (rounds:=600) (d:=6) (lsh:=ck) (λr ex ro=>eB ey ev eA bb (λc hc=>(h c hc).f)) hg (enters (by kernel_rfl)) aCI rfl rfl (lens:=[32,32]) ?_;rw[aG7];exact aBQ G
theorem aAs:yC.bD Tryd.prog wb (ew yC.id):=by
 refine hP (G:=G) (c:=yC) (cal:=(bo [] [] 75 76 53)) (li:=bw) (rounds:=600) (d:=6) (lsh:=ck) (λr ex ro=>eB ey ev eA bb bb) hg (enters (by kernel_rfl)) aCR rfl rfl (lens:=[]) ?_;rw[aHg];exact aBY G
theorem azC:kO.bD Tryd.prog wb (ew kO.id):=by
 refine hP (G:=G) (c:=kO) (cal:=(bo [] [] 75 76 53)) (li:=bw) (rounds:=600) (d:=6) (lsh:=ck) (λr ex ro=>eB ey ev eA bb bb) hg (enters (by kernel_rfl)) aCq rfl rfl (lens:=[5]) ?_;rw[aGx];exact aBc G
theorem az0 (h:∀c∈[kO],c.bD Tryd.prog wb (dY G c.id)):rS.bD Tryd.prog wb (ew rS.id):=by
 refine hP (G:=G) (c:=rS) (cal:=(bo [] [kO] 75 76 53)) (li:=bw) (rounds:=600) (d:=6) (lsh:=ck) (λr ex ro=>eB ey ev eA bb (λc hc=>(h c hc).f)) hg (enters (by kernel_rfl)) aCy rfl rfl (lens:=[32]) ?_;rw[aGO];exact aBv G
theorem SW (h:∀c∈[kO],c.bD Tryd.prog wb (dY G c.id)):iJ.bD Tryd.prog wb (ew iJ.id):=by
 refine hP (G:=G) (c:=iJ) (cal:=(bo [] [kO] 75 76 53)) (li:=bw) (rounds:=600) (d:=6) (lsh:=ck) (λr ex ro=>eB ey ev eA bb (λc hc=>(h c hc).f)) hg (enters (by kernel_rfl)) aCp rfl rfl (lens:=[5]) ?_;rw[aGw];exact abY G
theorem SZ (h:∀c∈[kO],c.bD Tryd.prog wb (dY G c.id)):iV.bD Tryd.prog wb (ew iV.id):=by
 refine hP (G:=G) (c:=iV) (cal:=(bo [] [kO] 75 76 53)) (li:=bw) (rounds:=600) (d:=6) (lsh:=ck) (λr ex ro=>eB ey ev eA bb (λc hc=>(h c hc).f)) hg (enters (by kernel_rfl)) aCE rfl rfl (lens:=[5,5]) ?_;rw[aG2];exact ab1 G
theorem SY (h:∀c∈[kO],c.bD Tryd.prog wb (dY G c.id)):iU.bD Tryd.prog wb (ew iU.id):=by
 refine hP (G:=G) (c:=iU) (cal:=(bo [] [kO] 75 76 53)) (li:=bw) (rounds:=600) (d:=6) (lsh:=ck) (λr ex ro=>eB ey ev eA bb (λc hc=>(h c hc).f)) hg (enters (by kernel_rfl)) aCB rfl rfl (lens:=[5,5]) ?_;rw[aGX];exact ab0 G
theorem aAS (h:∀c∈[kO],c.bD Tryd.prog wb (dY G c.id)):ic.bD Tryd.prog wb (ew ic.id):=by
 refine hP (G:=G) (c:=ic) (cal:=(bo [] [kO] 75 76 53)) (li:=bw) (rounds:=600) (d:=6) (lsh:=ck) (λr ex ro=>eB ey ev eA bb (λc hc=>(h c hc).f)) hg (enters (by kernel_rfl)) aC4 rfl rfl (lens:=[5,5]) ?_;rw[aHC];exact aCk G
theorem aAM (h:∀c∈[ic],c.bD Tryd.prog wb (dY G c.id)):mx.bD Tryd.prog wb (ew mx.id):=by
 refine hP (G:=G) (c:=mx) (cal:=(bo [] [ic] 75 76 53)) (li:=bw) (rounds:=600) (d:=6) (lsh:=ck) (λr ex ro=>eB ey ev eA bb (λc hc=>(h c hc).f)) hg (enters (by kernel_rfl)) aC3 rfl rfl (lens:=[5]) ?_;rw[aHy];exact aCg G
theorem aAc (h:∀c∈[iU],c.bD Tryd.prog wb (dY G c.id)):po.bD Tryd.prog wb (ew po.id):=by
 refine hP (G:=G) (c:=po) (cal:=(bo [] [iU] 75 76 53)) (li:=bw) (rounds:=600) (d:=6) (lsh:=ck) (λr ex ro=>eB ey ev eA bb (λc hc=>(h c hc).f)) hg (enters (by kernel_rfl)) aCC rfl rfl (lens:=[5]) ?_;rw[aGY];exact aBH G
theorem aAh (h:∀c∈[mx,ic],c.bD Tryd.prog wb (dY G c.id)):qU.bD Tryd.prog wb (ew 43):=
 L1 (bJ.ps (S:=dY G) (spec:=λzs rs=>ew 43 zs rs/\rs=yN G (zs.take 5) (ad (zs.drop 5)).toNat 256) (c:=qU) (cal:=(bo [] [mx,ic] 75 76 53)) (li:=abg) (rounds:=600) (d:=6) gx (λr ex ro=>eB ey ev eA bb (λc hc=>(h c hc).f)) hg (enters (by kernel_rfl)) (λzs rs cX hz h1 h2 e cW=>e.2.trans cW.2.symm)
  (tM λzs hz=>by
    have hv:=nj (L4 (S:=fr G) (K:=V9 G) (sh:=sh) (lsh:=ak4) (lens:=[5,4]) (bds:=aY qU.args) (ds:=qU.res) (t:=(qU.tree Tryd.prog gl (bo [] [mx,ic] 75 76 53) abg 600 6)) (by rw[aG3];exact aBM G)) hz;have je:zs.length=5+4:=dR hz;refine kM (λv ρ hl=>?_) _ _ _ hv;unfold ki at hl⊢;split
    ·rename_i os aA;rw[aA]at hl;simp only[V9,eP,uD,Ah je]at hl;refine⟨hl.1.1,?_,hl.2⟩;unfold ew;rw[show(sh 43).1=[5,4] by rfl,Ah je];exact hl.1.2
    ·rename_i aA;rw[aA]at hl;exact hl)) λzs rs h=>h.1
theorem az6 (h:∀c∈[qU],c.bD Tryd.prog wb (dY G c.id)):rT.bD Tryd.prog wb (ew rT.id):=by
 refine hP (G:=G) (c:=rT) (cal:=(bo [] [qU] 75 76 53)) (li:=bw) (rounds:=600) (d:=6) (lsh:=ck) (λr ex ro=>eB ey ev eA bb (λc hc=>(h c hc).f)) hg (enters (by kernel_rfl)) aCz rfl rfl (lens:=[5]) ?_;rw[aGU];exact aBB G
theorem aAF (h:∀c∈[iJ],c.bD Tryd.prog wb (dY G c.id)):qX.bD Tryd.prog wb (ew qX.id):=by
 refine hP (G:=G) (c:=qX) (cal:=(bo [] [iJ] 75 76 53)) (li:=bw) (rounds:=600) (d:=6) (lsh:=ck) (λr ex ro=>eB ey ev eA bb (λc hc=>(h c hc).f)) hg (enters (by kernel_rfl)) aC2 rfl rfl (lens:=[5,5]) ?_;rw[aHt];exact aCb G
theorem aAf (h:∀c∈[iJ],c.bD Tryd.prog wb (dY G c.id)):qT.bD Tryd.prog wb (ew qT.id):=by
 refine hP (G:=G) (c:=qT) (cal:=(bo [] [iJ] 75 76 53)) (li:=bw) (rounds:=600) (d:=6) (lsh:=ck) (λr ex ro=>eB ey ev eA bb (λc hc=>(h c hc).f)) hg (enters (by kernel_rfl)) aCD rfl rfl (lens:=[5]) ?_;rw[aG1];exact aBK G
theorem aAw (h:∀c∈[qU,mx,qX,qT,po,ic],c.bD Tryd.prog wb (dY G c.id)):uo.bD Tryd.prog wb (ew uo.id):=by
 refine hP (G:=G) (c:=uo) (cal:=(bo [] [qU,mx,qX,qT,po,ic] 75 76 53)) (li:=bw) (rounds:=600) (d:=6) (lsh:=ck) (λr ex ro=>eB ey ev eA bb (λc hc=>(h c hc).f)) hg (enters (by kernel_rfl)) aCU rfl rfl (lens:=[5]) ?_;rw[aHk];exact aB2 G
theorem abJ (h:∀c∈[rS,iJ],c.bD Tryd.prog wb (dY G c.id)):n3.bD Tryd.prog wb (ew n3.id):=by
 refine hP (G:=G) (c:=n3) (cal:=(bo [] [rS,iJ] 75 76 53)) (li:=bw) (rounds:=600) (d:=6) (lsh:=ck) (λr ex ro=>eB ey ev eA bb (λc hc=>(h c hc).f)) hg (enters (by kernel_rfl)) aCN rfl rfl (lens:=[32]) ?_;rw[aHc];exact ab2 G
theorem abL (h:∀c∈[n3],c.bD Tryd.prog wb (dY G c.id)):nz.bD Tryd.prog wb (ew nz.id):=by
 refine hP (G:=G) (c:=nz) (cal:=(bo [] [n3] 75 76 53)) (li:=bw) (rounds:=600) (d:=6) (lsh:=ck) (λr ex ro=>eB ey ev eA bb (λc hc=>(h c hc).f)) hg (enters (by kernel_rfl)) aCP rfl rfl (lens:=[32]) ?_;rw[aHe];exact ab3 G
theorem aAT (h:∀c∈[iV],c.bD Tryd.prog wb (dY G c.id)):vf.bD Tryd.prog wb (ew vf.id):=by
 refine hP (G:=G) (c:=vf) (cal:=(bo [] [iV] 75 76 53)) (li:=bw) (rounds:=600) (d:=6) (lsh:=ck) (λr ex ro=>eB ey ev eA bb (λc hc=>(h c hc).f)) hg (enters (by kernel_rfl)) aC5 rfl rfl (lens:=[]) ?_;rw[aHD];exact aCl G
theorem azY (h:∀c∈[ic],c.bD Tryd.prog wb (dY G c.id)):oD.bD Tryd.prog wb (ew oD.id):=by
 refine hP (G:=G) (c:=oD) (cal:=(bo [] [ic] 75 76 53)) (li:=bw) (rounds:=600) (d:=6) (lsh:=ck) (λr ex ro=>eB ey ev eA bb (λc hc=>(h c hc).f)) hg (enters (by kernel_rfl)) aCx rfl rfl (lens:=[5,5]) ?_;rw[aGN];exact aBt G
theorem azD (h:∀c∈[oD],c.bD Tryd.prog wb (dY G c.id)):sH.bD Tryd.prog wb (ew sH.id):=by
 refine hP (G:=G) (c:=sH) (cal:=(bo [] [oD] 75 76 53)) (li:=bw) (rounds:=600) (d:=6) (lsh:=ck) (λr ex ro=>eB ey ev eA bb (λc hc=>(h c hc).f)) hg (enters (by kernel_rfl)) aCr rfl rfl (lens:=[]) ?_;rw[aGy];exact aBd G
theorem azL (h:∀c∈[oD],c.bD Tryd.prog wb (dY G c.id)):u7.bD Tryd.prog wb (ew u7.id):=by
 refine hP (G:=G) (c:=u7) (cal:=(bo [] [oD] 75 76 53)) (li:=bw) (rounds:=600) (d:=6) (lsh:=ck) (λr ex ro=>eB ey ev eA bb (λc hc=>(h c hc).f)) hg (enters (by kernel_rfl)) aCv rfl rfl (lens:=[]) ?_;rw[aGF];exact aBl G
theorem azJ (h:∀c∈[ic],c.bD Tryd.prog wb (dY G c.id)):rR.bD Tryd.prog wb (ew rR.id):=by
 refine hP (G:=G) (c:=rR) (cal:=(bo [] [ic] 75 76 53)) (li:=bw) (rounds:=600) (d:=6) (lsh:=ck) (λr ex ro=>eB ey ev eA bb (λc hc=>(h c hc).f)) hg (enters (by kernel_rfl)) aCt rfl rfl (lens:=[5,5,5,5]) ?_;rw[aGD];exact aBj G
theorem azK (h:∀c∈[iU,ic,iV,vf,rR],c.bD Tryd.prog wb (dY G c.id)):sI.bD Tryd.prog wb (ew sI.id):=by
 refine hP (G:=G) (c:=sI) (cal:=(bo [] [iU,ic,iV,vf,rR] 75 76 53)) (li:=bw) (rounds:=600) (d:=6) (lsh:=ck) (λr ex ro=>eB ey ev eA bb (λc hc=>(h c hc).f)) hg (enters (by kernel_rfl)) aCu rfl rfl (lens:=[5,5,5,5,5,5,5,5]) ?_;rw[aGE];exact aBk G
theorem azQ (h:∀c∈[mx,iV,iU,rR],c.bD Tryd.prog wb (dY G c.id)):u9.bD Tryd.prog wb (ew u9.id):=by
 refine hP (G:=G) (c:=u9) (cal:=(bo [] [mx,iV,iU,rR] 75 76 53)) (li:=bw) (rounds:=600) (d:=6) (lsh:=ck) (λr ex ro=>eB ey ev eA bb (λc hc=>(h c hc).f)) hg (enters (by kernel_rfl)) aCw rfl rfl (lens:=[5,5,5]) ?_;rw[aGG];exact aBm G
theorem aAa (h:∀c∈[u7,u9,sI],c.bD Tryd.prog wb (dY G c.id)):oE.bD Tryd.prog wb (ew 107):=
 L1 (bJ.ps (S:=dY G) (spec:=λzs rs=>ew 107 zs rs/\rs=w4 G (zs.take 20) (nb (zs.drop 20)).toNat 256) (c:=oE) (cal:=(bo [] [u7,u9,sI] 75 76 53)) (li:=abf) (rounds:=600) (d:=6) gx (λr ex ro=>eB ey ev eA bb (λc hc=>(h c hc).f)) hg (enters (by kernel_rfl)) (λzs rs cX hz h1 h2 e cW=>e.2.trans cW.2.symm)
  (tM λzs hz=>by
    have hv:=nj (L4 (S:=fr G) (K:=V7 G) (sh:=sh) (lsh:=ak3) (lens:=[5,5,5,5,32]) (bds:=aY oE.args) (ds:=oE.res) (t:=(oE.tree Tryd.prog gl (bo [] [u7,u9,sI] 75 76 53) abf 600 6)) (by rw[aGW];exact aBF G)) hz;have je:zs.length=20+32:=dR hz;refine kM (λv ρ hl=>?_) _ _ _ hv;unfold ki at hl⊢;split
    ·rename_i os aA;rw[aA]at hl;have hl:eP oE.res 107 (cD [5,5,5,5,32] zs) (cD (vh oE.res) (os.map (O.den ρ)))/\(cD (vh oE.res) (os.map (O.den ρ))).flatten=w4 G (zs.take 20) (nb (zs.drop 20)).toNat 256:=ay4 je hl;simp only[eP,uD]at hl;exact⟨hl.1.1,hl.1.2,hl.2⟩
    ·rename_i aA;rw[aA]at hl;exact hl)) λzs rs h=>h.1
theorem azE (h:∀c∈[rT,ic,iJ,qT],c.bD Tryd.prog wb (dY G c.id)):qa.bD Tryd.prog wb (ew qa.id):=by
 refine hP (G:=G) (c:=qa) (cal:=(bo [] [rT,ic,iJ,qT] 75 76 53)) (li:=bw) (rounds:=600) (d:=6) (lsh:=ck) (λr ex ro=>eB ey ev eA bb (λc hc=>(h c hc).f)) hg (enters (by kernel_rfl)) aCs rfl rfl (lens:=[5,5,5]) ?_;rw[aGz];exact aBe G
theorem aAp (h:∀c∈[nz,rS,mx,iU,ic,iV,rT,uo,qX,po,oD],c.bD Tryd.prog wb (dY G c.id)):tq.bD Tryd.prog wb (ew tq.id):=by
 refine hP (G:=G) (c:=tq) (cal:=(bo [] [nz,rS,mx,iU,ic,iV,rT,uo,qX,po,oD] 75 76 53)) (li:=bw) (rounds:=600) (d:=6) (lsh:=ck) (λr ex ro=>eB ey ev eA bb (λc hc=>(h c hc).f)) hg (enters (by kernel_rfl)) aCM rfl rfl (lens:=[32]) ?_;rw[aHb];exact aBU G
theorem azI (h:∀c∈[tq,po,qa],c.bD Tryd.prog wb (dY G c.id)):z7.bD Tryd.prog wb (ew 112):=
 bJ.ps (S:=dY G) (spec:=ew 112) (c:=z7) (cal:=(bo [] [tq,po,qa] 75 76 53)) (li:=bw) (rounds:=600) (d:=6) gx (λr ex ro=>eB ey ev eA bb (λc hc=>(h c hc).f)) hg (enters (by kernel_rfl)) (λzs rs cX hz h1 h2 e cW=>by
  have je:zs.length=32:=dR hz;exact anX (id:=112) (al:=[zs]) (o:=(dec (nb (zs))).map rY) rfl (by rw[show(sh 112).1=[32] by rfl];exact q6 je) (λr e h=>h) h1 h2 e cW)
  (tM (Ud (G:=G) (id:=112) (lens:=[32]) (bds:=(aY z7.args)) (ds:=z7.res) rfl rfl (by rw[aGC];exact aBi G)))
theorem azB (h:∀c∈[sH,oE,qa],c.bD Tryd.prog wb (dY G c.id)):z1.bD Tryd.prog wb (ew z1.id):=by
 refine hP (G:=G) (c:=z1) (cal:=(bo [] [sH,oE,qa] 75 76 53)) (li:=bw) (rounds:=600) (d:=6) (lsh:=ck) (λr ex ro=>eB ey ev eA bb (λc hc=>(h c hc).f)) hg (enters (by kernel_rfl)) aCo rfl rfl (lens:=[32]) ?_;rw[aGv];exact aBb G
theorem azH (h:∀c∈[tq,oE,sH,sI,qa],c.bD Tryd.prog wb (dY G c.id)):z6.bD Tryd.prog wb (ew 115):=
 bJ.ps (S:=dY G) (spec:=ew 115) (c:=z6) (cal:=(bo [] [tq,oE,sH,sI,qa] 75 76 53)) (li:=bw) (rounds:=600) (d:=6) gx (λr ex ro=>eB ey ev eA bb (λc hc=>(h c hc).f)) hg (enters (by kernel_rfl)) (λzs rs cX hz h1 h2 e cW=>by
  have je:zs.length=32+(32+32):=dR hz;exact anX (id:=115) (al:=[zs.take 32,(zs.drop 32).take 32,(zs.drop 32).drop 32]) (o:=(dec (nb ((zs.drop 32).take 32))).map λA=>fU (er (nb (zs.take 32)).toNat A) (er (nb ((zs.drop 32).drop 32)).toNat ln)) rfl (by rw[show(sh 115).1=[32,32,32] by rfl];exact TC je) (λr e h=>h) h1 h2 e cW)
  (tM (Ud (G:=G) (id:=115) (lens:=[32,32,32]) (bds:=(aY z6.args)) (ds:=z6.res) rfl rfl (by rw[aGB];exact aBh G)))
end
theorem AW {wb:aG} (hg:gM gl ⟨wb,wb,λ_=>False,λ_=>False,[]⟩):∃G,ff wb [z6,z1,z7,tq,qa,oE,u9,sI,rR,u7,sH,oD,vf,nz,n3,uo,qT,qX,rT,qU,po,mx,ic,iU,iV,iJ,rS,kO,yC,z8,vd,va,qW,vb,ve,qV,tr,rV,rX,lv,vc,oF,rW,rU,n5,n4,lK,l4,tp,lg] G:=by
 obtain⟨apW,h0⟩:∃G,ff wb [] G:=⟨λ_ _=>[],bb⟩;obtain⟨G1,h1⟩:=ff.step (c:=lg) h0 (by decide) (SX hg (G:=apW));obtain⟨PG,h2⟩:=ff.step (c:=tp) h1 (by decide) (aAi hg (G:=G1));obtain⟨VR,h3⟩:=ff.step (c:=l4) h2 (by decide) (aAx hg (G:=PG));obtain⟨PH,h4⟩:=ff.step (c:=lK) h3 (by decide) (aAt hg (G:=VR));obtain⟨aqB,h5⟩:=ff.step (c:=n4) h4 (by decide) (aAv hg (G:=PH));obtain⟨aqD,h6⟩:=ff.step (c:=n5) h5 (by decide) (aAy hg (G:=aqB));obtain⟨aqE,h7⟩:=ff.step (c:=rU) h6 (by decide) (aAm hg (G:=aqD) (List.forall_mem_cons.2 ⟨h6 _ (cm (i:=2) rfl),(List.forall_mem_cons.2 ⟨h6 _ (cm (i:=3) rfl),(List.forall_mem_cons.2 ⟨h6 _ (cm (i:=1) rfl),bb⟩)⟩)⟩));obtain⟨aqF,fq⟩:=ff.step (c:=rW) h7 (by decide) (aAC hg (G:=aqE) (List.forall_mem_cons.2 ⟨h7 _ (cm (i:=1) rfl),(List.forall_mem_cons.2 ⟨h7 _ (cm (i:=0) rfl),bb⟩)⟩));obtain⟨aqG,ef⟩:=ff.step (c:=oF) fq (by decide) (aAo hg (G:=aqF) (List.forall_mem_cons.2 ⟨fq _ (cm (i:=4) rfl),(List.forall_mem_cons.2 ⟨fq _ (cm (i:=2) rfl),(List.forall_mem_cons.2 ⟨fq _ (cm (i:=5) rfl),(List.forall_mem_cons.2 ⟨fq _ (cm (i:=3) rfl),bb⟩)⟩)⟩)⟩));obtain⟨apX,mV⟩:=ff.step (c:=vc) ef (by decide) (aAq hg (G:=aqG) (List.forall_mem_cons.2 ⟨ef _ (cm (i:=3) rfl),(List.forall_mem_cons.2 ⟨ef _ (cm (i:=2) rfl),bb⟩)⟩));obtain⟨apY,qH⟩:=ff.step (c:=lv) mV (by decide) (aAz hg (G:=apX) (List.forall_mem_cons.2 ⟨mV _ (cm (i:=0) rfl),bb⟩));obtain⟨apZ,jV⟩:=ff.step (c:=rX) qH (by decide) (aAD hg (G:=apY) (List.forall_mem_cons.2 ⟨qH _ (cm (i:=0) rfl),bb⟩));obtain⟨ap0,la⟩:=ff.step (c:=rV) jV (by decide) (aAr hg (G:=apZ) (List.forall_mem_cons.2 ⟨jV _ (cm (i:=7) rfl),(List.forall_mem_cons.2 ⟨jV _ (cm (i:=9) rfl),(List.forall_mem_cons.2 ⟨jV _ (cm (i:=0) rfl),bb⟩)⟩)⟩));obtain⟨ap1,lb⟩:=ff.step (c:=tr) la (by decide) (aAB hg (G:=ap0) (List.forall_mem_cons.2 ⟨la _ (cm (i:=1) rfl),(List.forall_mem_cons.2 ⟨la _ (cm (i:=2) rfl),(List.forall_mem_cons.2 ⟨la _ (cm (i:=4) rfl),bb⟩)⟩)⟩));obtain⟨ap2,aix⟩:=ff.step (c:=qV) lb (by decide) (aAn hg (G:=ap1));obtain⟨ap3,qI⟩:=ff.step (c:=ve) aix (by decide) (aAE hg (G:=ap2));obtain⟨ap4,Jz⟩:=ff.step (c:=vb) qI (by decide) (aAk hg (G:=ap3) (List.forall_mem_cons.2 ⟨qI _ (cm (i:=5) rfl),(List.forall_mem_cons.2 ⟨qI _ (cm (i:=1) rfl),(List.forall_mem_cons.2 ⟨qI _ (cm (i:=7) rfl),(List.forall_mem_cons.2 ⟨qI _ (cm (i:=8) rfl),bb⟩)⟩)⟩)⟩));obtain⟨ap5,MR⟩:=ff.step (c:=qW) Jz (by decide) (aAu hg (G:=ap4) (List.forall_mem_cons.2 ⟨Jz _ (cm (i:=1) rfl),(List.forall_mem_cons.2 ⟨Jz _ (cm (i:=0) rfl),bb⟩)⟩));obtain⟨ap6,zE⟩:=ff.step (c:=va) MR (by decide) (aAj hg (G:=ap5) (List.forall_mem_cons.2 ⟨MR _ (cm (i:=5) rfl),(List.forall_mem_cons.2 ⟨MR _ (cm (i:=7) rfl),(List.forall_mem_cons.2 ⟨MR _ (cm (i:=16) rfl),bb⟩)⟩)⟩))
 obtain⟨ap7,MS⟩:=ff.step (c:=vd) zE (by decide) (aAA hg (G:=ap6) (List.forall_mem_cons.2 ⟨zE _ (cm (i:=18) rfl),(List.forall_mem_cons.2 ⟨zE _ (cm (i:=15) rfl),(List.forall_mem_cons.2 ⟨zE _ (cm (i:=16) rfl),(List.forall_mem_cons.2 ⟨zE _ (cm (i:=8) rfl),(List.forall_mem_cons.2 ⟨zE _ (cm (i:=4) rfl),(List.forall_mem_cons.2 ⟨zE _ (cm (i:=11) rfl),(List.forall_mem_cons.2 ⟨zE _ (cm (i:=6) rfl),(List.forall_mem_cons.2 ⟨zE _ (cm (i:=5) rfl),(List.forall_mem_cons.2 ⟨zE _ (cm (i:=10) rfl),bb⟩)⟩)⟩)⟩)⟩)⟩)⟩)⟩)⟩));obtain⟨ap8,aiy⟩:=ff.step (c:=z8) MS (by decide) (aAl hg (G:=ap7) (List.forall_mem_cons.2 ⟨MS _ (cm (i:=0) rfl),(List.forall_mem_cons.2 ⟨MS _ (cm (i:=2) rfl),(List.forall_mem_cons.2 ⟨MS _ (cm (i:=1) rfl),bb⟩)⟩)⟩));obtain⟨ap9,aiz⟩:=ff.step (c:=yC) aiy (by decide) (aAs hg (G:=ap8));obtain⟨aqa,Q2⟩:=ff.step (c:=kO) aiz (by decide) (azC hg (G:=ap9));obtain⟨aqb,Yu⟩:=ff.step (c:=rS) Q2 (by decide) (az0 hg (G:=aqa) (List.forall_mem_cons.2 ⟨Q2 _ (cm (i:=0) rfl),bb⟩));obtain⟨aqc,Yv⟩:=ff.step (c:=iJ) Yu (by decide) (SW hg (G:=aqb) (List.forall_mem_cons.2 ⟨Yu _ (cm (i:=1) rfl),bb⟩));obtain⟨aqd,Q3⟩:=ff.step (c:=iV) Yv (by decide) (SZ hg (G:=aqc) (List.forall_mem_cons.2 ⟨Yv _ (cm (i:=2) rfl),bb⟩));obtain⟨aqe,Yw⟩:=ff.step (c:=iU) Q3 (by decide) (SY hg (G:=aqd) (List.forall_mem_cons.2 ⟨Q3 _ (cm (i:=3) rfl),bb⟩));obtain⟨aqf,Yx⟩:=ff.step (c:=ic) Yw (by decide) (aAS hg (G:=aqe) (List.forall_mem_cons.2 ⟨Yw _ (cm (i:=4) rfl),bb⟩));obtain⟨aqg,Yy⟩:=ff.step (c:=mx) Yx (by decide) (aAM hg (G:=aqf) (List.forall_mem_cons.2 ⟨Yx _ (cm (i:=0) rfl),bb⟩));obtain⟨aqh,Q4⟩:=ff.step (c:=po) Yy (by decide) (aAc hg (G:=aqg) (List.forall_mem_cons.2 ⟨Yy _ (cm (i:=2) rfl),bb⟩));obtain⟨aqi,Yz⟩:=ff.step (c:=qU) Q4 (by decide) (aAh hg (G:=aqh) (List.forall_mem_cons.2 ⟨Q4 _ (cm (i:=1) rfl),(List.forall_mem_cons.2 ⟨Q4 _ (cm (i:=2) rfl),bb⟩)⟩));obtain⟨aqj,YA⟩:=ff.step (c:=rT) Yz (by decide) (az6 hg (G:=aqi) (List.forall_mem_cons.2 ⟨Yz _ (cm (i:=0) rfl),bb⟩));obtain⟨aqk,YB⟩:=ff.step (c:=qX) YA (by decide) (aAF hg (G:=aqj) (List.forall_mem_cons.2 ⟨YA _ (cm (i:=7) rfl),bb⟩));obtain⟨aql,ET⟩:=ff.step (c:=qT) YB (by decide) (aAf hg (G:=aqk) (List.forall_mem_cons.2 ⟨YB _ (cm (i:=8) rfl),bb⟩));obtain⟨aqm,p3⟩:=ff.step (c:=uo) ET (by decide) (aAw hg (G:=aql) (List.forall_mem_cons.2 ⟨ET _ (cm (i:=3) rfl),(List.forall_mem_cons.2 ⟨ET _ (cm (i:=5) rfl),(List.forall_mem_cons.2 ⟨ET _ (cm (i:=1) rfl),(List.forall_mem_cons.2 ⟨ET _ (cm (i:=0) rfl),(List.forall_mem_cons.2 ⟨ET _ (cm (i:=4) rfl),(List.forall_mem_cons.2 ⟨ET _ (cm (i:=6) rfl),bb⟩)⟩)⟩)⟩)⟩)⟩));obtain⟨aqn,YC⟩:=ff.step (c:=n3) p3 (by decide) (abJ hg (G:=aqm) (List.forall_mem_cons.2 ⟨p3 _ (cm (i:=11) rfl),(List.forall_mem_cons.2 ⟨p3 _ (cm (i:=10) rfl),bb⟩)⟩));obtain⟨aqo,YD⟩:=ff.step (c:=nz) YC (by decide) (abL hg (G:=aqn) (List.forall_mem_cons.2 ⟨YC _ (cm (i:=0) rfl),bb⟩));obtain⟨aqp,YE⟩:=ff.step (c:=vf) YD (by decide) (aAT hg (G:=aqo) (List.forall_mem_cons.2 ⟨YD _ (cm (i:=11) rfl),bb⟩))
 obtain⟨aqq,YF⟩:=ff.step (c:=oD) YE (by decide) (azY hg (G:=aqp) (List.forall_mem_cons.2 ⟨YE _ (cm (i:=10) rfl),bb⟩));obtain⟨aqr,YG⟩:=ff.step (c:=sH) YF (by decide) (azD hg (G:=aqq) (List.forall_mem_cons.2 ⟨YF _ (cm (i:=0) rfl),bb⟩));obtain⟨aqs,Q6⟩:=ff.step (c:=u7) YG (by decide) (azL hg (G:=aqr) (List.forall_mem_cons.2 ⟨YG _ (cm (i:=1) rfl),bb⟩));obtain⟨aqt,GZ⟩:=ff.step (c:=rR) Q6 (by decide) (azJ hg (G:=aqs) (List.forall_mem_cons.2 ⟨Q6 _ (cm (i:=13) rfl),bb⟩));obtain⟨aqu,JA⟩:=ff.step (c:=sI) GZ (by decide) (azK hg (G:=aqt) (List.forall_mem_cons.2 ⟨GZ _ (cm (i:=15) rfl),(List.forall_mem_cons.2 ⟨GZ _ (cm (i:=14) rfl),(List.forall_mem_cons.2 ⟨GZ _ (cm (i:=16) rfl),(List.forall_mem_cons.2 ⟨GZ _ (cm (i:=4) rfl),(List.forall_mem_cons.2 ⟨GZ _ (cm (i:=0) rfl),bb⟩)⟩)⟩)⟩)⟩));obtain⟨aqv,JB⟩:=ff.step (c:=u9) JA (by decide) (azQ hg (G:=aqu) (List.forall_mem_cons.2 ⟨JA _ (cm (i:=14) rfl),(List.forall_mem_cons.2 ⟨JA _ (cm (i:=17) rfl),(List.forall_mem_cons.2 ⟨JA _ (cm (i:=16) rfl),(List.forall_mem_cons.2 ⟨JA _ (cm (i:=1) rfl),bb⟩)⟩)⟩)⟩));obtain⟨aqw,JC⟩:=ff.step (c:=oE) JB (by decide) (aAa hg (G:=aqv) (List.forall_mem_cons.2 ⟨JB _ (cm (i:=3) rfl),(List.forall_mem_cons.2 ⟨JB _ (cm (i:=0) rfl),(List.forall_mem_cons.2 ⟨JB _ (cm (i:=1) rfl),bb⟩)⟩)⟩));obtain⟨aqx,wO⟩:=ff.step (c:=qa) JC (by decide) (azE hg (G:=aqw) (List.forall_mem_cons.2 ⟨JC _ (cm (i:=13) rfl),(List.forall_mem_cons.2 ⟨JC _ (cm (i:=17) rfl),(List.forall_mem_cons.2 ⟨JC _ (cm (i:=20) rfl),(List.forall_mem_cons.2 ⟨JC _ (cm (i:=11) rfl),bb⟩)⟩)⟩)⟩));obtain⟨aqy,MU⟩:=ff.step (c:=tq) wO (by decide) (aAp hg (G:=aqx) (List.forall_mem_cons.2 ⟨wO _ (cm (i:=9) rfl),(List.forall_mem_cons.2 ⟨wO _ (cm (i:=22) rfl),(List.forall_mem_cons.2 ⟨wO _ (cm (i:=17) rfl),(List.forall_mem_cons.2 ⟨wO _ (cm (i:=19) rfl),(List.forall_mem_cons.2 ⟨wO _ (cm (i:=18) rfl),(List.forall_mem_cons.2 ⟨wO _ (cm (i:=20) rfl),(List.forall_mem_cons.2 ⟨wO _ (cm (i:=14) rfl),(List.forall_mem_cons.2 ⟨wO _ (cm (i:=11) rfl),(List.forall_mem_cons.2 ⟨wO _ (cm (i:=13) rfl),(List.forall_mem_cons.2 ⟨wO _ (cm (i:=16) rfl),(List.forall_mem_cons.2 ⟨wO _ (cm (i:=7) rfl),bb⟩)⟩)⟩)⟩)⟩)⟩)⟩)⟩)⟩)⟩)⟩));obtain⟨aqz,MV⟩:=ff.step (c:=z7) MU (by decide) (azI hg (G:=aqy) (List.forall_mem_cons.2 ⟨MU _ (cm (i:=0) rfl),(List.forall_mem_cons.2 ⟨MU _ (cm (i:=17) rfl),(List.forall_mem_cons.2 ⟨MU _ (cm (i:=1) rfl),bb⟩)⟩)⟩));obtain⟨aqA,G0⟩:=ff.step (c:=z1) MV (by decide) (azB hg (G:=aqz) (List.forall_mem_cons.2 ⟨MV _ (cm (i:=8) rfl),(List.forall_mem_cons.2 ⟨MV _ (cm (i:=3) rfl),(List.forall_mem_cons.2 ⟨MV _ (cm (i:=2) rfl),bb⟩)⟩)⟩));obtain⟨aqC,aiB⟩:=ff.step (c:=z6) G0 (by decide) (azH hg (G:=aqA) (List.forall_mem_cons.2 ⟨G0 _ (cm (i:=2) rfl),(List.forall_mem_cons.2 ⟨G0 _ (cm (i:=4) rfl),(List.forall_mem_cons.2 ⟨G0 _ (cm (i:=9) rfl),(List.forall_mem_cons.2 ⟨G0 _ (cm (i:=6) rfl),(List.forall_mem_cons.2 ⟨G0 _ (cm (i:=3) rfl),bb⟩)⟩)⟩)⟩)⟩));exact⟨aqC,aiB⟩
end Go.Fd
