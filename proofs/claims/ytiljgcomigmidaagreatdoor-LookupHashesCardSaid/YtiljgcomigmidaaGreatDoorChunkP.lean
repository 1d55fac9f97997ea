/- slices.Chunk's iterator,for every loop body that leaves the two captured boxes as they are. -/
import Derived.RangeFuncSeq
import Derived.Maps.RangeWalk
import Derived.WalkKit
import Derived.OwnWalkIn
import Derived.TacticsInMore
import Derived.RegionIn
import Derived.LoopNIn
import Derived.LoopIn
import Derived.KernelRfl
import Derived.Test.YtiljgcomigmidaaGreatDoorProg
set_option maxRecDepth 100000
namespace Go.Proofs
open Go
theorem Tryz.af4 (l bs oS:Nat) (sv:Value) (g off len cap c:Nat) (J:Nat->World->Prop) (W:World)
 (hc:0<c) (hlen:len<=0x7fffffffffffffff) (A2:c∣len) (cv:len<=cap) (hc2:c<=0x7fffffffffffffff)
 (rY:sv= .slice (some ⟨g,off,none⟩) len cap∨((∃p,sv= .slice p 0 0)/\len=0))
 (hJ:∀i W,J i W->W.cell? ⟨bs,0,none⟩=some sv/\W.cell? ⟨oS,0,none⟩=some (.int .i64 c))
 (hd:∀i W,J i W->J i W.drew)
 (hY:∀i W,J i W->c*i<len->YieldAt Fence.wide 0 Tryz.prog l #[.slice (some ⟨g,off+c*i,none⟩) c c] W λe W'=>e= .returned (.bool true)/\J (i+1) W')
 (h0:J 0 W):
 CallsIn Fence.wide 0 Tryz.prog 115 #[.func (.yield l) #[] #[],.pointer (some ⟨bs,0,none⟩),.pointer (some ⟨oS,0,none⟩)] W λe W'=>(∃v,e= .returned v)/\J (len/c) W':=by
 refine callsIn_of_wp Tryz.func115 rfl trivial ?_ rfl
 simp only[Tryz.ntmps115,List.size_toArray,List.length_cons,List.length_nil,Nat.reduceAdd,Nat.reduceSub,Array.replicate_succ,Array.replicate_zero,List.push_toArray,List.append_toArray,List.nil_append,List.cons_append]
 gi_wp2
 gi_loopw [4] (λv wr=>∃x i:Nat,v= .int .i64 (x:Int)/\c*i=x/\x<=len/\J i wr) (λv _=>len-(match v with| .int _ z=>z.toNat|_=>0))
 case atStart=>exact⟨0,0,rfl,rfl,by simp,h0⟩
 case round=>
  obtain⟨x,i,hv,hx,hle,IV⟩:=hrel
  obtain⟨h1,h2⟩:=hJ i _ IV
  subst hv
  rcases rY with rfl|⟨⟨p,rfl⟩,hl⟩
  ·by_cases hlt:x<len
   ·have XN:((x:Nat):Int)<(len:Int):=by omega
    have iW:c<=len-x:=by
     obtain⟨q,rfl⟩:=A2
     have:i<q:=Nat.lt_of_mul_lt_mul_left (a:=c) (by omega)
     have:c*(i+1)<=c*q:=Nat.mul_le_mul_left c this
     rw[Nat.mul_succ]at this
     omega
    have h3:wr.drew.cell? ⟨bs,0,none⟩=some (.slice (some ⟨g,off,none⟩) len cap):=h1
    have h4:wr.drew.cell? ⟨oS,0,none⟩=some (.int .i64 c):=h2
    have ail:=hd i wr IV
    obtain⟨fn,tmps,assign,body,hy,hR⟩:=hY i _ ail (hx.symm▸hlt)
    rw[hx]at hy
    gi_wp2
    gi_region
    gi_wp2
    refine⟨rfl,hR.mono ?_⟩
    rintro e W3 ⟨rfl,hJ3⟩
    obtain⟨h5,h6⟩:=hJ (i+1) _ hJ3
    gi_wp2
    go_roundw
    case rel=>exact⟨x+c,i+1,by simp,by rw[Nat.mul_succ,hx],by omega,hJ3⟩
    case measure=>simp;omega
   ·have XN:¬((x:Nat):Int)<(len:Int):=by omega
    have hi:i=len/c:=by rw[show len=c*i by omega,Nat.mul_div_cancel_left _ hc]
    gi_wp2
    go_end0
    exact⟨⟨_,rfl⟩,by rw[<-hi];exact IV⟩
  ·have XN:¬((x:Nat):Int)<((0:Nat):Int):=by omega
   have hi:i=len/c:=by
    have h0:c*i=0:=by omega
    have:i=0:=by
     rcases Nat.mul_eq_zero.1 h0 with h|h
     ·omega
     ·exact h
    rw[this,hl];simp
   gi_wp2
   go_end0
   rw[hl,Nat.zero_div]at hi
   subst hi
   exact⟨⟨_,rfl⟩,by simpa [hl]using IV⟩
end Go.Proofs
