/- Steps towards MorseChecks. Conditions: none. -/
import Derived.Test.YtlhicnfeajejhaaGreatDoorFQv
set_option maxRecDepth 1000000
set_option maxHeartbeats 16000000
namespace Go.Proofs.YtlhicnfeajejhaaGreatDoor
open Go.RowKit Go.Cx
section
variable {K:List Cl} (G:Cx.Good K) (hc:chk K=(0,0)) (mX:∀ f r,q1q (fun d=>q1q f d K) r K=0) {m:List (Int×Int)} (hm:j8 K m=0)
include G hc hm
include mX
end
theorem qor (l:List Int):∀ x∈q25 l,0<=x.dim/\x.dim<=5:=fun x hx=>by
 have S:=qid ((l.take 12).map q11) fun s hs=>by
  obtain⟨x,_,rfl⟩:=go.1 hs;exact⟨(q5d x).1,(q5d x).2.1⟩
 have hx:x∈xf (kg ((l.take 12).map q11)) (kg ((l.take 12).map q11)).length:=hx;generalize kg ((l.take 12).map q11)=A at S hx;obtain⟨i,hi,rfl⟩:=go.1 hx;have hi:=gy.1 hi;have hm:A.getD i []∈A:=by
  rw[gI,g8 hi];exact List.getElem_mem _
 have h1:=S.len _ hm;have h2:=List.length_pos_iff.2 (S.ne _ hm);show 0<=((A.getD i []).length:Int) - 1/\((A.getD i []).length:Int) - 1<=5;omega
end Go.Proofs.YtlhicnfeajejhaaGreatDoor
