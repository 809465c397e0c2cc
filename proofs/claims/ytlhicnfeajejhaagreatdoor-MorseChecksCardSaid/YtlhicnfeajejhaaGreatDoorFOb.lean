/- Steps towards MorseChecks. Conditions: none. -/
import Derived.Test.YtlhicnfeajejhaaGreatDoorFOm
set_option maxRecDepth 1000000
set_option maxHeartbeats 16000000
namespace Go.Proofs.YtlhicnfeajejhaaGreatDoor
open Go.RowKit Go.Cx
attribute [local go_sem ↓] Go.wp_at_zero Go.wp_at_succ
theorem q1d {w:World} {b1 b2 s1 s2 n1 n2:Nat} {e1 e2:TypeId} {v1 v2:Value} {Ri Rj:List Value} (h1:w.ownsRow b1 e1 s1 v1 n1 Ri) (h2:w.ownsRow b2 e2 s2 v2 n2 Rj) (ak:e1≠e2):v1.ownBlock=none\/v1.ownBlock≠v2.ownBlock:=by
 rcases h1.2 with ⟨rfl,_⟩ | ⟨g1,_,_,rfl,_,cA,_⟩
 ·exact .inl rfl
 ·refine .inr fun he=>?_
  rcases h2.2 with ⟨rfl,_⟩ | ⟨g2,_,_,rfl,_,dH,_⟩
  ·cases he
  ·injection he with he
   have Rk:g1=g2:=he;subst Rk;rw[cA] at dH;injection dH with dH
   injection dH with _ h _
   exact ak h
end Go.Proofs.YtlhicnfeajejhaaGreatDoor
