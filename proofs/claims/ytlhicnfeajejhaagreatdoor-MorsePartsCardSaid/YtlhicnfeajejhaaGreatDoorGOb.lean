/- Steps towards MorseParts. Conditions: none. -/
import Derived.Test.YtlhicnfeajejhaaGreatDoorGOa
import Derived.Test.YtlhicnfeajejhaaGreatDoorGOm
set_option maxRecDepth 1000000
set_option maxHeartbeats 16000000
namespace Go.Proofs.YtlhicnfeajejhaaGreatDoor
open Go.RowKit Go.Cx
attribute [local go_sem ↓] Go.wp_at_zero Go.wp_at_succ
theorem q1d {w:World} {b1 b2 s1 s2 n1 n2:Nat} {e1 e2:TypeId} {v1 v2:Value} {Ub Uc:List Value} (h1:w.ownsRow b1 e1 s1 v1 n1 Ub) (h2:w.ownsRow b2 e2 s2 v2 n2 Uc) (al:e1≠e2):v1.ownBlock=none\/v1.ownBlock≠v2.ownBlock:=by
 rcases h1.2 with ⟨rfl,_⟩ | ⟨g1,_,_,rfl,_,dt,_⟩
 ·exact .inl rfl
 ·refine .inr fun he=>?_
  rcases h2.2 with ⟨rfl,_⟩ | ⟨g2,_,_,rfl,_,fJ,_⟩
  ·cases he
  ·injection he with he
   have Ud:g1=g2:=he;subst Ud;rw[dt] at fJ;injection fJ with fJ
   injection fJ with _ h _
   exact al h
end Go.Proofs.YtlhicnfeajejhaaGreatDoor
namespace Go.Proofs.YtlhicnfeajejhaaGreatDoor
open Go.RowKit Go.Cx
section
variable (v u:Value) (K:List Cl) (l:List Tm) (S:Nat) (f:Int->Int) (w:World) (h:(Fk.cx K).holds v w) (k:Sl w 3 u (tv l)) (hK:KOk K) (hS:TOk S l) (hl:l.length<=100) (Ue:S<=100) (hR:(z8 K).length<=500)
include hK hS hl Ue hR
include h k
end
theorem qqz:∀ args w,(callFunc 49 args).run Tryz.prog w = .ok (.enter 49 args) w:=q7b Tryz.func49 (by kernel_rfl) (by kernel_rfl)
end Go.Proofs.YtlhicnfeajejhaaGreatDoor
