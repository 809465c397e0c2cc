/- Calls by kinds for chains as they come, canonical or not. cocyclelaw07.ChainsWide: the two chains. Calls by kinds: boundaries, coboundaries and .. -/
import Derived.Test.YtlhicnfeajejhaaGreatDoorJOm
set_option maxRecDepth 1000000
set_option maxHeartbeats 16000000
namespace Go.Proofs.YtlhicnfeajejhaaGreatDoor
open Go.RowKit Go.Cx
section
variable (v u:Value) (l m:List Tm) (S:Nat) (f:Int->Int) (w:World) (h:Sl w 3 v (tv l)) (k:Sl w 3 u (tv m)) (hS:TOk S l) (kS:TOk S m) (hl:l.length<=100) (km:m.length<=100) (hb:S<=100)
include h hS hl hb
include k kS km
end
end Go.Proofs.YtlhicnfeajejhaaGreatDoor
namespace Go.Proofs.YtlhicnfeajejhaaGreatDoor
open Go.RowKit Go.Cx
attribute [local go_sem ↓] Go.wp_at_zero Go.wp_at_succ
theorem q1d {w:World} {b1 b2 s1 s2 n1 n2:Nat} {e1 e2:TypeId} {v1 v2:Value} {xs1 xs2:List Value} (h1:w.ownsRow b1 e1 s1 v1 n1 xs1) (h2:w.ownsRow b2 e2 s2 v2 n2 xs2) (hne:e1≠e2):v1.ownBlock=none\/v1.ownBlock≠v2.ownBlock:=by
 rcases h1.2 with ⟨rfl,_⟩ | ⟨g1,_,_,rfl,_,hg1,_⟩
 ·exact .inl rfl
 ·refine .inr fun he=>?_
  rcases h2.2 with ⟨rfl,_⟩ | ⟨g2,_,_,rfl,_,hg2,_⟩
  ·cases he
  ·injection he with he
   have he':g1=g2:=he;subst he';rw[hg1] at hg2;injection hg2 with hg2
   injection hg2 with _ h _
   exact hne h
end Go.Proofs.YtlhicnfeajejhaaGreatDoor
namespace Go.Proofs.YtlhicnfeajejhaaGreatDoor
open Go.RowKit Go.Cx
section
variable (v u:Value) (K:List Cl) (l:List Tm) (S:Nat) (f:Int->Int) (w:World) (h:(Fk.cx K).holds v w) (k:Sl w 3 u (tv l)) (hK:KOk K) (hS:TOk S l) (hl:l.length<=100) (hSS:S<=100) (hR:(z8 K).length<=500)
include hK hS hl hSS hR
include h k
end
end Go.Proofs.YtlhicnfeajejhaaGreatDoor
