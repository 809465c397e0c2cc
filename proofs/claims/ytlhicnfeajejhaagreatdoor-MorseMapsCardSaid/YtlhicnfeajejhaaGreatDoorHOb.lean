/- Steps towards MorseMaps. Conditions: none. -/
import Derived.Test.YtlhicnfeajejhaaGreatDoorHOa
import Derived.Test.YtlhicnfeajejhaaGreatDoorHOm
set_option maxRecDepth 1000000
set_option maxHeartbeats 16000000
namespace Go.Proofs.YtlhicnfeajejhaaGreatDoor
open Go.RowKit Go.Cx
theorem qsf {S:Nat} {l:List Tm} (h:TOk S l) (c:Int) (hc:co (prs l) c≠0):I64 c:=by
 rcases Classical.em (∃ y∈l,y.c=c) with ⟨y,hy,rfl⟩ | dS
 ·have:=h y hy;exact⟨this.1,this.2.1⟩
 ·exact absurd (q0j (prs l) c (fun r hr e=>by
   obtain⟨y,hy,rfl⟩:=go.1 hr;exact dS ⟨y,hy,e⟩)) hc
theorem qnh {S:Nat} {l:List Tm} (h:TOk S l) (c:Int):nb (co (prs l) c)<=S+l.length:=by
 have:=q0y S (prs l) (q19 h) c
 rwa [kq] at this
section
variable (v u:Value) (l m:List Tm) (S:Nat) (f:Int->Int) (w:World) (h:Sl w 3 v (tv l)) (k:Sl w 3 u (tv m)) (hS:TOk S l) (kS:TOk S m) (hl:l.length<=100) (km:m.length<=100) (hb:S<=100)
include h hS hl hb
include k kS km
end
end Go.Proofs.YtlhicnfeajejhaaGreatDoor
namespace Go.Proofs.YtlhicnfeajejhaaGreatDoor
open Go.RowKit Go.Cx
attribute [local go_sem ↓] Go.wp_at_zero Go.wp_at_succ
theorem q1d {w:World} {b1 b2 s1 s2 n1 n2:Nat} {e1 e2:TypeId} {v1 v2:Value} {TW TX:List Value} (h1:w.ownsRow b1 e1 s1 v1 n1 TW) (h2:w.ownsRow b2 e2 s2 v2 n2 TX) (aq:e1≠e2):v1.ownBlock=none\/v1.ownBlock≠v2.ownBlock:=by
 rcases h1.2 with ⟨rfl,_⟩ | ⟨g1,_,_,rfl,_,dd,_⟩
 ·exact .inl rfl
 ·refine .inr fun he=>?_
  rcases h2.2 with ⟨rfl,_⟩ | ⟨g2,_,_,rfl,_,eW,_⟩
  ·cases he
  ·injection he with he
   have Dr:g1=g2:=he;subst Dr;rw[dd] at eW;injection eW with eW
   injection eW with _ h _
   exact aq h
end Go.Proofs.YtlhicnfeajejhaaGreatDoor
namespace Go.Proofs.YtlhicnfeajejhaaGreatDoor
open Go.RowKit Go.Cx
theorem qfa {K:List Cl} {p:Int×Sd} (h:p∈z8 K):∃ x∈K,x.id=p.1/\p.2∈x.s:=by
 obtain⟨x,hx,hp⟩:=List.mem_flatMap.1 h;obtain⟨y,hy,rfl⟩:=go.1 hp;exact⟨x,hx,rfl,hy⟩
theorem qab {K:List Cl} (hK:KOk K) {p:Int×Sd} (h:p∈z8 K):I64 p.1/\I64 p.2.c/\I64 p.2.g:=by
 obtain⟨x,hx,e,hs⟩:=qfa h;have:=hK x hx;exact⟨e ▸ this.1.1,this.2.2 _ hs⟩
section
variable (v u:Value) (K:List Cl) (l:List Tm) (S:Nat) (f:Int->Int) (w:World) (h:(Fk.cx K).holds v w) (k:Sl w 3 u (tv l)) (hK:KOk K) (hS:TOk S l) (hl:l.length<=100) (TY:S<=100) (hR:(z8 K).length<=500)
include hK hS hl TY hR
include h k
end
end Go.Proofs.YtlhicnfeajejhaaGreatDoor
