/- Steps towards MorseMaps. Conditions: none. -/
import Derived.Test.YtlhicnfeajejhaaGreatDoorHOn
import Derived.Test.YtlhicnfeajejhaaGreatDoorHOo
set_option maxRecDepth 1000000
set_option maxHeartbeats 16000000
namespace Go.Proofs.YtlhicnfeajejhaaGreatDoor
open Go.RowKit Go.Cx
theorem qs0 {K:List Cl} {d x:Int} (h:x∈qry K d):∃ y∈K,y.id=x/\y.dim=d:=by
 obtain⟨y,hy,rfl⟩:=go.1 h;obtain⟨hy,hd⟩:=gL.1 hy;obtain⟨z,hz,h1,h2,_⟩:=qrz _ y (qkx _ _ _ _ hy);exact⟨z,hz,h1.symm,by rw[<-h2];simpa using hd⟩
theorem qu2 (v u:Value) (K:List Cl) (d:Int) (cs:List Int) (b:Nat) (w:World) (h:(Fk.cx K).holds v w) (k:Sl w 1 u (ints cs)) (hK:KOk K) (kG:K.length<=180) (hb:b<=w.heap.size) :
  Calls Tryz.prog 62 #[v,.int .i64 d,u] w fun e w'=>∃ r L,e = .returned r/\Cn L/\L.length<=180/\LOk 8 L/\(∀ p∈L,∃ y∈K,y.id=p.1/\y.dim=d)/\w'.ownsRow b 71 3 r L.length (tv (ctm L))/\Below w.heap.size w w':=by
 obtain⟨x,m,rfl,h1,h2⟩:=h;have ff:m.length<=180:=by rw[<-h2,gn] at kG;exact kG
 have hok:=hK.cok h2;refine(qui x u m d cs w h1 k (by omega) (fun y hy=>gl (hok y hy).2.1 (by decide)) (fun y hy=>(hok y hy).1.1)).mono ?_;rintro e w' ⟨r,L,rfl,hC,hl,hA,hS,hR,hB⟩;rw[h2] at hA;refine⟨r,L,rfl,hC,by omega,fun p hp=>⟨?_,?_⟩,fun p hp=>qs0 (hA p hp),qf hR hb,hB⟩
 ·obtain⟨y,hy,he,_⟩:=qs0 (hA p hp);rw[<-he];exact(hK y hy).1.1
 ·have:=hS p hp;exact gl (q31 p.2 8 (by omega)) (nlr _)
attribute [local go_sem ↓] Go.wp_at_zero Go.wp_at_succ
theorem qsq (l:List Int):∀ s∈(l.take 12).map q11,s.length<=4:=fun s hs=>by
 obtain⟨n,_,rfl⟩:=go.1 hs;exact(q5d n).1
end Go.Proofs.YtlhicnfeajejhaaGreatDoor
