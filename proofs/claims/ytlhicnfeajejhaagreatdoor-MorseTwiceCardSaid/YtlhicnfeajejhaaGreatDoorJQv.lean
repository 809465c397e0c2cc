/- For MorseKeeps: rows whose numbers are written to; boundaries of a matching as matrices; equal complexes. Conditions: none. .. -/
import Derived.Test.YtlhicnfeajejhaaGreatDoorJQu
set_option maxRecDepth 1000000
set_option maxHeartbeats 16000000
namespace Go.Proofs.YtlhicnfeajejhaaGreatDoor
open Go.RowKit Go.Cx
noncomputable def qd0 (K:List Cl) (m:List (Int×Int)) (d:Int):List Int:=(List.range ((yt K m (d - 1)).length*(yt K m d).length)).map fun t=>bdE (canon K) (mhi K m) (mlo K m) d (t / (yt K m d).length) (t % (yt K m d).length)
theorem qku (K:List Cl) (m:List (Int×Int)) (d:Int):(qd0 K m d).length=(yt K m (d - 1)).length*(yt K m d).length:=by unfold qd0;rw[List.length_map,List.length_range]
theorem kz9 {K:List Cl} (G:Cx.Good K) (m:List (Int×Int)) (d:Int):(yt K m d).length<=K.length:=by
 unfold yt;split
 ·rw[G.cells.1];exact q8j G _ _ _
 ·exact Nat.zero_le _
section
variable (v u:Value) (K:List Cl) (m:List (Int×Int)) (w:World) (h:(Mok.cx K).holds v w) (hK:KOk K) (hl:K.length<=180) (k:(Mok.prs m).holds u w) (hp:∀ p∈m,I64 p.1/\I64 p.2) (G:Cx.Good K) (hE:opE K m=0) (d:Int) (hd0 : -1000<=d) (hd1:d<=1000)
include h hK hl k hp G hE hd0 hd1
theorem qpu:Calls Tryz.prog 54 #[v,u,.int .i64 d] w fun e w'=>∃ E,e = .returned (.agg #[.int .i64 (yt K m (d - 1)).length,.int .i64 (yt K m d).length,.slice (some ⟨E,0,none⟩) ((yt K m (d - 1)).length*(yt K m d).length) ((yt K m (d - 1)).length*(yt K m d).length)])/\(∃ f,EW w' E ((yt K m (d - 1)).length*(yt K m d).length) f)/\(w.heap.size<=E/\E < w'.heap.size)/\(Mok.mat (yt K m (d - 1)).length (yt K m d).length (qd0 K m d)).holds (.agg #[.int .i64 (yt K m (d - 1)).length,.int .i64 (yt K m d).length,.slice (some ⟨E,0,none⟩) ((yt K m (d - 1)).length*(yt K m d).length) ((yt K m (d - 1)).length*(yt K m d).length)]) w'/\Below w.heap.size w w':=by
 obtain⟨x,l,rfl,h1,h2⟩:=h;have hll:l.length<=180:=by rw[<-h2,List.length_map] at hl;exact hl
 refine(qf9 x u l m w h1 (by omega) (hK.cok h2) k hp d ⟨by omega,by omega⟩).mono ?_;rintro e w' ⟨hb,hr⟩;rw[h2] at hr;rcases hr with ⟨hne,_⟩ | ⟨_,E,nr,nc,rfl,rfl,rfl,h5,hE2,hEW⟩
 ·exact absurd hE hne
 ·have n1:=kz9 G m (d - 1);have n2:=kz9 G m d;have hN:(yt K m (d - 1)).length*(yt K m d).length<=40000:=Nat.le_trans (Nat.mul_le_mul (show _<=200 by omega) (show _<=200 by omega)) (by decide);exact⟨E,rfl,⟨_,hEW⟩,⟨h5,hE2⟩,⟨_,rfl,hEW.sl (by omega)⟩,hb⟩
theorem qqs:Calls Tryz.prog 54 #[v,u,.int .i64 d] w (Gvs (.mat (yt K m (d - 1)).length (yt K m d).length (qd0 K m d)) w):=by
 refine(qpu v u K m w h hK hl k hp G hE d hd0 hd1).mono ?_;rintro e w' ⟨E,rfl,_,_,hm,hb⟩;exact⟨_,rfl,hm,hb⟩
end
theorem qmj {K:List Cl} (G:Cx.Good K) (hc:chk K=(0,0)) {m:List (Int×Int)} (hm:j8 K m=0):opE K m=0:=by unfold opE;rw[hc,if_pos rfl,G.cells.1];exact hm
end Go.Proofs.YtlhicnfeajejhaaGreatDoor
namespace Go.Proofs.YtlhicnfeajejhaaGreatDoor
open Go.RowKit Go.Cx
attribute [local go_sem ↓] Go.wp_at_zero Go.wp_at_succ
end Go.Proofs.YtlhicnfeajejhaaGreatDoor
