/- Calls by kinds with any bounds; a call of a function value in a region that draws its order. cocyclelaw07.ChainsLinear: its closure. Written by gen_both.py. Calls by kinds for any chain: boundaries and coboundaries with any bounds; the closure of ChainsLinear at canonical chains. -/
import Derived.Deep.RegionHeld3
import Derived.Deep.DeepMust
import Derived.Test.YtfcmpolhcpbliaaGreatDoorOb
import Derived.Test.YtfcmpolhcpbliaaGreatDoorPa
import Derived.Test.YtfcmpolhcpbliaaGreatDoorOh

namespace Go.Cx
open Go.RowKit
variable {P : Program} {Q : Exit → Act → World → Prop} {o : Oper} {a : Act} {w : World} {K : Act → World → Prop}
end Go.Cx
namespace Go.Proofs.YtfcmpolhcpbliaaGreatDoor
open Go.RowKit Go.Cx

/-- The same chain under wider bounds and an equal function. -/
theorem cf_mono {f g : Int → Int} {N S N' S' : Nat} {v : Value} {w : World} (h : (Fk.cf f N S).holds v w) (he : ∀ c, f c = g c) (hN : N ≤ N') (hS : S ≤ S') : (Fk.cf g N' S').holds v w := by
  obtain ⟨L, h1, h2, h3, h4, h5⟩ := h
  exact ⟨L, h1, fun c => (h2 c).trans (he c), Nat.le_trans h3 hN, h4.mono hS, h5⟩

end Go.Proofs.YtfcmpolhcpbliaaGreatDoor

namespace Go.Proofs.YtfcmpolhcpbliaaGreatDoor
open Go.RowKit Go.Cx
attribute [local go_sem ↓] Go.wp_at_zero Go.wp_at_succ

end Go.Proofs.YtfcmpolhcpbliaaGreatDoor

namespace Go.Proofs.YtfcmpolhcpbliaaGreatDoor
open Go.RowKit Go.Cx
attribute [local go_sem ↓] Go.wp_at_zero Go.wp_at_succ

theorem tBd (v u : Value) (K : List Cl) (l : List Tm) (g : Int → Int) (N S R T : Nat) (w : World) (h : (Fk.cx K).holds v w) (k : Sl w 3 u (tv l)) (hK : KOk K) (hS : TOk S l) (hN : l.length = N) (hR : (rawsK K).length ≤ R) (hT : S + N + 8 + R ≤ T) (hb : N + T ≤ 1000000) (hg : ∀ c, co (bdL (co (prs l)) (rawsK K)) c = g c) :
    Calls Tryz.prog 19 #[v, u] w (Gives (.cf g R T) w) := by
  obtain ⟨x, m, rfl, h3, h4⟩ := h
  have hc := chBoundary x m u l S w h3 (hK.cok h4) k hS (by rw [raws_cl, h4]; omega)
  rw [raws_cl, h4, show co (bdL (co (prs l)) (rawsK K)) = g from funext hg] at hc
  refine (gives_cf hc (S := T) (fun c => ?_) (fun c hc0 => ?_)).mono fun e w' ⟨r, he, hr, hb⟩ => ⟨r, he, cf_mono hr (fun _ => rfl) hR (Nat.le_refl _), hb⟩
  · rw [← hg]
    have h1 := nb_co (S + N + 8) (bdL (co (prs l)) (rawsK K)) (fun p hp => by
      obtain ⟨q, hq, rfl⟩ := List.mem_map.1 hp
      have h1 := nb_mul (co (prs l) q.1) q.2.g
      have h2 := tok_nb hS q.1
      have h3 := (rawsK_ok hK hq).2.2
      have h4 := nb_int q.2.g h3.1 h3.2
      show nb (co (prs l) q.1 * q.2.g) ≤ _
      omega) c
    rw [bdL_len] at h1
    omega
  · rw [← hg] at hc0
    rcases Classical.em (∃ p ∈ bdL (co (prs l)) (rawsK K), p.1 = c) with ⟨p, hp, rfl⟩ | hn
    · obtain ⟨q, hq, rfl⟩ := List.mem_map.1 hp
      exact (rawsK_ok hK hq).2.1
    · exact absurd (co_none fun p hp e => hn ⟨p, hp, e⟩) hc0
end Go.Proofs.YtfcmpolhcpbliaaGreatDoor
