/- cocycleref07: Vector. The numbers of a simplicial complex's cells, both ways. No program. -/
import Derived.Test.YtlhicnfeajejhaaGreatDoorKOp
set_option maxRecDepth 1000000
set_option maxHeartbeats 16000000
namespace Go.Proofs.YtlhicnfeajejhaaGreatDoor
open Go.RowKit Go.Cx
attribute [local go_sem ↓] Go.wp_at_zero Go.wp_at_succ
end Go.Proofs.YtlhicnfeajejhaaGreatDoor
namespace Go.Cx
open Go.RowKit
def Asc (K : List Cl) : Prop := K.Pairwise fun x y => x.id < y.id
theorem mrg_asc {a b : List Cl} (h : Asc (a ++ b)) : mrg Cl.id a b = a ++ b := by
 fun_induction mrg Cl.id a b with
 | case1 b => rfl
 | case2 x a => simp
 | case3 x a y b hk ih =>
  have := (List.pairwise_append.1 h).2.2 x (List.mem_cons_self ..) y (List.mem_cons_self ..)
  omega
 | case4 x a y b hk ih =>
  rw [ih (List.pairwise_cons.1 h).2]; rfl
theorem Asc.map {K : List Cl} (h : Asc K) (f : Cl → Cl) (hf : ∀ x, (f x).id = x.id) : Asc (K.map f) := by
 unfold Asc
 rw [List.pairwise_map]
 exact h.imp fun {x y} hxy => by rw [hf, hf]; exact hxy
theorem ordK_asc {K : List Cl} (h : Asc K) : ordK K = K.map fun x => ⟨x.id, x.dim, srtL x.s⟩ := by
 fun_induction ordK K with
 | case1 l hl => rfl
 | case2 l hl ih1 ih2 =>
  have h' := h
  rw [← List.take_append_drop (l.length / 2) l] at h'
  obtain ⟨h1, h2, _⟩ := List.pairwise_append.1 h'
  rw [ih1 h1, ih2 h2, mrg_asc, ← List.map_append, List.take_append_drop]
  rw [← List.map_append, List.take_append_drop]
  exact h.map _ fun _ => rfl
theorem nub_asc {K : List Cl} (h : Asc K) : ∀ p : Option Int, (∀ x ∈ K, p ≠ some x.id) → nub Cl.id p K = K := by
 induction K with
 | nil => intro p _; rfl
 | cons x K ih =>
  intro p hp
  obtain ⟨h1, h2⟩ := List.pairwise_cons.1 h
  unfold nub
  rw [if_neg (hp x (List.mem_cons_self ..)), ih h2 _ fun y hy e => by
   have := h1 y hy
   injection e with e
   omega]
theorem firsts_asc {K : List Cl} (h : Asc K) : firsts Cl.id K = K := by
 induction K with
 | nil => rfl
 | cons x K ih =>
  obtain ⟨h1, h2⟩ := List.pairwise_cons.1 h
  show x :: (firsts Cl.id K).filter _ = _
  rw [ih h2]
  congr 1
  refine List.filter_eq_self.2 fun y hy => ?_
  have := h1 y hy
  simpa using show ¬ y.id = x.id by omega
theorem idsK_asc {K : List Cl} (h : Asc K) (d : Int) : idsK K d = (K.filter fun x => x.dim == d).map Cl.id := by
 unfold idsK cellsK
 rw [ordK_asc h, nub_asc (h.map (fun x => ⟨x.id, x.dim, srtL x.s⟩) fun _ => rfl) none (fun _ _ e => by cases e), List.filter_map, List.map_map]
 rfl
theorem celsOf_asc (A : List (List Int)) (n : Nat) : Asc (celsOf A n) := by
 unfold Asc celsOf
 rw [List.pairwise_map]
 exact List.pairwise_lt_range.imp fun {i j} hij => by show (i : Int) + 1 < (j : Int) + 1; omega
end Go.Cx
namespace Go.Proofs.YtlhicnfeajejhaaGreatDoor
open Go.RowKit Go.Cx
end Go.Proofs.YtlhicnfeajejhaaGreatDoor
