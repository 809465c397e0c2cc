/- cocyclelaw07.ChainsBounds: the region that makes its three chains, by an invariant. cocyclelaw07.ChainsBounds. Written by gen_bnd.py out of LaY.src. -/
import Derived.Test.YtlhicnfeajejhaaGreatDoorKOv
set_option maxRecDepth 1000000
set_option maxHeartbeats 16000000
namespace Go.Proofs.YtlhicnfeajejhaaGreatDoor
open Go.RowKit Go.Cx
section
variable {b : Nat} {x29 x31 x35 x37 x38 x39 : Value} {w w' : World} {L : List (Int × Int)} {x : Value}
end
end Go.Proofs.YtlhicnfeajejhaaGreatDoor
namespace Go.Proofs.YtlhicnfeajejhaaGreatDoor
open Go.RowKit Go.Cx
attribute [local go_sem ↓] Go.wp_at_zero Go.wp_at_succ
theorem wanted_ff {ops : Array Oper} {o : Oper} {a : Act} (j d : Nat) (hg : o.guard = some (j, false)) (hj : (ops[j]?).bind (·.dst) = some d) (hs : d < a.tmps.size) (h : a.tmps.getD d undef = .bool false) : Region.wanted o (yielded ops a.tmps) = true := by
 have h1 : a.tmps[d]? = some (.bool false) := by
  rw [Array.getD_eq_getD_getElem?, Array.getElem?_eq_getElem hs] at h
  rw [Array.getElem?_eq_getElem hs]
  exact congrArg some h
 unfold Region.wanted
 rw [hg]
 show (yielded ops a.tmps j == some false) = true
 unfold yielded
 rw [hj]
 show ((match a.tmps[d]? with | some (.bool b) => some b | _ => none) == some false) = true
 rw [h1]; rfl
end Go.Proofs.YtlhicnfeajejhaaGreatDoor
namespace Go.Proofs.YtlhicnfeajejhaaGreatDoor
open Go.RowKit Go.Cx
theorem co_pos {L : List (Int × Int)} {c : Int} (h : co L c ≠ 0) : ∃ p ∈ L, p.1 = c ∧ p.2 ≠ 0 := by
 induction L with
 | nil => exact absurd rfl h
 | cons p L ih =>
  rw [co_cons] at h
  by_cases h1 : co L c = 0
  ·rw [h1, Int.add_zero] at h
   by_cases h2 : p.1 = c
   ·rw [if_pos h2] at h; exact ⟨p, List.mem_cons_self .., h2, h⟩
   ·rw [if_neg h2] at h; exact absurd rfl h
  ·obtain ⟨q, hq, h2⟩ := ih h1
   exact ⟨q, List.mem_cons_of_mem _ hq, h2⟩
def sumF (f : Int → Int) (r : Int) : List Cl → Int
 | [] => 0
 | x :: K => f x.id * se x.s r + sumF f r K
theorem bd_cell (f : Int → Int) (r : Int) (x : Cl) : co (bdL f (x.s.map fun y => (x.id, y))) r = f x.id * se x.s r := by
 generalize x.s = s
 induction s with
 | nil => show (0 : Int) = f x.id * 0; rw [Int.mul_zero]
 | cons y s ih =>
  show (if y.c = r then f x.id * y.g else 0) + co (bdL f (s.map fun y => (x.id, y))) r = f x.id * ((if y.c = r then y.g else 0) + se s r)
  rw [ih, Int.mul_add]
  split <;> simp
theorem bd_sumF (f : Int → Int) (r : Int) (K : List Cl) : co (bdL f (rawsK K)) r = sumF f r K := by
 induction K with
 | nil => rfl
 | cons x K ih =>
  rw [show x :: K = [x] ++ K from rfl, rawsK_append, bdL_append, co_append, ih, rawsK_one, bd_cell]
  rfl
theorem asc_id {K : List Cl} (h : Asc K) {x y : Cl} (hx : x ∈ K) (hy : y ∈ K) (he : x.id = y.id) : x = y := by
 induction K with
 | nil => cases hx
 | cons z K ih =>
  obtain ⟨h1, h2⟩ := List.pairwise_cons.1 h
  rcases List.mem_cons.1 hx with hx | hx <;> rcases List.mem_cons.1 hy with hy | hy
  ·rw [hx, hy]
  ·have := h1 y hy; rw [← hx] at this; omega
  ·have := h1 x hx; rw [← hy] at this; omega
  ·exact ih h2 hx hy
end Go.Proofs.YtlhicnfeajejhaaGreatDoor
namespace Go.Proofs.YtlhicnfeajejhaaGreatDoor
open Go.RowKit Go.Cx
attribute [local go_sem ↓] Go.wp_at_zero Go.wp_at_succ
theorem simp_sgn (l : List Int) {x : Cl} (hx : x ∈ simpN l) : x.s.length ≤ 4 ∧ ∀ y ∈ x.s, y.g = 1 ∨ y.g = -1 := by
 unfold simpN simpK at hx
 obtain ⟨i, hi, rfl⟩ := List.mem_map.1 hx
 have hi := List.mem_range.1 hi
 have hl : ((allL ((l.take 12).map vsOf)).getD i []).length ≤ 4 := allL_ok _ (simpN_len l) _ (by rw [List.getD_eq_getElem?_getD, List.getElem?_eq_getElem hi]; exact List.getElem_mem _)
 refine ⟨?_, fun y hy => (sdsOf_mem (srtL_mem hy)).2.2⟩
 show (srtL _).length ≤ 4
 rw [srtL_len]
 simp only [sdsOf, List.length_map, List.length_range]
 split <;> omega
end Go.Proofs.YtlhicnfeajejhaaGreatDoor
