/- A region that draws its order and ends in one operation behind all others (a store). No program. cocycleref02: Mul at one column, Apply. -/
import Derived.Test.YtlhicnfeajejhaaGreatDoorKOt
set_option maxRecDepth 1000000
set_option maxHeartbeats 16000000
namespace Go.Cx
open Go.RowKit
variable {P : Program} {ops : Array Oper} {Q : Exit → Act → World → Prop}
def reach (ops : Array Oper) : Nat → Nat → Nat → Bool
 | 0, _, _ => false
 | f + 1, k, i => dep .any ops k i || (List.range ops.size).any fun j => dep .any ops k j && reach ops f j i
def tailOk (ops : Array Oper) (L f : Nat) : Bool := (List.range ops.size).all fun i => i == L || reach ops f L i
theorem reach_listed {l : Nat → Bool} (hc : ∀ i, l i = true → ∀ j, dep .any ops i j = true → l j = true) : ∀ (f k i : Nat), reach ops f k i = true → l k = true → l i = true := by
 intro f
 induction f with
 | zero => intro k i h; cases h
 | succ f ih =>
  intro k i h hk
  unfold reach at h
  rw [Bool.or_eq_true] at h
  rcases h with h | h
  ·exact hc k hk i h
  ·obtain ⟨j, _, hj⟩ := List.any_eq_true.1 h
   rw [Bool.and_eq_true] at hj
   exact ih _ _ hj.2 (hc k hk _ hj.1)
structure StT (ops : Array Oper) (F : Nat → Value → Prop) (a0 : Act) (w0 : World) (l : Nat → Bool) (a : Act) (w : World) : Prop where
 sz : a.tmps.size = a0.tmps.size
 df : a.defers = a0.defers
 fact : ∀ (i : Nat) (o : Oper) (d : Nat), ops[i]? = some o → o.dst = some d → l i = true → F i (a.tmps.getD d undef)
 base : ∀ s, (∀ (i : Nat) (o : Oper), ops[i]? = some o → o.dst ≠ some s) → a.tmps.getD s undef = a0.tmps.getD s undef
 below : Below w0.heap.size w0 w
theorem region_tail {id : Nat} {a0 : Act} {w : World} (hm : P.follows .mixedOrders = true) (F : Nat → Value → Prop) (L f n : Nat) (hn : a0.tmps.size = n) (hd : ownDstO ops n = true) (hlx : lexOk .any ops = true) (hL : L < ops.size) (htl : tailOk ops L f = true) (hLd : (ops[L]?).bind (·.dst) = none)
  (Fin : Act → World → Prop)
  (hstep : ∀ (i : Nat) (o : Oper), ops[i]? = some o → i ≠ L → ∀ (a : Act) (w' : World), Below w.heap.size w w' → (∀ (j : Nat) (oj : Oper) (dj : Nat), ops[j]? = some oj → oj.dst = some dj → dep .any ops i j = true → F j (a.tmps.getD dj undef)) →
   (∀ s, (∀ (i : Nat) (o : Oper), ops[i]? = some o → o.dst ≠ some s) → a.tmps.getD s undef = a0.tmps.getD s undef) → a.tmps.size = n →
   Region.wanted o (yielded ops a.tmps) = true ∧ o.dst ≠ none ∧ Oper.wp P o a w' (fun a' w'' => ∃ v, a' = a.put o.dst v ∧ F i v ∧ Below w'.heap.size w' w'') Q)
  (hstore : ∀ (o : Oper), ops[L]? = some o → ∀ (a : Act) (w' : World), a.tmps.size = n → a.defers = a0.defers → Below w.heap.size w w' → (∀ (j : Nat) (oj : Oper) (dj : Nat), ops[j]? = some oj → oj.dst = some dj → F j (a.tmps.getD dj undef)) →
   (∀ s, (∀ (i : Nat) (o : Oper), ops[i]? = some o → o.dst ≠ some s) → a.tmps.getD s undef = a0.tmps.getD s undef) →
   Region.wanted o (yielded ops a.tmps) = true ∧ Oper.wp P o a w' (fun a' w'' => Fin a' w'') Q)
  (hdone : ∀ (a : Act) (w' : World), Fin a w' → Q .normal a w') :
  (Code.region id ops true).wp P Q a0 w := by
 have hsp := ownDstO_spec hd
 have hreach : ∀ i, i < ops.size → i ≠ L → reach ops f L i = true := fun i hi hne => by
  have := List.all_eq_true.1 htl i (List.mem_range.2 hi)
  rw [Bool.or_eq_true, beq_iff_eq] at this
  exact this.resolve_left hne
 refine region_inv hm hlx (fun l a w' => (∀ i, l i = true → ∀ j, dep .any ops i j = true → l j = true) ∧ (l L = false → StT ops F a0 w l a w') ∧ (l L = true → Fin a w')) ?_ ?_ ?_
 ·exact ⟨fun i h => absurd h Bool.false_ne_true, fun _ => ⟨rfl, rfl, fun _ _ _ _ _ h => absurd h Bool.false_ne_true, fun _ _ => rfl, below_draws (Below.refl _ w) 1⟩, fun h => absurd h Bool.false_ne_true⟩
 ·intro i o ho l a w' hli hdep ⟨hc, h1, h2⟩
  have hil := (Array.getElem?_eq_some_iff.1 ho).1
  have hcl : ∀ j, (fun j => j == i || l j) j = true → ∀ k, dep .any ops j k = true → (fun j => j == i || l j) k = true := fun j hj k hk => by
   simp only [Bool.or_eq_true, beq_iff_eq] at hj ⊢
   rcases hj with rfl | hj
   ·exact .inr (hdep k hk)
   ·exact .inr (hc j hj k hk)
  by_cases hiL : i = L
  ·subst hiL
   have hst := h1 hli
   have hall : ∀ j, j < ops.size → j ≠ i → l j = true := fun j hj hne => by
    have hr := hreach j hj hne
    cases f with
    | zero => cases hr
    | succ f =>
     unfold reach at hr
     rw [Bool.or_eq_true] at hr
     rcases hr with hr | hr
     ·exact hdep j hr
     ·obtain ⟨k, _, hk⟩ := List.any_eq_true.1 hr
      rw [Bool.and_eq_true] at hk
      exact reach_listed hc f k j hk.2 (hdep k hk.1)
   obtain ⟨hw, hwp⟩ := hstore o ho a w' (hst.sz.trans hn) hst.df hst.below (fun j oj dj hj hdj => hst.fact j oj dj hj hdj (hall j (Array.getElem?_eq_some_iff.1 hj).1 (fun e => by
    subst e
    rw [hj, Option.bind_some, hdj] at hLd; cases hLd))) hst.base
   exact ⟨hw, Oper.wp_mono (fun a' w'' hx => ⟨hcl, fun h => by simp at h, fun _ => hx⟩) hwp⟩
  ·have hlL : l L = false := by
    cases hc' : l L with
    | false => rfl
    | true =>
     have := reach_listed hc f L i (hreach i hil hiL) hc'
     rw [hli] at this; cases this
   have hst := h1 hlL
   obtain ⟨hw, hdn, hwp⟩ := hstep i o ho hiL a w' hst.below (fun j oj dj hj hdj hdp => hst.fact j oj dj hj hdj (hdep j hdp)) hst.base (hst.sz.trans hn)
   refine ⟨hw, Oper.wp_mono (fun a' w'' hx => ?_) hwp⟩
   obtain ⟨v, rfl, hv, hgr⟩ := hx
   obtain ⟨d, hdo⟩ := Option.ne_none_iff_exists'.1 hdn
   obtain ⟨hd2, hd3⟩ := hsp i o d ho hdo
   have hLi : (L == i) = false := by simpa using fun e : L = i => hiL e.symm
   refine ⟨hcl, fun _ => ?_, fun h => by simp only [hLi, Bool.false_or] at h; rw [hlL] at h; cases h⟩
   rw [hdo]
   refine ⟨by show (a.tmps.setIfInBounds d v).size = _; simpa using hst.sz, hst.df, fun j oj dj hj hdj hlj => ?_, fun s hs => ?_, hst.below.trans (hgr.mono hst.below.size)⟩
   ·rw [put_getD]
    by_cases hji : j = i
    ·subst hji
     rw [ho] at hj; injection hj with hj; subst hj
     rw [hdo] at hdj; injection hdj with hdj; subst hdj
     rw [if_pos ⟨rfl, by rw [hst.sz, hn]; exact hd2⟩]; exact hv
    ·rw [if_neg (fun e => hd3 j oj hj hji (by rw [hdj, e.1]))]
     have : (j == i) = false := by simpa using hji
     simp only [this, Bool.false_or] at hlj
     exact hst.fact j oj dj hj hdj hlj
   ·rw [put_getD, if_neg (fun e => hs i o ho (by rw [hdo, e.1]))]; exact hst.base s hs
 ·intro l a w' hall ⟨_, _, h2⟩
  exact hdone a w' (h2 (hall L hL))
theorem do_field {o : Oper} {a : Act} {w : World} {K : Act → World → Prop} (t : Nat) (x : Operand) (i : Nat) (hop : o.op = .fieldAddr t x i) (v1 : Value) (h1 : a.eval x = v1) (v : Value) (hrun : (Instr.fieldAt t v1 i).run P w = .ok v w) (h : K (a.put o.dst v) w) : Oper.wp P o a w K Q := by
 subst h1
 unfold Oper.wp
 simp [execOp, hop, hrun, Result.andThen]
 exact h
theorem do_store {o : Oper} {a : Act} {w w' : World} {K : Act → World → Prop} (t : Nat) (x y : Operand) (hop : o.op = .store t x y) (v1 v2 : Value) (h1 : a.eval x = v1) (h2 : a.eval y = v2) (hrun : (Instr.storeAt t v1 v2).run P w = .ok () w') (h : K (a.put o.dst undef) w') : Oper.wp P o a w K Q := by
 subst h1 h2
 unfold Oper.wp
 simp [execOp, hop, hrun, Result.andThen]
 exact h
end Go.Cx
namespace Go.Proofs.YtlhicnfeajejhaaGreatDoor
open Go.RowKit Go.Cx
attribute [local go_sem ↓] Go.wp_at_zero Go.wp_at_succ
def Bx' (w : World) (E i : Nat) (x : Int) : Prop := w.cell? ⟨E, i * 2, none⟩ = some (.bool (decide (x < 0))) ∧ w.cell? ⟨E, i * 2 + 1, none⟩ = some (.string (mg x)) ∧ w.frozen? ⟨E, i * 2, none⟩ = false ∧ w.frozen? ⟨E, i * 2 + 1, none⟩ = false
theorem wp_open {P : Program} {s : Code} {Q : Exit → Act → World → Prop} {a : Act} {w : World} (h : ∀ K : Act → World → Prop, (∀ a' w', Q .normal a' w' → K a' w') → s.wp P (Exit.then K Q) a w) : s.wp P Q a w :=
 wp_mono (h (fun a w => Q .normal a w) fun _ _ h => h) (by intro e a' w' hq; cases e <;> exact hq)
theorem ldW2 {w : World} {b : Nat} {x : Int} (h0 : w.cell? ⟨b, 0, none⟩ = some (.bool (decide (x < 0)))) (h1 : w.cell? ⟨b, 1, none⟩ = some (.string (mg x))) : (Instr.loadAt 38 (.pointer (some ⟨b, 0, none⟩))).run Tryz.prog w = .ok (wv x) w := by
 show _ = Result.ok (Value.agg #[.bool (decide (x < 0)), .string (mg x)]) w
 simp [go_sem, h0, h1]
theorem run_fieldM (w : World) (b : Nat) : (Instr.fieldAt 44 (.pointer (some ⟨b, 0, none⟩)) 2).run Tryz.prog w = .ok (.pointer (some ⟨b, 2, none⟩)) w := by simp [go_sem]
theorem run_ldSW (w : World) (p : Addr) (a : Option Addr) (n c : Nat) (h : w.cell? p = some (.slice a n c)) : (Instr.loadAt 29 (.pointer (some p))).run Tryz.prog w = .ok (.slice a n c) w := by simp [go_sem, h]
theorem run_idxW (w : World) (E n c i : Nat) (hi : i < n) : (Instr.indexAt 29 (.slice (some ⟨E, 0, none⟩) n c) (.int .i64 i)).run Tryz.prog w = .ok (.pointer (some ⟨E, i * 2, none⟩)) w := by
 have h1 : (0 : Int) ≤ (i : Int) := by omega
 have h2 : (i : Int) < n := by omega
 simp [go_sem, h1, h2]
theorem run_stWE (w : World) (E i : Nat) (x : Int) (u v : Value) (h0 : w.cell? ⟨E, i * 2, none⟩ = some u) (h1 : w.cell? ⟨E, i * 2 + 1, none⟩ = some v) (f0 : w.frozen? ⟨E, i * 2, none⟩ = false) (f1 : w.frozen? ⟨E, i * 2 + 1, none⟩ = false) : (Instr.storeAt 38 (.pointer (some ⟨E, i * 2, none⟩)) (wv x)).run Tryz.prog w = .ok () ((w.setCell ⟨E, i * 2, none⟩ (.bool (decide (x < 0)))).setCell ⟨E, i * 2 + 1, none⟩ (.string (mg x))) := by
 show (Instr.storeAt 38 (.pointer (some ⟨E, i * 2, none⟩)) (.agg #[.bool (decide (x < 0)), .string (mg x)])).run Tryz.prog w = _
 simp [go_sem, h0, h1, f0, f1]
end Go.Proofs.YtlhicnfeajejhaaGreatDoor
