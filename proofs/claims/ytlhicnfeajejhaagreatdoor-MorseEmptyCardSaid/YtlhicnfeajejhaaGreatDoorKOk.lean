/- A region that draws its order, by an invariant; and one that lays boxes of two cells (a Wide) and fills them. No program. cocyclelaw07.ChainsLinear. -/
import Derived.Deep.DeepCutAuto
import Derived.Test.YtlhicnfeajejhaaGreatDoorKOh
set_option maxRecDepth 1000000
set_option maxHeartbeats 16000000
namespace Go.Cx
open Go.RowKit
variable {P : Program} {ops : Array Oper} {Q : Exit → Act → World → Prop}
theorem region_inv {id : Nat} {a0 : Act} {w : World} (hm : P.follows .mixedOrders = true) (hlx : lexOk .any ops = true) (I : (Nat → Bool) → Act → World → Prop)
  (h0 : I (fun _ => false) a0 { w with drawn := w.drawn + 1 })
  (hstep : ∀ (i : Nat) (o : Oper), ops[i]? = some o → ∀ (l : Nat → Bool) (a : Act) (w' : World), l i = false → (∀ j, dep .any ops i j = true → l j = true) → I l a w' →
   Region.wanted o (yielded ops a.tmps) = true ∧ Oper.wp P o a w' (fun a' w'' => I (fun j => j == i || l j) a' w'') Q)
  (hdone : ∀ (l : Nat → Bool) (a : Act) (w' : World), (∀ i, i < ops.size → l i = true) → I l a w' → Q .normal a w') :
  (Code.region id ops true).wp P Q a0 w := by
 have main : ∀ (fuel : Nat) (listed : Array Bool) (a : Act) (w' : World), listed.size = ops.size → unl ops listed ≤ fuel → I (fun i => listed.getD i false) a w' → wpAny P .any ops Q fuel listed a w' := by
  intro fuel
  have allOf : ∀ (listed : Array Bool), unl ops listed = 0 → ∀ i : Nat, i < ops.size → listed.getD i false = true := fun listed h0 i hi => by
   cases hc : listed.getD i false with
   | true => rfl
   | false =>
    have : i ∈ (List.range ops.size).filter fun i => !listed.getD i false := List.mem_filter.2 ⟨List.mem_range.2 hi, by rw [hc]; rfl⟩
    rw [List.eq_nil_of_length_eq_zero h0] at this; cases this
  induction fuel with
  | zero =>
   intro listed a w' hl hu h
   have hall := allOf listed (by omega)
   refine ⟨?_, hdone _ a w' hall h⟩
   rw [List.eq_nil_iff_forall_not_mem]
   intro j hj
   obtain ⟨h1, o, ho, _⟩ := mem_ready.1 hj
   have hjl := (Array.getElem?_eq_some_iff.1 ho).1
   have h2 := hall j hjl
   simp [hl, hjl] at h1 h2
   rw [h1] at h2; cases h2
  | succ fuel ih =>
   intro listed a w' hl hu h
   refine ⟨fun hnil => ?_, fun i hi => ?_⟩
   ·refine hdone _ a w' (fun i hi => ?_) h
    show listed.getD i false = true
    induction i using Nat.strongRecOn with
    | _ i ihi =>
     cases hc : listed.getD i false with
     | true => rfl
     | false =>
      exfalso
      obtain ⟨o, ho⟩ : ∃ o, ops[i]? = some o := ⟨_, Array.getElem?_eq_getElem hi⟩
      have hmem : i ∈ Region.ready .any ops listed := mem_ready.2 ⟨by simpa [hl, hi] using hc, o, ho, fun e he hb => by
       have h1 := List.all_eq_true.1 hlx i (List.mem_range.2 hi)
       rw [ho] at h1
       simp only [Option.map_some, Option.getD_some, Array.all_eq_true] at h1
       obtain ⟨k, hk, rfl⟩ := Array.getElem_of_mem he
       have h2 := h1 k hk
       rw [hb] at h2
       have h3 : (o.after[k]).on < i := by simpa using h2
       exact ihi _ h3 (by omega)⟩
      rw [hnil] at hmem; cases hmem
   ·obtain ⟨h1, o, ho, hall⟩ := mem_ready.1 hi
    have hil := (Array.getElem?_eq_some_iff.1 ho).1
    have h1' : listed.getD i false = false := by simpa [hl, hil] using h1
    obtain ⟨hw, hwp⟩ := hstep i o ho (fun i => listed.getD i false) a w' h1' (fun j hdep => by
     unfold dep at hdep
     rw [ho] at hdep
     simp only [Option.map_some, Option.getD_some, Array.any_eq_true] at hdep
     obtain ⟨k, hk, hb⟩ := hdep
     simp only [Bool.and_eq_true, beq_iff_eq] at hb
     have := hall _ (Array.getElem_mem hk) hb.1
     rwa [hb.2] at this) h
    unfold wpOp
    rw [ho]; dsimp only; rw [if_pos hw]
    refine .inl (Oper.wp_mono (fun a' w'' hx => ?_) hwp)
    have hlt := unl_set hl hil h1'
    refine ih _ _ _ (by simpa using hl) (by omega) ?_
    have e : (fun j => (listed.setIfInBounds i true).getD j false) = fun j => j == i || listed.getD j false := funext fun j => by
     by_cases hj : i = j
     ·subst hj; simp [hl, hil]
     ·have : (j == i) = false := by simpa using fun e => hj e.symm
      rw [this, Bool.false_or]
      simp [hj]
    rw [e]; exact hx
 refine wp_region_any hm (main _ _ _ _ (by simp) ?_ ?_)
 ·unfold unl
  exact Nat.le_trans (List.length_filter_le _ _) (by simp)
 ·have e : (fun i => (Array.replicate ops.size false).getD i false) = fun _ => false := funext fun i => by
   simp only [Array.getD_eq_getD_getElem?, Array.getElem?_replicate]
   split <;> rfl
  rw [e]; exact h0
def ownDstO (ops : Array Oper) (n : Nat) : Bool := (List.range ops.size).all fun i => match (ops[i]?).bind (·.dst) with
 | none => true
 | some d => decide (d < n) && (List.range i).all fun j => (ops[j]?).bind (·.dst) != some d
theorem ownDstO_spec {n : Nat} (h : ownDstO ops n = true) : ∀ (i : Nat) (o : Oper) (d : Nat), ops[i]? = some o → o.dst = some d → d < n ∧ ∀ (j : Nat) (oj : Oper), ops[j]? = some oj → j ≠ i → oj.dst ≠ some d := by
 have key : ∀ (i : Nat) (o : Oper) (d : Nat), ops[i]? = some o → o.dst = some d → d < n ∧ ∀ (j : Nat) (oj : Oper), ops[j]? = some oj → j < i → oj.dst ≠ some d := fun i o d ho hd => by
  have hi := (Array.getElem?_eq_some_iff.1 ho).1
  have h1 := List.all_eq_true.1 h i (List.mem_range.2 hi)
  simp only [ho, Option.bind_some, hd, Bool.and_eq_true, decide_eq_true_eq] at h1
  obtain ⟨h3, h4⟩ := h1
  refine ⟨h3, fun j oj hj hlt => ?_⟩
  have := List.all_eq_true.1 h4 j (List.mem_range.2 hlt)
  rw [hj] at this
  simpa using this
 intro i o d ho hd
 obtain ⟨h0, h1⟩ := key i o d ho hd
 refine ⟨h0, fun j oj hj hne e => ?_⟩
 rcases Nat.lt_or_ge j i with hlt | hge
 ·exact h1 j oj hj hlt e
 ·exact (key j oj d hj e).2 i o ho (by omega) hd
end Go.Cx
namespace Go.Proofs.YtlhicnfeajejhaaGreatDoor
open Go.RowKit Go.Cx
variable {P : Program} {ops : Array Oper} {Q : Exit → Act → World → Prop}
theorem below_setBoth {B p : Nat} {w w' : World} (h : Below B w w') (hp : B ≤ p) (x y : Value) : Below B w ((w'.setCell ⟨p, 0, none⟩ x).setCell ⟨p, 1, none⟩ y) :=
 (h.setCell hp x).setCell hp y
end Go.Proofs.YtlhicnfeajejhaaGreatDoor
namespace Go.Proofs.YtlhicnfeajejhaaGreatDoor
open Go.RowKit Go.Cx
attribute [local go_sem ↓] Go.wp_at_zero Go.wp_at_succ
theorem act_lit {ops : Array Oper} {a a0 : Act} {n : Nat} (hn : a.tmps.size = n) (hdf : a.defers = a0.defers) (hb : ∀ s, (∀ (i : Nat) (o : Oper), ops[i]? = some o → o.dst ≠ some s) → a.tmps.getD s undef = a0.tmps.getD s undef) : a = ⟨((List.range n).map fun i => if noDst ops i then a0.tmps.getD i undef else a.tmps.getD i undef).toArray, a0.defers⟩ := by
 obtain ⟨t, d⟩ := a
 simp only at hn hdf hb
 subst hdf
 congr 1
 refine Array.ext (by simp [hn]) fun i h1 h2 => ?_
 have e : t[i] = t.getD i undef := by rw [Array.getD_eq_getD_getElem?, Array.getElem?_eq_getElem h1]; rfl
 show t[i] = _
 rw [e]
 simp only [List.getElem_toArray, List.getElem_map, List.getElem_range]
 by_cases h : noDst ops i = true
 ·rw [if_pos h]; exact hb i (noDst_spec h)
 ·rw [if_neg h]
theorem do_idx {P : Program} {Q : Exit → Act → World → Prop} {o : Oper} {a : Act} {w : World} {K : Act → World → Prop} (t : Nat) (x y : Operand) (hop : o.op = .indexAddr t x y) (v1 v2 : Value) (h1 : a.eval x = v1) (h2 : a.eval y = v2) (v : Value) (hrun : (Instr.indexAt t v1 v2).run P w = .ok v w) (h : K (a.put o.dst v) w) : Oper.wp P o a w K Q := by
 subst h1 h2
 unfold Oper.wp
 simp [execOp, hop, hrun, Result.andThen]
 exact h
theorem run_ldi (w : World) (p : Addr) (x : Int) (h1 : w.cell? p = some (.int .i64 x)) : (Instr.loadAt 3 (.pointer (some p))).run Tryz.prog w = .ok (.int .i64 x) w := by
 simp [go_sem, h1]
end Go.Proofs.YtlhicnfeajejhaaGreatDoor
