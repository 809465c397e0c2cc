/- cocycleref06: SameCell, Canon and Equal at equal complexes. Rows whose numbers are written to: what cocyclelaw07.ChainsKeeps does to results. .. -/
import Derived.Test.YtlhicnfeajejhaaGreatDoorKOk
import Derived.Test.YtlhicnfeajejhaaGreatDoorKOn
set_option maxRecDepth 1000000
set_option maxHeartbeats 16000000
namespace Go.Proofs.YtlhicnfeajejhaaGreatDoor
open Go.RowKit Go.Cx
attribute [local go_sem ↓] Go.wp_at_zero Go.wp_at_succ
end Go.Proofs.YtlhicnfeajejhaaGreatDoor
namespace Go.Proofs.YtlhicnfeajejhaaGreatDoor
open Go.RowKit Go.Cx
theorem cell_setC {w : World} {a p : Addr} {u x : Value} (h : w.cell? p = some x) (hne : p ≠ a) : (w.setCell a u).cell? p = some x := by
 rw [World.cell?_setCell_other _ _ _ _ (fun e => hne e.symm)]; exact h
theorem do_len {Q : Exit → Act → World → Prop} {K : Act → World → Prop} {o : Oper} {a : Act} {w : World} {t e : TypeId} (x : Operand) (hop : o.op = .call { callee := .builtin .len, args := #[x], argTypes := #[t] }) (ht : Tryz.prog.underlying t = some (.slice e)) (ad : Option Addr) (n c : Nat) (hx : a.eval x = .slice ad n c) (h : K (a.put o.dst (.int .i64 n)) w) : Oper.wp Tryz.prog o a w K Q := by
 unfold Oper.wp
 have : (execOp a.eval o).run Tryz.prog w = .ok (.value (.int .i64 n)) w := by
  generalize a.eval = ρ at hx
  simp [execOp, hop, resolve, invoke, hx, builtin, Builtin.len_, run_underlying ht, goInt, Result.andThen]
 rw [this]
 exact h
end Go.Proofs.YtlhicnfeajejhaaGreatDoor
namespace Go.Proofs.YtlhicnfeajejhaaGreatDoor
open Go.RowKit Go.Cx
attribute [local go_sem ↓] Go.wp_at_zero Go.wp_at_succ
end Go.Proofs.YtlhicnfeajejhaaGreatDoor
