/- Calls by kinds: Made; pairs of chains; len. cocyclelaw07.ChainsTwice. Written by gen_twi.py out of LaT.src. -/
import Derived.Deep.RegionHeld3
import Derived.Deep.DeepMust
import Derived.Test.YtfcmpolhcpbliaaGreatDoorOn
import Derived.Test.YtfcmpolhcpbliaaGreatDoorOo
import Derived.Test.YtfcmpolhcpbliaaGreatDoorOi
import Derived.Test.YtfcmpolhcpbliaaGreatDoorPa

namespace Go.Proofs.YtfcmpolhcpbliaaGreatDoor
open Go.RowKit Go.Cx

theorem idsK_mem {K : List Cl} {d x : Int} (h : x ∈ idsK K d) : ∃ y ∈ K, y.id = x ∧ y.dim = d := by
  obtain ⟨y, hy, rfl⟩ := List.mem_map.1 h
  obtain ⟨hy, hd⟩ := List.mem_filter.1 hy
  obtain ⟨z, hz, h1, h2, _⟩ := ordK_mem _ y (nub_mem _ _ _ _ hy)
  exact ⟨z, hz, h1.symm, by rw [← h2]; simpa using hd⟩
theorem stp_len {Q : Exit → Act → World → Prop} {k : Fk} {o : Oper} {a : Act} {w : World} {t e : TypeId} (x : Operand) (hop : o.op = .call { callee := .builtin .len, args := #[x], argTypes := #[t] }) (ht : Tryz.prog.underlying t = some (.slice e)) (ad : Option Addr) (n c : Nat) (hx : a.eval x = .slice ad n c) (hn : k.holds (.int .i64 n) w) : Stp Tryz.prog Q k o a w := by
  show Oper.wp _ _ _ _ _ _
  unfold Oper.wp
  have : (execOp a.eval o).run Tryz.prog w = .ok (.value (.int .i64 n)) w := by
    generalize a.eval = ρ at hx
    simp [execOp, hop, resolve, invoke, hx, builtin, Builtin.len_, run_underlying ht, goInt, Result.andThen]
  rw [this]
  exact ⟨_, rfl, hn, Below.refl _ _⟩
end Go.Proofs.YtfcmpolhcpbliaaGreatDoor

namespace Go.Proofs.YtfcmpolhcpbliaaGreatDoor
open Go.RowKit Go.Cx
attribute [local go_sem ↓] Go.wp_at_zero Go.wp_at_succ

theorem simpN_len (l : List Int) : ∀ s ∈ (l.take 12).map vsOf, s.length ≤ 4 := fun s hs => by
  obtain ⟨n, _, rfl⟩ := List.mem_map.1 hs
  exact (vsOf_ok n).1

end Go.Proofs.YtfcmpolhcpbliaaGreatDoor
