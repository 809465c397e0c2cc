/- cocyclelaw07.sanity. Written by gen_san.py out of LaE.src. -/
import Derived.Test.YtlhicnfeajejhaaGreatDoorKMm
set_option maxRecDepth 1000000
set_option maxHeartbeats 16000000
namespace Go.Proofs.YtlhicnfeajejhaaGreatDoor
open Go.RowKit Go.Cx
attribute [local go_sem ↓] Go.wp_at_zero Go.wp_at_succ
def triK : List Cl := [⟨1, 0, []⟩, ⟨2, 0, []⟩, ⟨3, 0, []⟩, ⟨4, 1, [⟨1, -1⟩, ⟨2, 1⟩]⟩, ⟨5, 1, [⟨1, -1⟩, ⟨3, 1⟩]⟩, ⟨6, 1, [⟨2, -1⟩, ⟨3, 1⟩]⟩, ⟨7, 2, [⟨4, 1⟩, ⟨5, -1⟩, ⟨6, 1⟩]⟩]
theorem triK_ok : KOk triK := by
 intro x hx
 simp only [triK, List.mem_cons, List.not_mem_nil, or_false] at hx
 rcases hx with rfl | rfl | rfl | rfl | rfl | rfl | rfl <;> refine ⟨⟨by unfold I64; decide, by unfold I64; decide⟩, by decide, ?_⟩ <;> intro s hs <;> simp only [List.mem_cons, List.not_mem_nil, or_false] at hs
 all_goals first | (rcases hs with rfl | rfl | rfl <;> exact ⟨by unfold I64; decide, by unfold I64; decide⟩) | (rcases hs with rfl | rfl <;> exact ⟨by unfold I64; decide, by unfold I64; decide⟩)
theorem eqgW : Tryz.prog.eqGuardType Tryz.prog.depth 38 = false := by kernel_rfl
theorem ldK {w : World} {b : Nat} {v : Value} (h : Bv w b v) : (Instr.loadAt 26 (.pointer (some ⟨b, 0, none⟩))).run Tryz.prog w = .ok (.agg #[v]) w := by
 have h1 := h.1
 simp [go_sem, h1]
end Go.Proofs.YtlhicnfeajejhaaGreatDoor
