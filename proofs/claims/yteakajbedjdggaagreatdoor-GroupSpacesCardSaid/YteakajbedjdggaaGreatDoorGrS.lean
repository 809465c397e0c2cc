import Derived.Test.YteakajbedjdggaaGreatDoorGaT
/-
  GroupSpaces returns true for every byte: it is run at each of the 256.
-/
set_option maxRecDepth 1000000
noncomputable section
namespace Go.Proofs.YteakajbedjdggaaGreatDoor
open Go Go.RowKit Go.Sx
noncomputable def topK (k : Nat) : Bool := callF P0 H_24 3 (run P0 H_24 4000) [.int .u8 (Int.ofNat k)] .lf .z (fun v _ _ => eqBv true v)
noncomputable def seg (lo m : Nat) : Bool := Nat.rec (motive := fun _ => Bool) true (fun k ih => gd (fN (Nat.add lo k) topK) ih) m
theorem fN_eq (n : Nat) (k : Nat → Bool) : fN n k = k n := by cases n <;> rfl
theorem seg_ok {lo : Nat} : ∀ {m : Nat}, seg lo m = true → ∀ k, lo ≤ k → k < lo + m → topK k = true
  | 0, _, k, h1, h2 => (by omega)
  | m + 1, h, k, h1, h2 => by
    obtain ⟨h3, h4⟩ := gd_ok (show gd (fN (Nat.add lo m) topK) (seg lo m) = true from h)
    rw [fN_eq] at h3
    by_cases hk : k = lo + m
    · rw [hk]; exact h3
    · exact seg_ok h4 k h1 (by omega)
theorem seg0 : seg 0 64 = true := by kernel_rfl
theorem seg1 : seg 64 64 = true := by kernel_rfl
theorem seg2 : seg 128 64 = true := by kernel_rfl
theorem seg3 : seg 192 64 = true := by kernel_rfl
theorem topAll (k : Nat) (hk : k < 256) : topK k = true := by
  by_cases h1 : k < 64
  · exact seg_ok seg0 k (by omega) (by omega)
  · by_cases h2 : k < 128
    · exact seg_ok seg1 k (by omega) (by omega)
    · by_cases h3 : k < 192
      · exact seg_ok seg2 k (by omega) (by omega)
      · exact seg_ok seg3 k (by omega) (by omega)
theorem groupSpaces (z : Int) (hz : (Lit.int .u8 z).wf = true) (w : World) : Calls Tryz.prog 3 #[.int .u8 z] w fun en w' => en = .returned (.bool true) ∧ Below w.heap.size w w' := by
  have h : 0 ≤ z ∧ z ≤ 255 := by simpa [Lit.wf, IntKind.min, IntKind.max, IntKind.bits, IntKind.signed] using hz
  obtain ⟨k, rfl⟩ : ∃ k : Nat, z = Int.ofNat k := ⟨z.toNat, by simp; omega⟩
  have hk : k < 256 := by have := h.2; simp at this; omega
  exact law_of_run (vs := [.int .u8 (Int.ofNat k)]) ho_H_24 (topAll k hk) (by simp [denL, den]) w
end Go.Proofs.YteakajbedjdggaaGreatDoor
