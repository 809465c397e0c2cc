/- Arguments as my walks read them: an int, a slice of ints, an array of two. -/
import Derived.Test.YtfcmpolhcpbliaaGreatDoorMp

namespace Go.Proofs.YtfcmpolhcpbliaaGreatDoor
open Go.RowKit Go.Cx Go.ChangeShapes Go.WideShapes

theorem okWide_arr' {P : Program} {w : World} {r : Reach} {base : Nat} {t : TypeId} {v : Value} {n : Nat} {e : TypeId} (ht : P.underlying t = some (.array n e)) (h : Value.okWide P w r base t v) : ∃ cs, v = .agg cs ∧ cs.size = P.cellsOf t := by
  simp only [Value.okWide, ht] at h
  obtain ⟨cs, h1, h2, _⟩ := h
  exact ⟨cs, h1, h2⟩
section
variable {H : Type} {enc : TypeId × Value → H} {W : World}
theorem arg_int {fuel : Nat} {v : Value} {x : DataW H × List MemPlace} (h : DataW.trod enc Tryz.prog W 0 (fun _ => true) true fuel 3 [v] = some x) : ∃ z, v = .int .i64 z ∧ I64 z := by
  obtain ⟨z, h1, _, h3⟩ := DataW.trod_int Tryz.underlying3 h
  simp only [List.cons.injEq, and_true] at h1
  exact ⟨z, h1, wfI h3⟩
theorem arg_ints {t : TypeId} {fuel : Nat} {v : Value} {x : DataW H × List MemPlace} (ht : Tryz.prog.underlying t = some (.slice 3)) (h : DataW.trod enc Tryz.prog W 0 (fun _ => true) true fuel t [v] = some x) : ∃ l : List Int, Sl W 1 v (ints l) ∧ ∀ x ∈ l, I64 x := by
  rcases open_ints ht Tryz.underlying3 Tryz.cellsInt h with ⟨h1, _⟩ | ⟨a, len, cap, zs, h1, _, hl, hm, hz, _, hc, hw⟩
  · simp only [List.cons.injEq, and_true] at h1
    subst h1
    exact ⟨[], Sl.nil _ _, fun x hx => by cases hx⟩
  · simp only [List.cons.injEq, and_true] at h1
    subst h1
    simp only [if_true] at hz
    refine ⟨zs.take len, ⟨some a, len, cap, rfl, hl, by omega, by rw [ints_len, List.length_take]; omega, (fun e => by cases e), fun ad ha j u hj => ?_⟩, fun x hx => wfI (hw x (List.mem_of_mem_take hx))⟩
    cases ha
    have hjl : j < (zs.take len).length := by
      have := (List.getElem?_eq_some_iff.1 hj).1
      rwa [ints_len] at this
    rw [ints_get _ _ hjl] at hj
    cases hj
    rw [List.length_take] at hjl
    rw [hc j (by omega)]
    simp [List.getD_eq_getElem?_getD, show j < len by omega]
set_option maxRecDepth 100000 in
/-- An array of two one-cell elements. -/
theorem arg_arr2 {base : Nat} {t e : TypeId} {v : Value} {d : DataW H} {p : List MemPlace} (ht : Tryz.prog.underlying t = some (.array 2 e)) (ce : Tryz.prog.cellsOf e = 1) (ct : Tryz.prog.cellsOf t = 2)
    (hv : Value.okWide Tryz.prog W .any base t v) (h : DataW.Trod enc Tryz.prog W 0 (fun _ => true) true t v d p) :
    ∃ c0 c1, v = .agg #[c0, c1] ∧ ∃ n y0 y1, DataW.trod enc Tryz.prog W 0 (fun _ => true) true n e [c0] = some y0 ∧ DataW.trod enc Tryz.prog W 0 (fun _ => true) true n e [c1] = some y1 := by
  obtain ⟨cs, rfl, hsz⟩ := okWide_arr' ht hv
  rw [ct] at hsz
  obtain ⟨l⟩ := cs
  match l, hsz with
  | [c0, c1], _ =>
    obtain ⟨fuel, hf⟩ := h
    obtain ⟨xs, k, _, _, _, hxl, hf⟩ := DataW.trod_array ht hf
    match xs, hxl with
    | [y0, y1], _ =>
      have g0 := hf 0 (by decide)
      have g1 := hf 1 (by decide)
      simp [ce, Value.cells] at g0 g1
      exact ⟨c0, c1, rfl, k, y0, y1, g0, g1⟩
set_option maxRecDepth 100000 in
/-- An int among the arguments. -/
theorem arg_intT {base : Nat} {v : Value} {d : DataW H} {p : List MemPlace} (hv : Value.okWide Tryz.prog W .any base 3 v) (h : DataW.Trod enc Tryz.prog W 0 (fun _ => true) true 3 v d p) : ∃ z, v = .int .i64 z ∧ I64 z := by
  obtain ⟨z, rfl, _, _, wz⟩ := open_int Tryz.underlying3 hv h
  exact ⟨z, rfl, wfI wz⟩
end

end Go.Proofs.YtfcmpolhcpbliaaGreatDoor
