/- For every three bytes, three strings and three truth values the law ChainsWide of the package cocyclelaw07 returns true, without a panic, and leaves its arguments as they were: the card of its row is proved. Conditions: none. ChainsWide: the card. -/
import Derived.WalkKit
import Derived.OpenShut
import Derived.Deep.DeepHandedRow
import Derived.Lib.LaidTab
import Derived.Test.YtfcmpolhcpbliaaGreatDoorCards
import Derived.Test.YtfcmpolhcpbliaaGreatDoorTie
import Derived.Test.YtfcmpolhcpbliaaGreatDoorMp
import Derived.Test.YtfcmpolhcpbliaaGreatDoorOe

namespace Go.Proofs.YtfcmpolhcpbliaaGreatDoor.chainsWide
open Go.ChangeShapes Go.WideShapes Go.ChangeAt Go.RowKit Go.Cx Go.Proofs.YtfcmpolhcpbliaaGreatDoor

theorem own : ownKnob Tryz.prog.godebug = none := by kernel_rfl
theorem laidOut : laidOutB Tryz.prog = true := by kernel_rfl

theorem okWide_arr {P : Program} {w : World} {r : Reach} {base : Nat} {t : TypeId} {v : Value} {n : Nat} {e : TypeId} (ht : P.underlying t = some (.array n e)) (h : Value.okWide P w r base t v) : ∃ cs, v = .agg cs ∧ cs.size = P.cellsOf t := by
  simp only [Value.okWide, ht] at h
  obtain ⟨cs, h1, h2, _⟩ := h
  exact ⟨cs, h1, h2⟩
set_option maxRecDepth 100000 in
/-- An array of three one-cell elements, handed in. -/
theorem arg_arr3 {H : Type} {enc : TypeId × Value → H} {W : World} {base : Nat} {t e : TypeId} {v : Value} {d : DataW H} {p : List MemPlace} (ht : Tryz.prog.underlying t = some (.array 3 e)) (ce : Tryz.prog.cellsOf e = 1) (ct : Tryz.prog.cellsOf t = 3)
    (hv : Value.okWide Tryz.prog W .any base t v) (h : DataW.Trod enc Tryz.prog W 0 (fun _ => true) true t v d p) :
    ∃ c0 c1 c2, v = .agg #[c0, c1, c2] ∧ ∃ n y0 y1 y2, DataW.trod enc Tryz.prog W 0 (fun _ => true) true n e [c0] = some y0 ∧ DataW.trod enc Tryz.prog W 0 (fun _ => true) true n e [c1] = some y1 ∧ DataW.trod enc Tryz.prog W 0 (fun _ => true) true n e [c2] = some y2 := by
  obtain ⟨cs, rfl, hsz⟩ := okWide_arr ht hv
  rw [ct] at hsz
  obtain ⟨l⟩ := cs
  match l, hsz with
  | [c0, c1, c2], _ =>
    obtain ⟨fuel, hf⟩ := h
    obtain ⟨xs, k, _, _, _, hxl, hf⟩ := DataW.trod_array ht hf
    match xs, hxl with
    | [y0, y1, y2], _ =>
      have g0 := hf 0 (by decide)
      have g1 := hf 1 (by decide)
      have g2 := hf 2 (by decide)
      simp [ce, Value.cells] at g0 g1 g2
      exact ⟨c0, c1, c2, rfl, k, y0, y1, y2, g0, g1, g2⟩

set_option maxRecDepth 100000 in
theorem contract (H : Type) (enc : TypeId × Value → H) (W : World) (base : Nat) (args : Array Value) (ds gs : List (DataW H)) (before : List MemPlace)
    (hval : ∀ (j : Nat) t v, Tryz.f7.params[j]? = some t → args[j]? = some v → Value.okWide Tryz.prog W .any base t v)
    (hW : DataW.Whole enc Tryz.prog Tryz.f7.params.toList Rows.chainsWideSpec.vars false W args.toList ds gs before) :
    Calls Tryz.prog 7 args W fun e W' => ∃ v, e = .returned v ∧ Rows.chainsWideSpec.post enc Tryz.prog Tryz.f7 false true false false W args v W' := by
  have hW' := hW
  obtain ⟨p, q, hA0, hV, rfl, hfz, hnd⟩ := hW
  have hA : DataW.TrodAll enc Tryz.prog W 0 (fun _ => true) true Tryz.f7.params.toList args.toList ds p := hA0
  rw [Tryz.params7] at hA hval
  obtain ⟨v0, vs0, d0, ds0, p0, q0, hargs, rfl, rfl, h0, r0⟩ := trodAll_cons hA
  obtain ⟨v1, vs1, d1, ds1, p1, q1, rfl, rfl, rfl, h1, r1⟩ := trodAll_cons r0
  obtain ⟨v2, vs2, d2, ds2, p2, q2, rfl, rfl, rfl, h2, r2⟩ := trodAll_cons r1
  obtain ⟨rfl, rfl, rfl⟩ := trodAll_nil r2
  clear r0 r1 r2 hA
  obtain rfl : args = #[v0, v1, v2] := by cases args; simp_all
  obtain ⟨rfl, rfl⟩ := trodVars_none hV
  clear hA0
  simp only [List.append_nil] at hW'
  have hlt : ∀ x ∈ p0 ++ (p1 ++ p2), x.block < W.heap.size := fun x hx => by simpa using hW'.lt x (by simpa using hx)
  have k0 := h0
  have k1 := h1
  have k2 := h2
  obtain ⟨a0, a1, a2, rfl, n0, y0, y1, y2, e0, e1, e2⟩ := arg_arr3 Tryz.underlying59 (by kernel_rfl) (by kernel_rfl) (hval 0 59 v0 rfl rfl) h0
  obtain ⟨b0, b1, b2, rfl, n1, z0, z1, z2, f0, f1, f2⟩ := arg_arr3 Tryz.underlying60 (by kernel_rfl) (by kernel_rfl) (hval 1 60 v1 rfl rfl) h1
  obtain ⟨c0, c1, c2, rfl, n2, u0, u1, u2, g0, g1, g2⟩ := arg_arr3 Tryz.underlying61 (by kernel_rfl) (by kernel_rfl) (hval 2 61 v2 rfl rfl) h2
  obtain ⟨i0, q0, _, w0⟩ := DataW.trod_int Tryz.underlying5 e0
  obtain ⟨i1, q1, _, w1⟩ := DataW.trod_int Tryz.underlying5 e1
  obtain ⟨i2, q2, _, w2⟩ := DataW.trod_int Tryz.underlying5 e2
  obtain ⟨s0, q3, _, x0⟩ := DataW.trod_string Tryz.underlying9 f0
  obtain ⟨s1, q4, _, x1⟩ := DataW.trod_string Tryz.underlying9 f1
  obtain ⟨s2, q5, _, x2⟩ := DataW.trod_string Tryz.underlying9 f2
  obtain ⟨m0, q6, _⟩ := DataW.trod_bool Tryz.underlying4 g0
  obtain ⟨m1, q7, _⟩ := DataW.trod_bool Tryz.underlying4 g1
  obtain ⟨m2, q8, _⟩ := DataW.trod_bool Tryz.underlying4 g2
  simp only [List.cons.injEq, and_true] at q0 q1 q2 q3 q4 q5 q6 q7 q8
  subst q0 q1 q2 q3 q4 q5 q6 q7 q8
  have r0 : ∀ (v : Value) (d : DataW H) (ps : List MemPlace), DataW.Trod enc Tryz.prog W 0 (fun _ => true) true 59 v d ps → (∀ x ∈ ps, x.block < W.heap.size) → ∀ (W' : World), Below W.heap.size W W' → DataW.Trod enc Tryz.prog W' 0 (fun b => decide (b < W.heap.size)) true 59 v d ps :=
    fun v d ps hk hl W' hn => Below.trod laidOut (by kernel_rfl) (of_decide_eq_true (by kernel_rfl)) hk hn hl
  have r1 : ∀ (v : Value) (d : DataW H) (ps : List MemPlace), DataW.Trod enc Tryz.prog W 0 (fun _ => true) true 60 v d ps → (∀ x ∈ ps, x.block < W.heap.size) → ∀ (W' : World), Below W.heap.size W W' → DataW.Trod enc Tryz.prog W' 0 (fun b => decide (b < W.heap.size)) true 60 v d ps :=
    fun v d ps hk hl W' hn => Below.trod laidOut (by kernel_rfl) (of_decide_eq_true (by kernel_rfl)) hk hn hl
  have r2 : ∀ (v : Value) (d : DataW H) (ps : List MemPlace), DataW.Trod enc Tryz.prog W 0 (fun _ => true) true 61 v d ps → (∀ x ∈ ps, x.block < W.heap.size) → ∀ (W' : World), Below W.heap.size W W' → DataW.Trod enc Tryz.prog W' 0 (fun b => decide (b < W.heap.size)) true 61 v d ps :=
    fun v d ps hk hl W' hn => Below.trod laidOut (by kernel_rfl) (of_decide_eq_true (by kernel_rfl)) hk hn hl
  have hlaw := laWide (fun k => if k = 0 then i0 else if k = 1 then i1 else i2) (fun k => if k = 0 then s0 else if k = 1 then s1 else s2) (fun k => if k = 0 then m0 else if k = 1 then m1 else m2) W
    (fun k => by split; exact bounds_u8 w0; split; exact bounds_u8 w1; exact bounds_u8 w2) (fun k => by unfold maxLen at x0 x1 x2; split; exact x0; split; exact x1; exact x2)
  simp only [if_true, show (1 : Nat) ≠ 0 by decide, show (2 : Nat) ≠ 0 by decide, show (2 : Nat) ≠ 1 by decide, if_false] at hlaw
  refine hlaw.mono fun e W' ⟨he, hb⟩ => ?_
  subst he
  refine ⟨_, rfl, _, _, _, [], p0 ++ (p1 ++ (p2 ++ [])), [], hW', ?_, ?_, rfl, hb.frame _, fun h => by cases h⟩
  · exact trodAll_cons_mk (shut_bool Tryz.underlying4 _) trodAll_mk0
  · exact trodAll_cons_mk (r0 _ _ _ k0 (fun x hx => hlt x (by simp [hx])) W' hb) (trodAll_cons_mk (r1 _ _ _ k1 (fun x hx => hlt x (by simp [hx])) W' hb) (trodAll_cons_mk (r2 _ _ _ k2 (fun x hx => hlt x (by simp [hx])) W' hb) trodAll_mk0))

end Go.Proofs.YtfcmpolhcpbliaaGreatDoor.chainsWide

namespace Go.Proofs.YtfcmpolhcpbliaaGreatDoor.chainsWide
open Go.ChangeShapes Go.WideShapes Go.ChangeAt Go.RowKit Go.Cx Go.Proofs.YtfcmpolhcpbliaaGreatDoor

/-- A block's cells, put in its place. -/
def putCells (xs : Array Value) : Obj → Obj
  | .cells _ t frozen => .cells xs t frozen
  | o => o
def firstCells : Array Value := (Pinned.utf8FirstZ.map fun n => Value.int .u8 (n : Nat)).toArray
def rangeCells : Array Value := (([128, 191, 160, 191, 128, 159, 144, 191, 128, 143] ++ List.replicate 22 0).map fun n => Value.int .u8 (n : Nat)).toArray
/-- A world for the witness: the settled one, the two tables holding what is laid. -/
noncomputable def laidWorld (os : Os) : World :=
  { World.holding Tryz.prog os ⟨#[], #[], []⟩ with heap := ((World.holding Tryz.prog os ⟨#[], #[], []⟩).heap.modify 0 (putCells firstCells)).modify 1 (putCells rangeCells) }
abbrev witArgs : Array Value := #[.agg #[.int .u8 0, .int .u8 0, .int .u8 0], .agg #[.string ⟨#[]⟩, .string ⟨#[]⟩, .string ⟨#[]⟩], .agg #[.bool false, .bool false, .bool false]]
set_option maxRecDepth 100000 in
theorem laid_met (os : Os) : laidMet Tryz.prog Rows.chainsWideRow.laid ((laidWorld os).forCall (fun _ _ => 0) ⟨#[], witArgs, []⟩).memory :=
  laidMet_of_run' 8 (by kernel_rfl) (by kernel_rfl)
theorem reads (os : Os) {H : Type} (enc : TypeId × Value → H) : ∃ places, DataW.whole enc Tryz.prog ((laidWorld os).forCall (fun _ _ => 0) ⟨#[], witArgs, []⟩).memory Tryz.f7.params.toList Rows.chainsWideSpec.vars false witArgs.toList 8 = some ([.agg [.lit (.int .u8 0), .lit (.int .u8 0), .lit (.int .u8 0)], .agg [.lit (.string []), .lit (.string []), .lit (.string [])], .agg [.lit (.bool false), .lit (.bool false), .lit (.bool false)]], [], places) :=
  ⟨[], by kernel_rfl⟩

set_option maxRecDepth 100000 in
theorem lifted (os : Os) (started : os.Started) (H : Type) (enc : TypeId × Value → H) (F : Stop.Interp) :
    ReturnsInHanded {} Tryz.checked os 7 .any ((OpenSpec.ofChange Rows.chainsWideSpec).preRow enc Tryz.prog Tryz.f7 Rows.chainsWideRow.domain false Rows.chainsWideRow.laid) (((OpenSpec.ofChange Rows.chainsWideSpec).at F).post enc Tryz.prog Tryz.f7 false true false false) := by
  obtain ⟨places, hx⟩ := reads os enc
  refine returnsInHanded_of_row (C := Tryz.checked) (s := OpenSpec.ofChange Rows.chainsWideSpec) own started (by kernel_rfl) Tryz.func7
    (witness_row_at (enc := enc) (C := Tryz.checked) false (laidWorld os) witArgs rfl (by kernel_rfl) (by kernel_rfl) (by kernel_rfl)
      (OpenSpec.preRow_of_cond 8 hx (by kernel_rfl) (fun k hk => by cases hk) (by kernel_rfl) (laid_met os))) ?_
  intro W base args ds gs before hval hW _ _ _ _ _ _
  exact contract H enc W base args ds gs before hval hW

set_option maxRecDepth 100000 in
theorem said : Rows.ChainsWideSaid :=
  OpenClaim.holds_of_cond 7 Tryz.f7 rfl rfl rfl rfl rfl rfl rfl ⟨rfl, rfl, rfl, rfl, rfl⟩ rfl rfl rfl rfl rfl (by kernel_rfl) Tryz.func7 (by kernel_rfl)
    (of_decide_eq_true (by kernel_rfl)) (by unfold Func.isWrapper; first | (rw [if_pos (by decide +kernel)]; kernel_rfl) | (rw [if_neg (by decide +kernel)]; exact ⟨rfl, rfl⟩))
    (fun os started H enc _ F => by rw [OpenClaim.pre_eq_preRow]; exact lifted os started H enc F)

/-- No parameter wants a stand-in; the program's own looks are off. -/
theorem plain (f : FuncId) (fn : Func) (hf : Tryz.pinned.checked.prog.funcNamed Tryz.f7.name = some f) (hfn : Tryz.pinned.checked.prog.funcs[f]? = some fn) :
    false = Tryz.pinned.checked.prog.looks [] ∧ ∀ (j : Nat) t, fn.params[j]? = some t → Tryz.pinned.checked.prog.wantsStandIn t = false := by
  obtain rfl : f = 7 := Option.some.inj ((show Tryz.prog.funcNamed Tryz.f7.name = some 7 by kernel_rfl).symm.trans hf) |>.symm
  obtain rfl : fn = Tryz.f7 := (Option.some.inj (Tryz.func7.symm.trans hfn)).symm
  refine ⟨by kernel_rfl, fun j t ht => ?_⟩
  rw [Tryz.params7] at ht
  obtain rfl | rfl | rfl : t = 59 ∨ t = 60 ∨ t = 61 := by have := Array.mem_of_getElem? ht; simp at this; omega
  · exact (show Tryz.prog.wantsStandIn 59 = false by kernel_rfl)
  · exact (show Tryz.prog.wantsStandIn 60 = false by kernel_rfl)
  · exact (show Tryz.prog.wantsStandIn 61 = false by kernel_rfl)

set_option maxRecDepth 100000 in
theorem card : Rows.ChainsWideCardSaid :=
  Claim7.holds_tied_plain_at .later [] _ _ _ _ said (fun _ h => by cases h) (by kernel_rfl) (fun _ h => by cases h) chainsWide_row_tie rfl ⟨rfl, rfl⟩ (by kernel_rfl) rfl plain (by kernel_rfl)

end Go.Proofs.YtfcmpolhcpbliaaGreatDoor.chainsWide
