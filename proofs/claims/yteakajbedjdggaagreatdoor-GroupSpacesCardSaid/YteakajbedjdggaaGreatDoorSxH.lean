import Derived.Test.YteakajbedjdggaaGreatDoorSxG
import Derived.Laws.Append
/-
  Operations that write memory: store, append, copy, clear, maps.
-/
namespace Go.Sx
open Go Go.RowKit

def FW (ro : Option Nat) : Fence := { fn := fun _ => True, depth := none, alive := false, round := ro }
theorem fw_room (ro : Option Nat) (n : Nat) : (FW ro).room n := fun _ h => by simp [FW] at h
section
variable {P : Program} {tm : T V} {h : H} {nx : I} {k : KC}

/-- what an operation with effects does -/
def ES (P : Program) (o : Op) (tm : T V) (h : H) (nx : I) (v : V) (h' : H) (nx' : I) : Prop :=
  nx.nat ≤ nx'.nat ∧ ∀ n0 e (a : Act) w (u : Oper), u.op = o → TmO o e tm a.tmps → Sat n0 e h w → Fresh nx nx' e → ∀ ro (K : Act → World → Prop) (Q : Exit → Act → World → Prop),
    (∀ e' x w', den e' v = some x → Stp n0 e h w nx e' h' w' nx' → K (a.put u.dst x) w') → u.wpIn (FW ro) 0 P a w K Q
theorem wpIn_value {u : Oper} {a : Act} {w w' : World} {ro : Option Nat} {K : Act → World → Prop} {Q : Exit → Act → World → Prop} {x : Value} (hd : ∀ c, u.op ≠ .defer c) (hr : (execOp a.eval u).run P w = .ok (.value x) w')
    (hK : K (a.put u.dst x) w') : u.wpIn (FW ro) 0 P a w K Q := by
  refine ⟨fun _ _ => trivial, ?_⟩
  rw [Oper.semAt_eq _ _ _ hd, hr]
  exact hK
theorem wpIn_skip' {u : Oper} {a : Act} {w w' : World} {ro : Option Nat} {K : Act → World → Prop} {Q : Exit → Act → World → Prop} (hd : ∀ c, u.op ≠ .defer c) (hr : (execOp a.eval u).run P w = .ok .skip w')
    (hK : K (a.put u.dst undef) w') : u.wpIn (FW ro) 0 P a w K Q := by
  refine ⟨fun _ _ => trivial, ?_⟩
  rw [Oper.semAt_eq _ _ _ hd, hr]
  exact hK

/-! cells are written -/
theorem setCell_upd {w : World} {b o : Nat} {v : Value} {cs : Array Value} {t : TypeId} {fz : Nat × Nat} (hb : w.heap[b]? = some (.cells cs t fz)) :
    (w.setCell ⟨b, o, none⟩ v).heap[b]? = some (.cells (cs.setIfInBounds o v) t fz) ∧ Upd w (w.setCell ⟨b, o, none⟩ v) b := by
  refine ⟨?_, rfl, rfl, rfl, by simp [World.setCell], fun c hc => Below.heap_setCell w ⟨b, o, none⟩ v c hc⟩
  simp only [World.setCell, Array.getElem?_modify, if_true, hb, Option.map_some]
  rfl
theorem run_stores {b : Nat} {t : TypeId} {fz : Nat × Nat} : ∀ (vs : List Value) (o i : Nat) (cs : Array Value) (w : World), w.heap[b]? = some (.cells cs t fz) → NF fz cs.size → o + i + vs.length ≤ cs.size → (∀ v ∈ vs, v.oneCell' = true) →
    ∃ w' cs', (storeCells ⟨b, o, none⟩ vs i).run P w = .ok () w' ∧ Upd w w' b ∧ w'.heap[b]? = some (.cells cs' t fz) ∧ cs'.toList = cs.toList.take (o + i) ++ vs ++ cs.toList.drop (o + i + vs.length)
  | [], o, i, cs, w, hb, _, _, _ => ⟨w, cs, rfl, Upd.refl _ _, hb, by simp⟩
  | v :: vs, o, i, cs, w, hb, hf, hl, h1 => by
    simp only [List.length_cons] at hl
    have hlt : o + i < cs.size := by omega
    have hcell : w.cell? ⟨b, o + i, none⟩ = some cs[o + i] := by simp [World.cell?, hb, hlt]
    have hfro : w.frozen? ⟨b, o + i, none⟩ = false := by
      have := hf (o + i) hlt
      simp only [World.frozen?, hb]
      rw [Bool.eq_false_iff]
      intro hh
      simp only [Bool.and_eq_true, decide_eq_true_eq] at hh
      exact this hh
    obtain ⟨g1, g2⟩ := setCell_upd (w := w) (b := b) (o := o + i) (v := v) hb
    have hst : (store ((⟨b, o, none⟩ : Addr).add i) v).run P w = .ok () (w.setCell ⟨b, o + i, none⟩ v) := by
      rw [Addr.add_mid, run_store P w _ v _ (h1 v (by simp)), hcell]
      simp [hfro]
    obtain ⟨w', cs', hr, hu, hh, hc⟩ := run_stores vs o (i + 1) _ _ g1 (by simpa using hf) (by simp; omega) (fun x hx => h1 x (by simp [hx]))
    refine ⟨w', cs', ?_, ⟨hu.os.trans g2.os, hu.tape.trans g2.tape, hu.output.trans g2.output, hu.size.trans g2.size, fun c hc => (hu.keep c hc).trans (g2.keep c hc)⟩, hh, ?_⟩
    · simp only [storeCells, Sem.run_bind, hst, Result.andThen_ok, hr]
    · rw [hc]
      have hlt' : o + i < cs.toList.length := by simpa using hlt
      have e1 : o + (i + 1) = (o + i) + 1 := by omega
      have e2 : o + i + 1 + vs.length = o + i + (v :: vs).length := by simp; omega
      rw [e1, e2, Array.toList_setIfInBounds, List.take_set, List.take_succ_eq_append_getElem hlt', List.set_append_right _ _ (by simp; omega)]
      have e3 : o + i - (List.take (o + i) cs.toList).length = 0 := by simp; omega
      rw [e3, List.drop_set_of_lt (by simp)]
      simp
theorem CR.set {sz ext : Nat} {vs cs ys : List Value} (hc : CR sz ext vs cs) {o : Nat} (hl : o + ys.length ≤ vs.length) :
    CR sz ext (vs.take o ++ ys ++ vs.drop (o + ys.length)) (cs.take o ++ ys ++ cs.drop (o + ys.length)) := by
  rcases hc with ⟨h1, rfl⟩ | ⟨h1, r, rfl, h2⟩
  · exact .inl ⟨h1, rfl⟩
  · refine .inr ⟨h1, r, ?_, h2⟩
    rw [List.take_append_of_le_length (by omega), List.drop_append_of_le_length (by omega)]
    simp
theorem cells_one {e : Env} {vs : List V} {xs : List Value} (hv : denL e vs = some xs) (h1 : ∀ v ∈ vs, ∀ e x, den e v = some x → x.oneCell' = true) : ∀ x ∈ xs, x.oneCell' = true := by
  intro x hx
  obtain ⟨i, hi, rfl⟩ := List.getElem_of_mem hx
  have hlt : i < vs.length := by rw [← denL_len hv]; exact hi
  obtain ⟨y, hy, hg⟩ := denL_get hv (List.getElem?_eq_getElem hlt)
  rw [List.getElem?_eq_getElem hi] at hg
  cases hg
  exact h1 _ (List.getElem_mem hlt) e _ hy
theorem wr_stp {n0 : Nat} {e : Env} {w : World} (s : Sat n0 e h w) {b : I} {c : List V} {t : TypeId} {z : Nat} (hb : h.get b = some (.cells c t z)) {q : Loc} (hq : e b = some q) {o : Nat} {vs : List V} {xs : List Value}
    (hv : denL e vs = some xs) (hl : o + vs.length ≤ c.length) (h1 : ∀ v ∈ vs, ∀ e x, den e v = some x → x.oneCell' = true) (nx : I) :
    ∃ w', (storeCells ⟨q.blk, o, none⟩ xs).run P w = .ok () w' ∧ Stp n0 e h w nx e (h.put b (some (.cells (c.take o ++ vs ++ c.drop (o + vs.length)) t z))) w' nx := by
  obtain ⟨q', hq', _, cs, fz, ys, g1, g2, g3, g4⟩ := s.rd b _ hb
  rw [hq] at hq'; cases hq'
  have l1 := denL_len hv
  have l2 := denL_len g3
  have l3 := g4.len
  have l4 : cs.toList.length = cs.size := by simp
  obtain ⟨w', cs', hr, hu, hh, hc⟩ := run_stores (P := P) xs o 0 cs w g1 g2 (by omega) (cells_one hv h1)
  refine ⟨w', hr, Stp.upd s hb hq hu ⟨cs', fz, _, hh, ?_, denL_setAt g3 hv o, ?_⟩⟩
  · have : cs'.size = cs.size := by
      have := congrArg List.length hc
      simp at this
      omega
    rw [this]; exact g2
  · rw [hc]
    have := g4.set (ys := xs) (o := o) (by omega)
    rw [l1] at this ⊢
    simpa using this
theorem wrK_ok {b : I} {o : Nat} {vs : List V} {k : H → Bool} (hk : wrK h b o vs k = true) : ∃ c t z, h.get b = some (.cells c t z) ∧ o + vs.length ≤ c.length ∧ (∀ v ∈ vs, ∀ e x, den e v = some x → x.oneCell' = true) ∧
    k (h.put b (some (.cells (c.take o ++ vs ++ c.drop (o + vs.length)) t z))) = true := by
  obtain ⟨c, t, z, hb, hk⟩ := onCells_ok hk
  obtain ⟨h1, h2, h3⟩ := setAtK_ok hk
  rw [T.putK_eq] at h3
  exact ⟨c, t, z, hb, h1, h2, h3⟩
theorem eStore_ok {t : TypeId} {p x : Operand} {hd : Hand} {ih : Run} (hk : eStore t p x P hd ih tm h nx k = true) : ∃ v h' nx', k v h' nx' = true ∧ ES P (.store t p x) tm h nx v h' nx' := by
  obtain ⟨z, hz, hk⟩ := onS_ok hk
  obtain ⟨pv, hp, hk⟩ := ev_ok hk
  obtain ⟨b, o, rfl, hk1⟩ := onPtr_ok hk
  obtain ⟨xv, hx, hk2⟩ := ev_ok hk1
  have hk3 := cellsK_ok hk2
  obtain ⟨hlen, hk4⟩ := gd_ok hk3
  have hlen := beqN hlen
  rw [lenL_eq] at hlen
  obtain ⟨c, ty, zz, hb, hl, h1, hk5⟩ := wrK_ok hk4
  refine ⟨_, _, _, hk5, Nat.le_refl _, fun n0 e a w u hu r s _ ro K Q hK => ?_⟩
  obtain ⟨d, tt, pp, af, g, rfl⟩ := exec_eq hu
  obtain ⟨q, hq, hpv⟩ := den_ptr (hp e a (r _ (by simp [Op.operands])))
  have hcell := den_cells (hx e a (r _ (by simp [Op.operands])))
  obtain ⟨w', hr, hs⟩ := wr_stp (P := P) s hb hq hcell hl h1 nx
  refine wpIn_skip' (w' := w') (fun c h => (by cases h)) ?_ (hK e _ w' den_un hs)
  have hsz : (a.eval x).cells.size = z := by
    rw [← hlen, ← denL_len hcell]; simp
  simp [execOp, Instr.storeAt, hpv, Instr.sureAddr, storeVar, run_sz hz, hsz, hr]

/-! what is appended or copied -/
def SrcS (P : Program) (h : H) (z : Nat) (v : V) (n : Nat) (c : List V) : Prop :=
  ∀ n0 e w x, Rd n0 e h w → den e v = some x → ∃ xs, denL e c = some xs ∧ xs.length = n * z ∧ (Builtin.lenOf x).run P w = .ok n w ∧
    ∀ m, m ≤ n → (Builtin.firstCells z m x).run P w = .ok (xs.take (m * z)).toArray w
theorem srcK_ok {v : V} {z : Nat} {k : Nat → List V → Bool} (hk : srcK v h z k = true) : ∃ n c, k n c = true ∧ c.length = n * z ∧ SrcS P h z v n c := by
  cases v <;> first | exact absurd hk Bool.false_ne_true | skip
  · rename_i l
    obtain ⟨hz, hk⟩ := gd_ok hk
    have hz := beqN hz
    subst hz
    refine ⟨_, _, hk, by simp [lenL_eq], fun n0 e w x rd hx => ?_⟩
    rw [den_str hx]
    refine ⟨_, byteV_den e l, by simp [lenL_eq], by simp [Builtin.lenOf, bts_size, lenL_eq], fun m hm => ?_⟩
    simp only [Builtin.firstCells, Sem.run_pure]
    congr 1
    apply Array.ext'
    simp only [bts, ByteArray.data_extract, Array.toList_map, Array.toList_extract, List.extract_eq_take_drop, List.drop_zero, Nat.sub_zero, List.map_take, List.map_map, Nat.mul_one]
    rfl
  · rename_i b o n c p
    obtain ⟨cs, t, zz, hb, hk⟩ := onCells_ok hk
    obtain ⟨hl, hk⟩ := cutK_ok hk
    refine ⟨_, _, hk, by simp; omega, fun n0 e w x rd hx => ?_⟩
    obtain ⟨q, hq, rfl⟩ := den_slice hx
    obtain ⟨xs, hxs, hlen, hrun⟩ := run_cells (P := P) rd hb hq hl
    refine ⟨xs, hxs, hlen, by simp [Builtin.lenOf], fun m hm => ?_⟩
    have hle : m * z ≤ n * z := Nat.mul_le_mul_right z hm
    obtain ⟨ys, hys, _, hrun'⟩ := run_cells (P := P) (o := o) (n := m * z) rd hb hq (by omega)
    have : ys = xs.take (m * z) := by
      have h2 := denL_take (m * z) hxs
      rw [List.take_take, Nat.min_eq_left hle, hys] at h2
      exact Option.some.inj h2
    rw [← this]
    simpa [Builtin.firstCells] using hrun'
  · refine ⟨_, _, hk, by simp, fun n0 e w x rd hx => ?_⟩
    have : x = .slice none 0 0 := by simpa [den, eq_comm] using hx
    subst this
    exact ⟨[], denL_nil.2 rfl, by simp, by simp [Builtin.lenOf], fun m _ => by simp [Builtin.firstCells]⟩
  · refine ⟨_, _, hk, by simp, fun n0 e w x rd hx => ?_⟩
    obtain ⟨q, hq, rfl⟩ := den_esl hx
    refine ⟨[], denL_nil.2 rfl, by simp, by simp [Builtin.lenOf], fun m hm => ?_⟩
    have : m = 0 := by omega
    subst this
    simp [Builtin.firstCells, loadCells, loadCellsFrom]

/-! append -/
theorem hdT2_ok {l : List TypeId} {k : TypeId → TypeId → Bool} (h : hdT2 l k = true) : ∃ t u r, l = t :: u :: r ∧ k t u = true := by
  cases l with
  | nil => exact absurd h Bool.false_ne_true
  | cons t r =>
    obtain ⟨u, r', rfl, h⟩ := hd0_ok (l := r) h
    exact ⟨t, u, r', rfl, h⟩
/-- what append is asked: so many elements, and their cells -/
def AppArg (P : Program) (ts : Array TypeId) (s : SI) (x : Value) (n : Nat) (new : Array Value) (w : World) : Prop :=
  ∃ t u ud, ts[0]? = some t ∧ ts[1]? = some u ∧ P.underlying t = some (.slice s.e) ∧ szOf P s.e = some s.z ∧ byOf P s.e = some s.by_ ∧ P.underlying u = some ud ∧
    (((∀ k, ud ≠ .int k) ∧ (Builtin.lenOf x).run P w = .ok n w ∧ ∀ w' : World, w'.heap = w.heap → (Builtin.firstCells s.z n x).run P w' = .ok new w') ∨
     (∃ k, ud = .int k ∧ x = .int .i64 n ∧ n < 1099511627776 ∧ n * s.by_ ≤ 140737488355328 ∧ ∃ zc : Value, (∀ w, (zeroValue s.e).run P w = .ok zc w) ∧ new = (if n * s.z = 0 then #[] else Builtin.zeroCells zc.cells n)))
theorem not_int {ud : TypeDesc} (h : ∀ k, ud ≠ .int k) : (ud matches .int _) = false := by
  cases ud <;> first | rfl | exact absurd rfl (h _)
theorem append_in {ts : Array TypeId} {s : SI} {x : Value} {n : Nat} {new : Array Value} {w : World} (ha : AppArg P ts s x n new w) (base : Option Addr) {l c : Nat} (hle : l + n ≤ c) (ty : TypeId) :
    (Builtin.append_ ts ty #[.slice base l c, x]).run P w = (match base with | some a => (storeCells (a.add (l * s.z)) new.toList).run P w | none => .ok () w).andThen fun _ w' => .ok (.slice base (l + n) c) w' := by
  obtain ⟨t, u, ud, h0, h1, hu, hz, hb, hud, hx⟩ := ha
  obtain ⟨inf, hinf, hib⟩ := info_by hb
  have hti : ∀ w, (typeInfo s.e).run P w = .ok inf w := fun w => by simp [typeInfo, hinf]
  rcases hx with ⟨hni, hlen, hfc⟩ | ⟨k, rfl, rfl, hn, hby, zc, hzc, rfl⟩
  · have hni := not_int hni
    cases base <;> simp [Builtin.append_, h0, h1, run_underlying hu, run_underlying hud, run_sz hz, hlen, hle, hfc w rfl]
  · have w1 : IntKind.i64.wrap (n : Int) = n := by rw [IntKind.wrap_i64]; omega
    have hneg : ¬ ((n : Int) < 0) := by omega
    have hbc : ¬ (281474976710656 < (n : Int) * (s.by_ : Int)) := by
      have h48 : (n : Int) * s.by_ = ((n * s.by_ : Nat) : Int) := by push_cast; rfl
      rw [h48]; omega
    by_cases h00 : n * s.z = 0
    · cases base <;> simp [Builtin.append_, h0, h1, run_underlying hu, run_underlying hud, run_sz hz, asInt, asIntOf, w1, hneg, hti, hib, hbc, hle, h00]
    · cases base <;> simp [Builtin.append_, h0, h1, run_underlying hu, run_underlying hud, run_sz hz, asInt, asIntOf, w1, hneg, hti, hib, hbc, hle, h00, hzc]
theorem append_grow {ts : Array TypeId} {s : SI} {x : Value} {n : Nat} {new : Array Value} {w : World} (ha : AppArg P ts s x n new w) (base : Option Addr) {l c : Nat} (hgt : ¬ l + n ≤ c) (h40 : l + n < 1099511627776)
    (hby2 : (l + n) * s.by_ ≤ 140737488355328) {old : Array Value} (hold : ∀ w', w'.heap = w.heap → (Builtin.firstCells s.z l (.slice base l c)).run P w' = .ok old w')  {zc : Value} (hzc : ∀ w, (zeroValue s.e).run P w = .ok zc w) (ty : TypeId) :
    (Builtin.append_ ts ty #[.slice base l c, x]).run P w =
      .ok (.slice (some ⟨w.heap.size, 0, none⟩) (l + n) ((Question.appendCap (l + n) c s.e).cut (w.tape w.drawn (.appendCap (l + n) c s.e))))
        (w.drew.alloc (.cells (old ++ new ++ Builtin.zeroCells zc.cells ((Question.appendCap (l + n) c s.e).cut (w.tape w.drawn (.appendCap (l + n) c s.e)) - (l + n))) s.e)) := by
  obtain ⟨t, u, ud, h0, h1, hu, hz, hb, hud, hx⟩ := ha
  obtain ⟨inf, hinf, hib⟩ := info_by hb
  have hti : ∀ w, (typeInfo s.e).run P w = .ok inf w := fun w => by simp [typeInfo, hinf]
  have hfit : ¬ (Builtin.nextslicecap (l + n) c * s.by_ > 2 ^ 48) := by
    have := growslice_fits (need := l + n) (old := c) (bytes := s.by_) (by omega) hby2
    omega
  have hmax : ¬ (((l + n : Nat) : Int) > IntKind.i64.max) := by
    simp only [IntKind.max, IntKind.signed, IntKind.bits]
    omega
  have hforced : (Question.appendCap (l + n) c s.e).forced = false := rfl
  have hd : ({ w with drawn := w.drawn + 1 } : World) = w.drew := rfl
  have hold' := hold w.drew rfl
  rcases hx with ⟨hni, hlen, hfc⟩ | ⟨k, rfl, rfl, hn, hby, zc', hzc', rfl⟩
  · have hni := not_int hni
    have hfc' := hfc w.drew rfl
    have hfit' : ¬ (281474976710656 < Builtin.nextslicecap (l + n) c * s.by_) := by omega
    have hmax' : ¬ (IntKind.i64.max < (l : Int) + n) := by omega
    have hmax'' : (l : Int) + n ≤ IntKind.i64.max := by omega
    simp [Builtin.append_, h0, h1, run_underlying hu, run_underlying hud, run_sz hz, hlen, hgt, hti, hib, hfit', hforced, hold', hfc', hzc, newRow]
    intro hh; omega
  · have hzz : zc' = zc := by
      have h1 := hzc w
      rw [hzc'] at h1
      cases h1; rfl
    subst hzz
    have w1 : IntKind.i64.wrap (n : Int) = n := by rw [IntKind.wrap_i64]; omega
    have hneg : ¬ ((n : Int) < 0) := by omega
    have hbc : ¬ (281474976710656 < (n : Int) * (s.by_ : Int)) := by
      have h48 : (n : Int) * s.by_ = ((n * s.by_ : Nat) : Int) := by push_cast; rfl
      rw [h48]; omega
    have hfit' : ¬ (281474976710656 < Builtin.nextslicecap (l + n) c * s.by_) := by omega
    have hmax' : ¬ (IntKind.i64.max < (l : Int) + n) := by omega
    have hmax'' : (l : Int) + n ≤ IntKind.i64.max := by omega
    by_cases h00 : n * s.z = 0
    · simp [Builtin.append_, h0, h1, run_underlying hu, run_underlying hud, run_sz hz, asInt, asIntOf, w1, hneg, hti, hib, hbc, hgt, h00, hfit', hforced, hold', hzc, newRow]
      intro hh; omega
    · simp [Builtin.append_, h0, h1, run_underlying hu, run_underlying hud, run_sz hz, asInt, asIntOf, w1, hneg, hti, hib, hbc, hgt, h00, hfit', hforced, hold', hzc, newRow]
      intro hh; omega
theorem zeroCells_len (zc : Array Value) (n : Nat) : (Builtin.zeroCells zc n).toList.length = n * zc.size := by simp [Builtin.zeroCells]
theorem Rd.drew {n0 : Nat} {e : Env} {w w' : World} (rd : Rd n0 e h w) (hw : w'.heap = w.heap) : Rd n0 e h w' := fun b x hb => by
  obtain ⟨q, h1, h2, h3⟩ := rd b x hb
  exact ⟨q, h1, h2, h3.world (by rw [hw])⟩
theorem New.drew (w : World) (o : Obj) : New w (w.drew.alloc o) :=
  ⟨rfl, rfl, rfl, by simp, fun c hc => Below.heap_alloc w.drew o c hc⟩
/-- a grown slice: the new block -/
theorem grow_stp {s : SI} {n0 : Nat} {e : Env} {w : World} (st : Sat n0 e h w) {nx : I} (hn : e nx = none) {old new : List V} {os ns : List Value} (ho : denL e old = some os) (hnw : denL e new = some ns) {need cap : Nat} (_hcap : need ≤ cap) (hz : 0 < s.z)
    {zc : Array Value} (hzc : zc.size = s.z) :
    Stp n0 e h w nx (e.upd nx ⟨w.heap.size, cap - need⟩) (h.put nx (some (.cells (old ++ new) s.e s.z))) (w.drew.alloc (.cells (os.toArray ++ ns.toArray ++ Builtin.zeroCells zc (cap - need)) s.e)) nx.inc := by
  refine Stp.new st hn (New.drew w _) rfl ⟨_, (0, 0), os ++ ns, heap_new w.drew _, nf0 _, denL_mono (Env.le_upd hn) _ _ (denL_append ho hnw), .inr ⟨hz, (Builtin.zeroCells zc (cap - need)).toList, by simp, ?_⟩⟩
  rw [zeroCells_len, hzc]
/-- the meaning of 'append' -/
def ApS (P : Program) (s : SI) (x : V) (n : Nat) (new : List V) (h : H) (nx : I) (v : V) (h' : H) (nx' : I) : Prop :=
  nx.nat ≤ nx'.nat ∧ ∀ n0 e w vx vy ts ty (newA : List Value), Sat n0 e h w → Fresh nx nx' e → den e x = some vx → denL e new = some newA → newA.length = n * s.z → AppArg P ts s vy n newA.toArray w →
    (∃ z, (∀ w, (zeroValue s.e).run P w = .ok z w) ∧ z.cells.size = s.z) →
    ∃ r w' e', (Builtin.append_ ts ty #[vx, vy]).run P w = .ok r w' ∧ den e' v = some r ∧ Stp n0 e h w nx e' h' w' nx'
theorem growK_ok {s : SI} {old new : List V} {need : Nat} (hk : growK s h nx old new need k = true) :
    need < 1099511627776 ∧ need * s.by_ ≤ 140737488355328 ∧ k (.slice nx 0 need need true) (h.put nx (some (.cells (old ++ new) s.e s.z))) nx.inc = true := by
  obtain ⟨h1, hk⟩ := gd_ok hk
  obtain ⟨h2, hk⟩ := gd_ok hk
  rw [T.putK_eq] at hk
  have h2 : 2 * need * s.by_ ≤ 140737488355328 := by simpa using h2
  refine ⟨blt_ok h1, ?_, hk⟩
  have : need * s.by_ ≤ 2 * need * s.by_ := Nat.mul_le_mul_right _ (by omega)
  omega
theorem cut_cap (need c : Nat) (el : TypeId) (w : World) : need ≤ (Question.appendCap need c el).cut (w.tape w.drawn (.appendCap need c el)) := by simp only [Question.cut]; omega
theorem allC_ok : ∀ {l : List V} {b : Bool}, allC l b = true → (∀ v ∈ l, ∀ e x, den e v = some x → x.oneCell' = true) ∧ b = true
  | [], _, h => ⟨fun _ hv => absurd hv List.not_mem_nil, h⟩
  | v :: l, b, h => by
    obtain ⟨h1, h2⟩ := isC_ok (v := v) h
    obtain ⟨h3, h4⟩ := allC_ok (l := l) h1
    refine ⟨fun u hu => ?_, h4⟩
    rcases List.mem_cons.1 hu with rfl | hu
    · exact h2
    · exact h3 u hu
theorem appK_ok {s : SI} (hz : 0 < s.z) {x : V} {n : Nat} {new : List V} (hnew : new.length = n * s.z) (hk : appK s x n new h nx k = true) : ∃ v h' nx', k v h' nx' = true ∧ ApS P s x n new h nx v h' nx' := by
  rcases onSlN_ok hk with ⟨b, o, l, c, p, rfl, hk⟩ | ⟨rfl, hk⟩
  · rcases br_cases hk with ⟨hle, hk⟩ | ⟨hgt, hk⟩
    · have hle : l + n ≤ c := by simpa using hle
      obtain ⟨cs, t, z, hb, hl, h1, hk⟩ := wrK_ok hk
      refine ⟨_, _, _, hk, Nat.le_refl _, fun n0 e w vx vy ts ty newA st _ hx hnA hlen ha _ => ?_⟩
      obtain ⟨q, hq, rfl⟩ := den_slice hx
      obtain ⟨w', hr, hs⟩ := wr_stp (P := P) st hb hq hnA hl h1 nx
      have hin := append_in ha (some ⟨q.blk, o, none⟩) (l := l) (c := if p then c + q.ext else c) (by split <;> omega) ty
      refine ⟨.slice (some ⟨q.blk, o, none⟩) (l + n) (if p then c + q.ext else c), w', e, ?_, by simp only [den, hq, Option.map_some], hs⟩
      rw [hin]
      simp only [Addr.add_mid]
      rw [hr]
      rfl
    · rcases br_cases hk with ⟨hp, hk⟩ | ⟨hp, hk⟩
      · subst hp
        obtain ⟨cs, e', z', hb, hk⟩ := onCells_ok hk
        obtain ⟨g1, hk⟩ := gd_ok hk
        obtain ⟨g2, hk⟩ := gd_ok hk
        obtain ⟨g3, hk⟩ := gd_ok hk
        obtain ⟨g4, hk⟩ := gd_ok hk
        obtain ⟨g5, hk⟩ := gd_ok hk
        obtain ⟨g6, hk⟩ := gd_ok hk
        obtain ⟨g7, hk⟩ := gd_ok hk
        obtain ⟨hall, hkk⟩ := allC_ok hk
        rw [T.putK_eq, T.putK_eq] at hkk
        have g1 := beqN g1
        have g2 := beqN g2
        have g3 := beqN g3
        have g4 := beqN g4
        have g5 := beqN g5
        have g6 := blt_ok g6
        have g7 : 2 * (l + n) * s.by_ ≤ 140737488355328 := by simpa using g7
        have g8 : (l + n) * s.by_ ≤ 140737488355328 := by
          have : (l + n) * s.by_ ≤ 2 * (l + n) * s.by_ := Nat.mul_le_mul_right _ (by omega)
          omega
        rw [lenL_eq] at g2
        subst g1
        have hgt : ¬ l + n ≤ c := by
          have := hgt
          simp only [Nat.ble_eq, ← Bool.not_eq_true] at this
          exact this
        refine ⟨_, _, _, hkk, by rw [I.nat_inc]; omega, fun n0 e w vx vy ts ty newA st fr hx hnA hlen ha hzero => ?_⟩
        obtain ⟨q, hq, rfl⟩ := den_slice hx
        obtain ⟨zc, hzc, hzs⟩ := hzero
        have hnone : e nx = none := fr nx (Nat.le_refl _) (by rw [I.nat_inc]; omega)
        simp only [if_true] at *
        obtain ⟨q', hq', _, acs, fz, ys, k1, k2, k3, k4⟩ := st.rd b _ hb
        rw [hq] at hq'; cases hq'
        have hyl := denL_len k3
        rcases Nat.lt_or_ge (c + q.ext) (l + n) with hcap | hcap
        · have hrd : ∀ w' : World, w'.heap = w.heap → (Builtin.firstCells s.z l (.slice (some ⟨q.blk, 0, none⟩) l (c + q.ext))).run P w' = .ok ys.toArray w' := fun w' hw' => by
            obtain ⟨os', hos', hol', hrun'⟩ := run_cells (P := P) (o := 0) (n := l * s.z) (st.rd.drew hw') hb hq (by omega)
            rw [List.drop_zero, ← g2, List.take_length, k3] at hos'
            cases hos'
            simpa [Builtin.firstCells] using hrun'
          have hgr := append_grow ha (some ⟨q.blk, 0, none⟩) (l := l) (c := c + q.ext) (by omega) g6 g8 (old := ys.toArray) hrd hzc ty
          refine ⟨_, _, _, hgr, ?_, Stp.trans (Stp.del st b nx) (grow_stp (st.del b) hnone k3 hnA (cut_cap _ _ _ _) hz hzs)⟩
          have := cut_cap (l + n) (c + q.ext) s.e w
          simp only [den, Env.upd_same, Option.map_some, if_true]
          congr 2
          omega
        · rcases k4 with ⟨hz0, _⟩ | ⟨hzp, rest, hcs, hrl⟩
          · omega
          have hext : n ≤ q.ext := by omega
          have hnz : n * s.z ≤ q.ext * s.z := Nat.mul_le_mul_right _ hext
          have hasz : acs.toList.length = acs.size := by simp
          have hal : acs.size = l * s.z + q.ext * s.z := by
            rw [← hasz, hcs, List.length_append, hyl, g2, hrl, g4]
          obtain ⟨w', cs', hr, hu, hh, hc⟩ := run_stores (P := P) newA (l * s.z) 0 acs w k1 k2 (by omega) (cells_one hnA hall)
          have hin := append_in ha (some ⟨q.blk, 0, none⟩) (l := l) (c := c + q.ext) hcap ty
          have hst : (storeCells ((⟨q.blk, 0, none⟩ : Addr).add (l * s.z)) newA).run P w = .ok () w' := by
            rw [Addr.add_mid, Nat.zero_add]; exact hr
          have hbr : BR (e.upd nx ⟨q.blk, c + q.ext - (l + n)⟩) w' ⟨q.blk, c + q.ext - (l + n)⟩ (.cells (cs ++ new) s.e s.z) := by
            refine ⟨cs', fz, ys ++ newA, ?_, ?_, denL_mono (Env.le_upd hnone) _ _ (denL_append k3 hnA), .inr ⟨hz, rest.drop (n * s.z), ?_, ?_⟩⟩
            · rw [g3] at hh; exact hh
            · have : cs'.size = acs.size := by
                have := congrArg List.length hc
                simp at this
                omega
              rw [this]; exact k2
            · rw [hc, hcs, Nat.add_zero, ← g2, ← hyl, List.take_left]
              rw [List.drop_append, List.drop_eq_nil_of_le (by omega), List.nil_append]
              congr 2
              omega
            · rw [List.length_drop, hrl, g4, ← Nat.sub_mul]
              congr 1
              show q.ext - n = c + q.ext - (l + n)
              omega
          refine ⟨.slice (some ⟨q.blk, 0, none⟩) (l + n) (c + q.ext), w', e.upd nx ⟨q.blk, c + q.ext - (l + n)⟩, ?_, ?_, Stp.move (q' := ⟨q.blk, c + q.ext - (l + n)⟩) st hb hq hnone hu rfl hbr⟩
          · rw [hin]
            simp only
            rw [hst]
            rfl
          · simp only [den, Env.upd_same, Option.map_some, if_true]
            congr 2
            omega
      · subst hp
        obtain ⟨cs, t, z, hb, hk⟩ := onCells_ok hk
        obtain ⟨hl, hk⟩ := cutK_ok hk
        obtain ⟨h40, hby, hk⟩ := growK_ok hk
        have hgt : ¬ l + n ≤ c := by
          have := hgt
          simp only [Nat.ble_eq, ← Bool.not_eq_true] at this
          exact this
        refine ⟨_, _, _, hk, by rw [I.nat_inc]; omega, fun n0 e w vx vy ts ty newA st fr hx hnA hlen ha hzero => ?_⟩
        obtain ⟨q, hq, rfl⟩ := den_slice hx
        obtain ⟨zc, hzc, hzs⟩ := hzero
        obtain ⟨os, hos, hol, hrun⟩ := run_cells (P := P) st.rd hb hq hl
        have hnone : e nx = none := fr nx (Nat.le_refl _) (by rw [I.nat_inc]; omega)
        have hgr := append_grow ha (some ⟨q.blk, o, none⟩) (l := l) (c := c) hgt h40 hby (old := os.toArray) (fun w' hw' => by
          obtain ⟨os', hos', _, hrun'⟩ := run_cells (P := P) (st.rd.drew hw') hb hq hl
          rw [hos] at hos'; cases hos'
          simpa [Builtin.firstCells] using hrun') hzc ty
        refine ⟨_, _, _, hgr, ?_, grow_stp st hnone hos hnA (cut_cap _ _ _ _) hz hzs⟩
        have := cut_cap (l + n) c s.e w
        simp only [den, Env.upd_same, Option.map_some, if_true]
        congr 2
        omega
  · rcases br_cases hk with ⟨hn, hk⟩ | ⟨hn, hk⟩
    · have hn := beqN hn
      subst hn
      refine ⟨_, _, _, hk, Nat.le_refl _, fun n0 e w vx vy ts ty newA st _ hx hnA hlen ha _ => ?_⟩
      have : vx = .slice none 0 0 := by simpa [den, eq_comm] using hx
      subst this
      refine ⟨_, w, e, append_in ha none (Nat.le_refl _) ty, by simp [den], Stp.refl st⟩
    · have hn := beqF hn
      obtain ⟨h40, hby, hk⟩ := growK_ok hk
      refine ⟨_, _, _, hk, by rw [I.nat_inc]; omega, fun n0 e w vx vy ts ty newA st fr hx hnA hlen ha hzero => ?_⟩
      have : vx = .slice none 0 0 := by simpa [den, eq_comm] using hx
      subst this
      obtain ⟨zc, hzc, hzs⟩ := hzero
      have hnone : e nx = none := fr nx (Nat.le_refl _) (by rw [I.nat_inc]; omega)
      have hgr := append_grow ha none (l := 0) (c := 0) (by omega) (by omega) (by simpa using hby) (old := #[]) (fun w' _ => by simp [Builtin.firstCells]) hzc ty
      simp only [Nat.zero_add] at hgr
      refine ⟨_, _, _, hgr, ?_, grow_stp (old := []) (os := []) st hnone (denL_nil.2 rfl) hnA (cut_cap _ _ _ _) hz hzs⟩
      have := cut_cap n 0 s.e w
      simp only [den, Env.upd_same, Option.map_some, if_true]
      congr 2
      omega
end
end Go.Sx
