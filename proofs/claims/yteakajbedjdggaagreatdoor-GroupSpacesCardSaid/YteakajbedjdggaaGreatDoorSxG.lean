import Derived.Test.YteakajbedjdggaaGreatDoorSxF
/-
  Operations that lay one new block.
-/
namespace Go.Sx
open Go Go.RowKit
section
variable {P : Program} {tm : T V} {h : H} {nx : I} {k : V → B → Bool}

/-- what an operation that lays one block does -/
def AS (P : Program) (o : Op) (tm : T V) (nx : I) (v : V) (b : B) : Prop :=
  ∀ e (a : Act) w (u : Oper), u.op = o → TmO o e tm a.tmps → e nx = none → ∃ q x w', (execOp a.eval u).run P w = .ok (.value x) w' ∧ q.blk = w.heap.size ∧ New w w' ∧ den (Env.upd e nx q) v = some x ∧ BR (Env.upd e nx q) w' q b
theorem New.alloc (w : World) (o : Obj) : New w (w.alloc o) :=
  ⟨rfl, rfl, rfl, by simp, fun c hc => Below.heap_alloc w o c hc⟩
theorem heap_new (w : World) (o : Obj) : (w.alloc o).heap[w.heap.size]? = some o := by
  show (w.heap.push o)[w.heap.size]? = _
  simp
theorem nf0 (n : Nat) : NF (0, 0) n := fun o _ h => by simp only [Nat.not_lt_zero, and_false] at h
/-- a new row of cells -/
theorem BR.row {e : Env} {w : World} {cs : Array Value} {t : TypeId} {c : List V} (hc : denL e c = some cs.toList) {q : Loc} (hq : q.blk = w.heap.size) : BR e (w.alloc (.cells cs t)) q (.cells c t 0) :=
  ⟨cs, (0, 0), cs.toList, by rw [hq]; exact heap_new w _, nf0 _, hc, .inl ⟨rfl, rfl⟩⟩
theorem aAlloc_ok {t : TypeId} (hk : aAlloc t P tm nx k = true) : ∃ v b, k v b = true ∧ AS P (.alloc t) tm nx v b := by
  obtain ⟨z, hz, hk⟩ := onS_ok hk
  have hk := cellsK_ok hk
  refine ⟨_, _, hk, fun e a w u hu _ hn => ?_⟩
  obtain ⟨d, ty, p, af, g, rfl⟩ := exec_eq hu
  obtain ⟨zv, hzv, _, hrun⟩ := run_zero (P := P) hz e
  refine ⟨⟨w.heap.size, 0⟩, .pointer (some ⟨w.heap.size, 0, none⟩), w.alloc (.cells zv.cells t), ?_, rfl, New.alloc _ _, by simp [den, Env.upd_same], BR.row (denL_mono (Env.le_upd hn) _ _ (den_cells hzv)) rfl⟩
  refine run_v ?_
  simp [Instr.alloc, hrun, newVar, newRow]
theorem aBox_ok {t : TypeId} {x : Operand} (hk : aBox t x P tm nx k = true) : ∃ v b, k v b = true ∧ AS P (.box t x) tm nx v b := by
  obtain ⟨z, hz, hk⟩ := ev_ok hk
  have hk := cellsK_ok hk
  refine ⟨_, _, hk, fun e a w u hu r hn => ?_⟩
  obtain ⟨d, ty, p, af, g, rfl⟩ := exec_eq hu
  have hzv := hz e a (r _ (by simp [Op.operands]))
  refine ⟨⟨w.heap.size, 0⟩, .pointer (some ⟨w.heap.size, 0, none⟩), w.alloc (.cells (a.eval x).cells t), ?_, rfl, New.alloc _ _, by simp [den, Env.upd_same], BR.row (denL_mono (Env.le_upd hn) _ _ (den_cells hzv)) rfl⟩
  refine run_v ?_
  simp [Instr.box, newVar, newRow]
theorem siOf_ok {t : TypeId} {s : SI} (hs : siOf P t = some s) : P.underlying t = some (.slice s.e) ∧ szOf P s.e = some s.z ∧ byOf P s.e = some s.by_ ∧ (∃ v, zeroV P s.e = some v ∧ s.zero = cellsV v) ∧ 0 < s.z ∧ s.zero.length = s.z := by
  unfold siOf at hs
  split at hs
  · rename_i e he
    split at hs
    · rename_i z b v hz hb hv
      split at hs
      · rename_i hl
        cases hs
        exact ⟨slEl_ok he, hz, hb, ⟨v, hv, rfl⟩, Nat.succ_pos _, hl⟩
      · cases hs
    · cases hs
  · cases hs
theorem denL_rep {e : Env} {l : List V} {xs : List Value} (hl : denL e l = some xs) : ∀ n, ∃ r, denL e (repL n l) = some r ∧ r = (List.range (n * xs.length)).map (fun i => xs.toArray[i % xs.length]!)
  | 0 => ⟨[], denL_nil.2 rfl, by simp⟩
  | n + 1 => by
    obtain ⟨r, h1, h2⟩ := denL_rep hl n
    refine ⟨xs ++ r, denL_append hl h1, ?_⟩
    have hadd : (n + 1) * xs.length = xs.length + n * xs.length := by rw [Nat.succ_mul]; omega
    rw [hadd, List.range_add, List.map_append, h2]
    congr 1
    · refine List.ext_getElem (by simp) fun i hi _ => ?_
      simp only [List.getElem_map, List.getElem_range, Nat.mod_eq_of_lt hi]
      simp [hi]
    · rw [List.map_map]
      refine List.map_congr_left fun i _ => ?_
      simp
/-- the cells of n zeros -/
theorem run_zeros {s : SI} (hz : ∃ v, zeroV P s.e = some v ∧ s.zero = cellsV v) (hl : s.zero.length = s.z) (e : Env) (n : Nat) :
    ∃ z : Value, (∀ w, (zeroValue s.e).run P w = .ok z w) ∧ z.cells.size = s.z ∧ denL e (repL n s.zero) = some ((List.range (n * s.z)).map (fun i => z.cells[i % z.cells.size]!)) := by
  obtain ⟨v, hv, he⟩ := hz
  obtain ⟨z, hd, _, hrun⟩ := run_zero (P := P) hv e
  have hc := den_cells hd
  rw [← he] at hc
  have hlen := denL_len hc
  have hsz : z.cells.size = s.z := by rw [← hl, ← hlen]; simp
  refine ⟨z, hrun, hsz, ?_⟩
  obtain ⟨r, h1, h2⟩ := denL_rep hc n
  rw [h1, h2, hlen, hl, hsz]
theorem range0 (f : Nat → Value) : (Array.range 0).map f = #[] := by simp [Array.range]
theorem aBs_ok {t : TypeId} {n : Nat} {ps : Array (Nat × Operand)} (hk : aBs t n ps P tm nx k = true) : ∃ v b, k v b = true ∧ AS P (.buildSlice t n ps) tm nx v b := by
  obtain ⟨s, hs, hk⟩ := onS_ok hk
  obtain ⟨hle, hk⟩ := gd_ok hk
  obtain ⟨l, hl, hk⟩ := evP_ok hk
  obtain ⟨c, hk, hf⟩ := fillK_ok hk
  obtain ⟨h1, h2, h3, h4, h5, h6⟩ := siOf_ok hs
  refine ⟨_, _, hk, fun e a w u hu r hn => ?_⟩
  obtain ⟨d, ty, p, af, g, rfl⟩ := exec_eq hu
  obtain ⟨z, hz, hsz, hrep⟩ := run_zeros (P := P) h4 h6 e n
  have hle : n * s.z ≤ 16777216 := by simpa using hle
  let cs : Array Value := (Array.range (n * s.z)).map (fun i => z.cells[i % z.cells.size]!)
  have hcs : denL e (repL n s.zero) = some cs.toList := by
    rw [hrep]; congr 1; simp [cs]
  obtain ⟨rs, hrs, hfill⟩ := hf e cs _ hcs (evP_pairs hl (fun q hq => r q.2 (by
    simp only [Op.operands, List.mem_toArray, List.mem_map]
    exact ⟨q, hq, rfl⟩)))
  refine ⟨⟨w.heap.size, 0⟩, .slice (some ⟨w.heap.size, 0, none⟩) n n, w.alloc (.cells rs s.e), ?_, rfl, New.alloc _ _, by simp [den, Env.upd_same], BR.row (denL_mono (Env.le_upd hn) _ _ hrs) rfl⟩
  refine run_v ?_
  have hgt : ¬ n * s.z > 2 ^ 24 := by omega
  show (Instr.buildSlice t n (ps.map fun (i, x) => (i, a.eval x))).run P w = _
  have hps : (ps.map fun (i, x) => (i, a.eval x)).toList = (ps.toList.map fun p => (p.1, a.eval p.2)) := by simp
  by_cases h0 : n * s.z = 0
  · have hcs0 : cs = #[] := by simp [cs, h0]
    rw [hcs0] at hfill
    simp [Instr.buildSlice, run_underlying h1, run_sz h2, h0, range0, hfill, newRow]
  · simp only [Instr.buildSlice, Sem.run_bind, run_underlying h1, run_sz h2, Result.andThen_ok, hgt, if_false, h0, hz, Sem.run_pure, Sem.run_ite, hps]
    have : (Array.range (n * s.z)).map (fun x => z.cells[x % z.cells.size]!) = cs := rfl
    rw [this, hfill]
    simp [newRow]
theorem aMap_ok {t : TypeId} {r : Option Operand} (hk : aMap t r P tm nx k = true) : ∃ v b, k v b = true ∧ AS P (.makeMap t r) tm nx v b := by
  have key : ∀ (hs : Option Value), (hs = none ∨ ∃ i n kt et, hs = some (.int i n) ∧ P.underlying t = some (.map kt et)) → ∀ w : World, (Instr.makeMap t hs).run P w = .ok (.map (some w.heap.size)) (w.alloc (.map #[] 0)) := by
    intro hs hh w
    rcases hh with rfl | ⟨i, n, kt, et, rfl, hu⟩
    · simp [Instr.makeMap]
    · simp [Instr.makeMap, run_underlying hu, asInt, asIntOf]
  have fin : ∀ (o : Oper) (ho : o.op = .makeMap t r), (∀ e (a : Act), TmO (.makeMap t r) e tm a.tmps → (r.map a.eval = none ∨ ∃ i n kt et, r.map a.eval = some (.int i n) ∧ P.underlying t = some (.map kt et))) → AS P (.makeMap t r) tm nx (.map nx) (.map [] 0) := by
    intro _ _ hh e a w u hu rr hn
    obtain ⟨d, ty, p, af, g, rfl⟩ := exec_eq hu
    refine ⟨⟨w.heap.size, 0⟩, _, _, run_v (key _ (hh e a rr) w), rfl, New.alloc _ _, by simp [den, Env.upd_same], ?_⟩
    exact ⟨#[], heap_new w _, trivial⟩
  cases r with
  | none => exact ⟨_, _, hk, fin ⟨none, _, 0, "", #[], none⟩ rfl fun e a _ => .inl rfl⟩
  | some x =>
    obtain ⟨m, hm, hk⟩ := onS_ok (o := mpOf P t) hk
    obtain ⟨v, hv, hk⟩ := ev_ok hk
    obtain ⟨i, n, rfl, hk1⟩ := onInt_ok (v := v) hk
    obtain ⟨kt, et, kd, h1, _⟩ := mpOf_ok hm
    exact ⟨_, _, hk1, fin ⟨none, _, 0, "", #[], none⟩ rfl fun e a rr => .inr ⟨i, n, kt, et, by simp [den_int (hv e a (rr _ (by simp [Op.operands])))], h1⟩⟩
theorem aSl_ok {t : TypeId} {l c : Operand} (hk : aSl t l c P tm nx k = true) : ∃ v b, k v b = true ∧ AS P (.makeSlice t l c) tm nx v b := by
  obtain ⟨s, hs, hk⟩ := onS_ok hk
  obtain ⟨lv, hl, hk⟩ := ev_ok hk
  obtain ⟨i, li, rfl, hk1⟩ := onInt_ok hk
  obtain ⟨ln, rfl, hk2⟩ := onNat_ok hk1
  obtain ⟨cv, hc, hk3⟩ := ev_ok hk2
  obtain ⟨j, ci, rfl, hk4⟩ := onInt_ok hk3
  obtain ⟨cn, rfl, hk5⟩ := onNat_ok hk4
  obtain ⟨hlc, hk6⟩ := gd_ok hk5
  obtain ⟨hc40, hk7⟩ := gd_ok hk6
  obtain ⟨hby, hk8⟩ := gd_ok hk7
  obtain ⟨h1, h2, h3, h4, h5, h6⟩ := siOf_ok hs
  refine ⟨_, _, hk8, fun e a w u hu r hn => ?_⟩
  obtain ⟨d, ty, p, af, g, rfl⟩ := exec_eq hu
  obtain ⟨z, hz, hsz, hrep⟩ := run_zeros (P := P) h4 h6 e cn
  have hlc : ln ≤ cn := by simpa using hlc
  have hc40 := blt_ok hc40
  have hby : cn * s.by_ ≤ 140737488355328 := by simpa using hby
  obtain ⟨inf, hinf, hib⟩ := info_by h3
  have hlv := den_int (hl e a (r _ (by simp [Op.operands])))
  have hcv := den_int (hc e a (r _ (by simp [Op.operands])))
  let cs : Array Value := (Array.range (cn * s.z)).map (fun i => z.cells[i % z.cells.size]!)
  have hcs : denL e (repL cn s.zero) = some cs.toList := by
    rw [hrep]; congr 1; simp [cs]
  refine ⟨⟨w.heap.size, 0⟩, .slice (some ⟨w.heap.size, 0, none⟩) ln cn, w.alloc (.cells cs s.e), ?_, rfl, New.alloc _ _, by simp [den, Env.upd_same], BR.row (denL_mono (Env.le_upd hn) _ _ hcs) rfl⟩
  refine run_v ?_
  show (Instr.makeSlice t (a.eval l) (a.eval c)).run P w = _
  rw [hlv, hcv]
  have w1 : IntKind.i64.wrap (ln : Int) = ln := by rw [IntKind.wrap_i64]; omega
  have w2 : IntKind.i64.wrap (cn : Int) = cn := by rw [IntKind.wrap_i64]; omega
  have hbc : ¬ ((s.by_ : Int) * (cn : Int) > 2 ^ 48) := by
    have : (s.by_ : Int) * cn = ((cn * s.by_ : Nat) : Int) := by push_cast; rw [Int.mul_comm]
    rw [this]; omega
  have hneg : ¬ ((cn : Int) < 0) := by omega
  have hneg' : ¬ ((ln : Int) < 0) := by omega
  have hlt : ¬ ((ln : Int) > cn) := by omega
  have hti : (typeInfo s.e).run P w = .ok inf w := by simp [typeInfo, hinf]
  simp only [Instr.makeSlice, Sem.run_bind, run_underlying h1, Result.andThen_ok, asInt, asIntOf, Sem.run_pure, hti, w1, w2, hib, hneg, hneg', hlt, hbc, decide_false, Bool.or_false, Bool.or_self, Bool.false_eq_true, if_false, run_askRoom, run_sz h2, Int.toNat_natCast, Sem.run_ite]
  by_cases h0 : cn * s.z = 0
  · have hcs0 : cs = #[] := by simp [cs, h0]
    simp [h0, hcs0, newRow, range0]
  · simp only [h0, if_false, hz, Result.andThen_ok]
    have : (Array.range (cn * s.z)).map (fun x => z.cells[x % z.cells.size]!) = cs := rfl
    rw [this]
    simp [newRow]
theorem byteV_den (e : Env) : ∀ l : List Nat, denL e (l.map byteV) = some (l.map fun b => Value.int .u8 (UInt8.ofNat b).toNat)
  | [] => denL_nil.2 rfl
  | b :: l => denL_cons.2 ⟨_, _, den_int' _ _ e, byteV_den e l, by simp⟩
theorem sbOf_ok {s d el : TypeId} (hs : aConv.sbOf P s d = some el) : P.underlying s = some .string ∧ P.underlying d = some (.slice el) ∧ P.underlying el = some (.int .u8) ∧ szOf P el = some 1 := by
  unfold aConv.sbOf at hs
  split at hs
  · rename_i e h1 h2
    split at hs
    · rename_i h3 h4; cases hs; exact ⟨h1, h2, h3, h4⟩
    · cases hs
  · cases hs
theorem aConv_ok {s d : TypeId} {x : Operand} (hk : aConv s d x P tm nx k = true) : ∃ v b, k v b = true ∧ AS P (.convert s d x) tm nx v b := by
  obtain ⟨el, he, hk⟩ := onS_ok hk
  obtain ⟨v, hv, hk⟩ := ev_ok hk
  obtain ⟨l, rfl, hk1⟩ := onStr_ok hk
  obtain ⟨hl, hk2⟩ := gd_ok hk1
  have hl := blt_ok hl
  obtain ⟨h1, h2, h3, h4⟩ := sbOf_ok he
  refine ⟨_, _, hk2, fun e a w u hu r hn => ?_⟩
  obtain ⟨dd, ty, p, af, g, rfl⟩ := exec_eq hu
  have hx := den_str (hv e a (r _ (by simp [Op.operands])))
  rw [lenL_eq] at hl
  -- the capacity
  let cap := (Question.appendCap (bts l).size 0 el).cut (w.tape w.drawn (.appendCap (bts l).size 0 el))
  have hcap : l.length ≤ cap := by
    simp only [cap, Question.cut, bts_size]; omega
  let cs : Array Value := (bts l).data.map (fun b => Value.int .u8 b.toNat) ++ Array.replicate (cap - (bts l).size) (.int .u8 0)
  have hcl : cs.toList = (l.map fun b => Value.int .u8 (UInt8.ofNat b).toNat) ++ List.replicate (cap - l.length) (.int .u8 0) := by
    simp only [cs, bts_size]
    simp [bts]
  have hsz : cs.size = cap := by
    have := congrArg List.length hcl
    simp at this
    omega
  let w1 := w.drew.alloc (.cells cs el)
  let w2 := w1.freeze ⟨w.heap.size, cs.size, none⟩ 1
  have hw2 : w2.heap[w.heap.size]? = some (.cells cs el (cs.size, cs.size + 1)) := by
    have hg : w1.heap[w.heap.size]? = some (.cells cs el) := heap_new w.drew _
    show (w1.freeze _ 1).heap[w.heap.size]? = _
    simp only [World.freeze, Nat.succ_ne_zero, if_false, Array.getElem?_modify, if_true, hg, Option.map_some, beq_self_eq_true]
  refine ⟨⟨w.heap.size, cap - l.length⟩, .slice (some ⟨w.heap.size, 0, none⟩) l.length cap, w2, ?_, rfl, ?_, ?_, ?_⟩
  · refine run_v ?_
    show (convert s d (a.eval x)).run P w = _
    rw [hx]
    have hforced : (Question.appendCap (bts l).size 0 el).forced = false := rfl
    simp only [convert, Sem.run_bind, run_underlying h1, run_underlying h2, run_underlying h3, Result.andThen_ok, Conv.stringToBytes, run_choose, hforced, Bool.false_eq_true, if_false]
    have hd : ({ w with drawn := w.drawn + 1 } : World) = w.drew := rfl
    have hsh : w1.shape? w.heap.size = some (el, cs.size) := by
      simp only [World.shape?]
      rw [show w1.heap[w.heap.size]? = some (.cells cs el) from heap_new w.drew _]
    rw [hd]
    simp only [newRow, Sem.run_bind, run_newObj, Result.andThen_ok, Sem.run_pure, markStringish, run_shape]
    have hw1 : ({ w.drew with heap := w.drew.heap.push (.cells cs el) } : World) = w1 := rfl
    have hcs : (bts l).data.map (fun b => Value.int .u8 b.toNat) ++ Array.replicate ((Question.appendCap (bts l).size 0 el).cut (w.tape w.drawn (.appendCap (bts l).size 0 el)) - (bts l).size) (.int .u8 0) = cs := rfl
    rw [hcs, hw1]
    have hb : w.drew.heap.size = w.heap.size := rfl
    rw [hb, hsh]
    simp only [run_freeze, Result.andThen_ok]
    show Result.ok (Value.slice _ (bts l).size cap) w2 = _
    rw [bts_size]
  · refine ⟨rfl, rfl, rfl, ?_, fun c hc => ?_⟩
    · show (w1.freeze _ 1).heap.size = _
      simp [World.freeze, w1]
    · show (w1.freeze _ 1).heap[c]? = _
      have hne : ¬ w.heap.size = c := by omega
      simp only [World.freeze, Nat.succ_ne_zero, if_false, Array.getElem?_modify, hne]
      exact Below.heap_alloc w.drew _ c hc
  · have hlen := lenL_eq l
    simp only [den, Env.upd_same, Option.map_some, if_true, hlen]
    congr 2
    omega
  · refine ⟨cs, (cs.size, cs.size + 1), _, hw2, fun o ho hh => by omega, byteV_den _ l, .inr ⟨Nat.one_pos, _, hcl, by simp⟩⟩
/-- ALL OPERATIONS THAT LAY ONE NEW BLOCK -/
theorem opA_ok {o : Op} (hk : opA o P tm nx k = true) : ∃ v b, k v b = true ∧ AS P o tm nx v b := by
  cases o <;> first | exact absurd hk Bool.false_ne_true | skip
  case alloc => exact aAlloc_ok hk
  case box => exact aBox_ok hk
  case buildSlice => exact aBs_ok hk
  case convert => exact aConv_ok hk
  case makeMap => exact aMap_ok hk
  case makeSlice => exact aSl_ok hk
end
end Go.Sx
