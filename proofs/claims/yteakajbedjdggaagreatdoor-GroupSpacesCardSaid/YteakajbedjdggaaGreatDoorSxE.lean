import Derived.Test.YteakajbedjdggaaGreatDoorSxD
import Derived.Laws.Tables
import Derived.Laws.BytesString
/-
  The other quiet operations of the symbolic executor, and all of them together ('opQ_ok').
-/
namespace Go.Sx
open Go Go.RowKit
section
variable {P : Program} {tm : T V} {h : H} {k : V → Bool}

/-! operators -/
theorem not_nif {e : Env} {x : V} (ht : tagOf x ≠ 12) {v : Value} (hv : den e x = some v) : v ≠ .nilIface := by
  cases x <;> simp only [den, Option.map_eq_some_iff, Option.bind_eq_some_iff, Option.some.injEq] at hv <;> first
    | (subst hv; exact Value.noConfusion)
    | (obtain ⟨_, _, rfl⟩ := hv; exact Value.noConfusion)
    | (obtain ⟨_, _, _, _, rfl⟩ := hv; exact Value.noConfusion)
    | exact absurd rfl ht
theorem guard_run {op : BinOp} {t : TypeId} {xo yo : Operand} {a b : Value} (hg : P.eqGuardType P.depth t = false) (hn : a ≠ .nilIface) (w : World) : (eqGuard op t xo yo a b).run P w = .ok () w := by
  unfold eqGuard
  cases op <;> (cases a <;> first | exact absurd rfl hn | (cases b <;> simp [hg]))
theorem guard_scalar {op : BinOp} {t : TypeId} {xo yo : Operand} {a b : Value} (hn : a ≠ .nilIface) (hm : ∀ c, a ≠ .agg c) (w : World) : (eqGuard op t xo yo a b).run P w = .ok () w := by
  unfold eqGuard
  cases op <;> (cases a <;> first | exact absurd rfl hn | exact absurd rfl (hm _) | (cases b <;> simp))
theorem binOp_eql {t : TypeId} {x : V} {e : Env} {vx vy : Value} (h1 : tagOf x ≠ 1) (h2 : tagOf x ≠ 2) (hv : den e x = some vx) {b : Bool} {w : World} (hq : (Op.equalIn Op.maxDepth t vx vy).run P w = .ok b w) :
    (binOp .eql t vx vy).run P w = .ok (.bool b) w ∧ (binOp .neq t vx vy).run P w = .ok (.bool !b) w := by
  cases x <;> simp only [den, Option.map_eq_some_iff, Option.bind_eq_some_iff, Option.some.injEq] at hv <;> first
    | (subst hv; simp [binOp, Op.equal, hq]; done)
    | (obtain ⟨_, _, rfl⟩ := hv; simp [binOp, Op.equal, hq]; done)
    | (obtain ⟨_, _, _, _, rfl⟩ := hv; simp [binOp, Op.equal, hq]; done)
    | exact absurd rfl h1
    | exact absurd rfl h2
theorem beqF {a b : Nat} (h : Nat.beq a b = false) : a ≠ b := Nat.ne_of_beq_eq_false h
theorem eqTK_ok {t : TypeId} {x y : V} {k : Bool → Bool} (h : eqTK P t x y k = true) : ∃ b, k b = true ∧ EqS P 9 t x y b ∧ P.eqGuardType P.depth t = false := by
  obtain ⟨d, hd, h⟩ := onS_ok h
  unfold eqOf at hd
  split at hd
  · cases hd
  rename_i hg
  obtain ⟨b, hb, hs⟩ := edOf_ok 9 d t x y _ hd h
  exact ⟨b, hb, hs, by simpa using hg⟩
theorem nine : 9 ≤ Op.maxDepth := by decide
theorem qBin_ok {op : BinOp} {t : TypeId} {x y : Operand} (hk : qBin op t x y P tm h k = true) (yt : TypeId) : ∃ v, k v = true ∧ QS P (.binOp op t x y yt) tm h v := by
  obtain ⟨a, ha, hk⟩ := ev_ok hk
  obtain ⟨b, hb, hk⟩ := ev_ok hk
  rcases br_cases hk with ⟨_, hk⟩ | ⟨h1, hk⟩
  · obtain ⟨i, m, rfl, hk1⟩ := onInt_ok hk
    obtain ⟨j, n, rfl, hk2⟩ := onInt_ok hk1
    obtain ⟨v, hv, z, hz, hrun⟩ := intK_ok (P := P) t hk2
    refine ⟨v, hv, fun n0 e ac w u hu r _ => ⟨z, hz e, ?_⟩⟩
    obtain ⟨d, ty, p, af, gg, rfl⟩ := exec_eq hu
    have h2 := den_int (ha e ac (r _ (by simp [Op.operands])))
    have h3 := den_int (hb e ac (r _ (by simp [Op.operands])))
    simp only [execOp, h2, h3, Sem.run_bind, guard_scalar (P := P) (a := .int i m) (b := .int j n) (fun h => (by cases h)) (fun _ h => (by cases h)), Result.andThen_ok, hrun, Sem.run_pure]
  rcases br_cases hk with ⟨_, hk⟩ | ⟨h2, hk⟩
  · obtain ⟨m, rfl, hk1⟩ := onStr_ok hk
    obtain ⟨n, rfl, hk2⟩ := onStr_ok hk1
    obtain ⟨v, hv, z, hz, hrun⟩ := strK_ok (P := P) t hk2
    refine ⟨v, hv, fun n0 e ac w u hu r _ => ⟨z, hz e, ?_⟩⟩
    obtain ⟨d, ty, p, af, gg, rfl⟩ := exec_eq hu
    have h2 := den_str (ha e ac (r _ (by simp [Op.operands])))
    have h3 := den_str (hb e ac (r _ (by simp [Op.operands])))
    simp only [execOp, h2, h3, Sem.run_bind, guard_scalar (P := P) (a := .string (bts m)) (b := .string (bts n)) (fun h => (by cases h)) (fun _ h => (by cases h)), Result.andThen_ok, hrun, Sem.run_pure]
  have h1 := beqF h1
  have h2 := beqF h2
  cases op <;> first | exact absurd hk Bool.false_ne_true | skip
  all_goals
    rcases br_cases hk with ⟨_, hk⟩ | ⟨h3, hk⟩
    · exact absurd hk Bool.false_ne_true
    have h3 := beqF h3
    obtain ⟨r, hk, hs, hg⟩ := eqTK_ok hk
    refine ⟨_, hk, fun n0 e ac w u hu rr _ => ⟨_, den_bool' _ e, ?_⟩⟩
    obtain ⟨d, ty, p, af, gg, rfl⟩ := exec_eq hu
    have hva := ha e ac (rr _ (by simp [Op.operands]))
    have hvb := hb e ac (rr _ (by simp [Op.operands]))
    have hq := hs e _ _ hva hvb Op.maxDepth nine w
    have hbin := binOp_eql h1 h2 hva hq
    have hgr := fun op => guard_run (P := P) (op := op) (t := t) (xo := x) (yo := y) (b := ac.eval y) hg (not_nif h3 hva) w
    simp only [execOp, Sem.run_bind, hgr, Result.andThen_ok, hbin, Sem.run_pure]
theorem qUn_ok {op : UnOp} {x : Operand} (hk : qUn op x P tm h k = true) (t : TypeId) : ∃ v, k v = true ∧ QS P (.unOp op t x) tm h v := by
  obtain ⟨a, ha, hk⟩ := ev_ok hk
  cases op
  case neg =>
    obtain ⟨i, m, rfl, hk⟩ := onInt_ok (v := a) hk
    refine ⟨_, wrapK_ok hk, fun n0 e ac w u hu r _ => ⟨_, den_int' _ _ e, ?_⟩⟩
    obtain ⟨d, ty, p, af, gg, rfl⟩ := exec_eq hu
    have h2 := den_int (ha e ac (r _ (by simp [Op.operands])))
    simp only [execOp, h2, Op.unary, Op.intArith, Sem.run_bind, Sem.run_pure, Result.andThen_ok]
    rfl
  case xor =>
    obtain ⟨i, m, rfl, hk⟩ := onInt_ok (v := a) hk
    refine ⟨_, hk, fun n0 e ac w u hu r _ => ⟨_, den_int' _ _ e, ?_⟩⟩
    obtain ⟨d, ty, p, af, gg, rfl⟩ := exec_eq hu
    have h2 := den_int (ha e ac (r _ (by simp [Op.operands])))
    simp only [execOp, h2, Op.unary, Op.intBits, Sem.run_bind, Sem.run_pure, Result.andThen_ok]
  case not =>
    obtain ⟨b, rfl, hk⟩ := onBool_ok (v := a) hk
    refine ⟨_, hk, fun n0 e ac w u hu r _ => ⟨_, den_bool' _ e, ?_⟩⟩
    obtain ⟨d, ty, p, af, gg, rfl⟩ := exec_eq hu
    have h2 := den_bool (ha e ac (r _ (by simp [Op.operands])))
    simp only [execOp, h2, Op.unary, Sem.run_bind, Sem.run_pure, Result.andThen_ok]
  case plus => exact absurd hk Bool.false_ne_true

/-! conversions -/
theorem cvOf_ok {s d : TypeId} {c : CV} (hc : cvOf P s d = some c) :
    (∃ i j, c = .int j ∧ P.underlying s = some (.int i) ∧ P.underlying d = some (.int j)) ∨ (c = .same ∧ P.underlying s = some .string ∧ P.underlying d = some .string) ∨
    (∃ e, c = .bytes ∧ P.underlying s = some (.slice e) ∧ P.underlying d = some .string ∧ P.underlying e = some (.int .u8)) := by
  unfold cvOf at hc
  split at hc
  · rename_i i j h1 h2; cases hc; exact .inl ⟨i, j, rfl, h1, h2⟩
  · rename_i h1 h2; cases hc; exact .inr (.inl ⟨rfl, h1, h2⟩)
  · rename_i e h1 h2
    split at hc
    · rename_i h3; cases hc; exact .inr (.inr ⟨e, rfl, h1, h2, h3⟩)
    · cases hc
  · cases hc
theorem bytesK_ok : ∀ {l : List V} {k : List Nat → Bool}, bytesK l k = true → ∃ ns : List Int, l = ns.map (V.int .u8) ∧ k (ns.map Int.toNat) = true
  | [], _, h => ⟨[], rfl, h⟩
  | v :: l, k, h => by
    obtain ⟨i, n, rfl, h1⟩ := onInt_ok (v := v) h
    obtain ⟨hi, h2⟩ := onKind_ok h1
    obtain ⟨ns, rfl, h3⟩ := bytesK_ok (l := l) h2
    exact ⟨n :: ns, by rw [hi]; rfl, h3⟩
theorem denL_ints (e : Env) (i : IntKind) : ∀ ns : List Int, denL e (ns.map (V.int i)) = some (ns.map (Value.int i))
  | [] => by simp [denL]
  | n :: ns => denL_cons.2 ⟨_, _, den_int' i n e, denL_ints e i ns, rfl⟩
theorem foldl_push : ∀ (ns : List Int) (s : List Nat), ns.foldl (fun r n => r.push (UInt8.ofNat n.toNat)) (bts s) = bts (s ++ ns.map Int.toNat)
  | [], s => by simp
  | n :: ns, s => by
    have : (bts s).push (UInt8.ofNat n.toNat) = bts (s ++ [n.toNat]) := by
      unfold bts
      ext1
      simp [ByteArray.push]
    rw [List.foldl_cons, this, foldl_push ns]
    simp
theorem run_cells {n0 : Nat} {e : Env} {w : World} (r : Rd n0 e h w) {b : I} {c : List V} {t : TypeId} {z : Nat} (hb : h.get b = some (.cells c t z)) {q : Loc} (hq : e b = some q) {o n : Nat}
    (hl : o + n ≤ c.length) : ∃ xs, denL e ((c.drop o).take n) = some xs ∧ xs.length = n ∧ (loadCells ⟨q.blk, o, none⟩ n).run P w = .ok xs.toArray w := by
  obtain ⟨xs, hx, hra, _⟩ := rd_range r hb hq hl
  have hn := denL_cut_len hx hl
  refine ⟨xs, hx, hn, ?_⟩
  rw [← hn]
  exact run_loadCells_list w _ xs fun j v hv => by rw [Addr.add_mid]; exact hra j v hv
theorem onSlN_ok {v : V} {f : I → Nat → Nat → Nat → Bool → Bool} {g : Bool} (h : onSlN v f g = true) : (∃ b o n c p, v = .slice b o n c p ∧ f b o n c p = true) ∨ (v = .nslice ∧ g = true) := by
  cases v <;> first | exact absurd h Bool.false_ne_true | exact .inl ⟨_, _, _, _, _, rfl, h⟩ | exact .inr ⟨rfl, h⟩
theorem qConv_ok {s d : TypeId} {x : Operand} (hk : qConv s d x P tm h k = true) : ∃ v, k v = true ∧ QS P (.convert s d x) tm h v := by
  obtain ⟨c, hc, hk⟩ := onS_ok hk
  obtain ⟨a, ha, hk⟩ := ev_ok hk
  rcases cvOf_ok hc with ⟨i, j, rfl, h1, h2⟩ | ⟨rfl, h1, h2⟩ | ⟨el, rfl, h1, h2, h3⟩
  · obtain ⟨l, m, rfl, hk⟩ := onInt_ok (v := a) hk
    refine ⟨_, wrapK_ok hk, fun n0 e ac w u hu r _ => ⟨_, den_int' _ _ e, ?_⟩⟩
    obtain ⟨dd, ty, p, af, gg, rfl⟩ := exec_eq hu
    have hv := den_int (ha e ac (r _ (by simp [Op.operands])))
    simp [execOp, hv, convert, run_underlying h1, run_underlying h2, Conv.intToInt]
  · obtain ⟨l, rfl, hk⟩ := onStr_ok (v := a) hk
    refine ⟨_, hk, fun n0 e ac w u hu r _ => ⟨_, ha e ac (r _ (by simp [Op.operands])), ?_⟩⟩
    obtain ⟨dd, ty, p, af, gg, rfl⟩ := exec_eq hu
    have hv := den_str (ha e ac (r _ (by simp [Op.operands])))
    simp [execOp, hv, convert, run_underlying h1, run_underlying h2]
  · rcases onSlN_ok (v := a) hk with ⟨b, o, n, c, p, rfl, hk⟩ | ⟨rfl, hk⟩
    · obtain ⟨cs, t, z, hb, hk⟩ := onCells_ok hk
      obtain ⟨hl, hk⟩ := cutK_ok hk
      obtain ⟨ns, hns, hk⟩ := bytesK_ok hk
      refine ⟨_, hk, fun n0 e ac w u hu r rd => ⟨.string (bts (ns.map Int.toNat)), by simp [den], ?_⟩⟩
      obtain ⟨dd, ty, p', af, gg, rfl⟩ := exec_eq hu
      obtain ⟨q, hq, hv⟩ := den_slice (ha e ac (r _ (by simp [Op.operands])))
      obtain ⟨xs, hxs, hlen, hrun⟩ := run_cells (P := P) rd hb hq hl
      rw [hns, denL_ints] at hxs
      cases hxs
      have hb2 := run_bytesToString (P := P) w ⟨q.blk, o, none⟩ n (if p then c + q.ext else c) ns hrun
      have h0 : (ByteArray.empty) = bts [] := rfl
      rw [h0, foldl_push, List.nil_append] at hb2
      refine run_v ?_
      show (convert s d (ac.eval x)).run P w = _
      rw [hv, run_convert_bytes_string w s d el _ _ _ h1 h3 h2]
      exact hb2
    · refine ⟨_, hk, fun n0 e ac w u hu r rd => ⟨.string (bts []), by simp [den], ?_⟩⟩
      obtain ⟨dd, ty, p', af, gg, rfl⟩ := exec_eq hu
      have hv : ac.eval x = .slice none 0 0 := by
        have := ha e ac (r _ (by simp [Op.operands]))
        simpa [den, eq_comm] using this
      refine run_v ?_
      show (convert s d (ac.eval x)).run P w = _
      rw [hv, run_convert_bytes_string w s d el _ _ _ h1 h3 h2]
      rfl

/-! slices -/
theorem bndK_ok {o : Option V} {d y : Nat} {kk : Nat → Bool} (h : bndK o d y kk = true) : ∃ i, kk i = true ∧ ((o = none ∧ i = d) ∨ (∃ k, o = some (.int k i) ∧ i ≤ y)) := by
  cases o with
  | none => exact ⟨d, h, .inl ⟨rfl, rfl⟩⟩
  | some v =>
    obtain ⟨k, n, rfl, h⟩ := onInt_ok (v := v) h
    obtain ⟨m, rfl, h⟩ := onNat_ok h
    obtain ⟨hle, h⟩ := gd_ok h
    exact ⟨m, h, .inr ⟨k, rfl, by simpa using hle⟩⟩
def BdV (o : Option Value) (d y i : Nat) : Prop := (o = none ∧ i = d) ∨ (∃ k, o = some (.int k i) ∧ i ≤ y)
theorem bdV {lo : Option Operand} {l : Option V} (hl : EvOS lo tm l) {d y i : Nat} (hb : (l = none ∧ i = d) ∨ (∃ k, l = some (.int k i) ∧ i ≤ y)) {e : Env} {a : Act} (r : ∀ x, lo = some x → OpR e tm a.tmps x) : BdV (lo.map a.eval) d y i := by
  cases lo with
  | none =>
    cases l with
    | none => rcases hb with ⟨_, h⟩ | ⟨k, h, _⟩
              · exact .inl ⟨rfl, h⟩
              · cases h
    | some v => exact hl.elim
  | some x =>
    cases l with
    | none => exact hl.elim
    | some v => rcases hb with ⟨h, _⟩ | ⟨k, h, hi⟩
                · cases h
                · cases h
                  have := hl e a (r x rfl)
                  have hx := den_int this
                  exact .inr ⟨k, by simp [hx], hi⟩
theorem run_bounds {isS : Bool} {len cap l hh : Nat} {lo hi : Option Value} (h1 : BdV hi len cap hh) (h2 : BdV lo 0 hh l) (w : World) : (Instr.sliceBounds isS len cap lo hi none).run P w = .ok (l, hh, cap) w := by
  rcases h1 with ⟨rfl, rfl⟩ | ⟨k, rfl, h1⟩ <;> rcases h2 with ⟨rfl, rfl⟩ | ⟨k', rfl, h2⟩ <;> simp [Instr.sliceBounds, Instr.sliceBound, asIntOf, *]
theorem bts_extract (s : List Nat) (l hh : Nat) : (bts s).extract l hh = bts ((s.drop l).take (hh - l)) := by
  unfold bts
  ext1
  simp [ByteArray.data_extract, List.extract_eq_take_drop, List.map_take, List.map_drop]
theorem qSlice_ok {t : TypeId} {x : Operand} {lo hi mx : Option Operand} (hk : qSlice t x lo hi mx P tm h k = true) : ∃ v, k v = true ∧ QS P (.slice t x lo hi mx) tm h v := by
  cases mx with
  | some m => exact absurd hk Bool.false_ne_true
  | none =>
  obtain ⟨s, hs, hk⟩ := onS_ok (o := skOf P t) hk
  obtain ⟨a, ha, hk⟩ := ev_ok hk
  obtain ⟨l, hl, hk⟩ := evO_ok hk
  obtain ⟨hv, hh, hk⟩ := evO_ok hk
  rcases skOf_ok hs with ⟨rfl, hut⟩ | ⟨el, z, rfl, hut, hz⟩ | ⟨nn, el, z, rfl, hut, hz⟩
  · obtain ⟨s, rfl, hk⟩ := onStr_ok (v := a) hk
    obtain ⟨hi', hk, hb1⟩ := bndK_ok hk
    obtain ⟨lo', hk, hb2⟩ := bndK_ok hk
    refine ⟨_, hk, fun n0 e ac w u hu r _ => ⟨_, by simp [den]; rfl, ?_⟩⟩
    obtain ⟨dd, ty, p, af, gg, rfl⟩ := exec_eq hu
    have hx := den_str (ha e ac (r _ (by simp [Op.operands])))
    rw [lenL_eq] at hb1
    have h1 := bdV hh hb1 (fun y hy => r y (by simp [Op.operands, hy]))
    have h2 := bdV hl hb2 (fun y hy => r y (by simp [Op.operands, hy]))
    rw [← bts_size s] at h1
    simp [execOp, hx, Instr.sliceAt, Instr.slice, run_underlying hut, run_bounds h1 h2, bts_extract]
  · rcases onSlN_ok (v := a) hk with ⟨b, o, n, c, p, rfl, hk⟩ | ⟨rfl, hk⟩
    · obtain ⟨hi', hk, hb1⟩ := bndK_ok hk
      obtain ⟨lo', hk, hb2⟩ := bndK_ok hk
      have key : ∀ (v : V), (∀ e q, e b = some q → den e v = some (.slice (some (if (if p then c + q.ext else c) = lo' then ⟨q.blk, o, none⟩ else ⟨q.blk, o + lo' * z, none⟩)) (hi' - lo') ((if p then c + q.ext else c) - lo'))) → QS P (.slice t x lo hi none) tm h v := by
        intro v hd n0 e ac w u hu r _
        obtain ⟨dd, ty, p', af, gg, rfl⟩ := exec_eq hu
        obtain ⟨q, hq, hx⟩ := den_slice (ha e ac (r _ (by simp [Op.operands])))
        refine ⟨_, hd e q hq, ?_⟩
        have h1 : BdV (hi.map ac.eval) n (if p then c + q.ext else c) hi' := by
          rcases bdV hh hb1 (fun y hy => r y (by simp [Op.operands, hy])) with h | ⟨k, h, hle⟩
          · exact .inl h
          · exact .inr ⟨k, h, by split <;> omega⟩
        have h2 := bdV hl hb2 (fun y hy => r y (by simp [Op.operands, hy]))
        simp only [execOp, hx, Instr.sliceAt, Instr.slice, Sem.run_bind, run_underlying hut, Result.andThen_ok, Option.map_none, run_bounds h1 h2, run_sz hz, Sem.run_pure, Option.map_some, Addr.add_mid]
        congr 3
        cases p <;> simp only [Bool.false_eq_true, if_true, if_false] <;> split <;> rfl
      rcases br_cases hk with ⟨h0, hk⟩ | ⟨h0, hk⟩
      · have h0 := beqN h0
        subst h0
        refine ⟨_, hk, key _ fun e q hq => ?_⟩
        simp only [den, hq, Option.map_some, Nat.sub_zero, Nat.zero_mul, Nat.add_zero, ite_self]
      · rcases br_cases hk with ⟨h1, hk⟩ | ⟨h1, hk⟩
        · have h1 := beqN h1
          obtain ⟨hle, hk⟩ := gd_ok hk
          have hle := beqN hle
          rcases br_cases hk with ⟨rfl, hk1⟩ | ⟨rfl, hk1⟩
          · refine ⟨_, hk1, key _ fun e q hq => ?_⟩
            have hx : (c + q.ext = lo') ↔ q.ext = 0 := by omega
            have hy : c + q.ext - lo' = q.ext := by omega
            simp only [den, hq, Option.map_some, if_true, hle, hx, hy]
            split <;> rfl
          · refine ⟨_, hk1, key _ fun e q hq => ?_⟩
            have hy : c - lo' = 0 := by omega
            subst h1
            simp [den, hq, hle]
        · have h1 := beqF h1
          obtain ⟨hlt, hk⟩ := gd_ok hk
          have hlt := blt_ok hlt
          refine ⟨_, hk, key _ fun e q hq => ?_⟩
          cases p
          · have hc : ¬ c = lo' := by omega
            simp [den, hq, hc]
          · have hc : ¬ c + q.ext = lo' := by omega
            have hd : c - lo' + q.ext = c + q.ext - lo' := by omega
            simp [den, hq, hc, hd]
    · obtain ⟨hi', hk, hb1⟩ := bndK_ok hk
      obtain ⟨lo', hk, hb2⟩ := bndK_ok hk
      refine ⟨_, hk, fun n0 e ac w u hu r _ => ⟨.slice none 0 0, by simp [den], ?_⟩⟩
      obtain ⟨dd, ty, p', af, gg, rfl⟩ := exec_eq hu
      have hx : ac.eval x = .slice none 0 0 := by
        have := ha e ac (r _ (by simp [Op.operands]))
        simpa [den, eq_comm] using this
      have h1 := bdV hh hb1 (fun y hy => r y (by simp [Op.operands, hy]))
      have h2 := bdV hl hb2 (fun y hy => r y (by simp [Op.operands, hy]))
      have e1 : hi' = 0 := by
        rcases hb1 with ⟨_, h⟩ | ⟨_, _, h⟩ <;> omega
      have e2 : lo' = 0 := by
        rcases hb2 with ⟨_, h⟩ | ⟨_, _, h⟩ <;> omega
      subst e1
      subst e2
      simp [execOp, hx, Instr.sliceAt, Instr.slice, run_underlying hut, run_bounds h1 h2, run_sz hz]
  · obtain ⟨b, o, rfl, hk⟩ := onPtr_ok (v := a) hk
    obtain ⟨hi', hk, hb1⟩ := bndK_ok hk
    obtain ⟨lo', hk, hb2⟩ := bndK_ok hk
    refine ⟨_, hk, fun n0 e ac w u hu r _ => ?_⟩
    obtain ⟨dd, ty, p', af, gg, rfl⟩ := exec_eq hu
    obtain ⟨q, hq, hx⟩ := den_ptr (ha e ac (r _ (by simp [Op.operands])))
    have h1 := bdV hh hb1 (fun y hy => r y (by simp [Op.operands, hy]))
    have h2 := bdV hl hb2 (fun y hy => r y (by simp [Op.operands, hy]))
    refine ⟨.slice (some (if nn = lo' then ⟨q.blk, o, none⟩ else ⟨q.blk, o + lo' * z, none⟩)) (hi' - lo') (nn - lo'), ?_, ?_⟩
    · simp only [den, hq, Option.map_some, Bool.false_eq_true, if_false]
      by_cases hc : nn = lo'
      · have : Nat.beq lo' nn = true := by simp [hc]
        simp [hc, slArr.br']
      · have : Nat.beq lo' nn = false := by
          rw [Bool.eq_false_iff]; intro h; exact hc (beqN h).symm
        simp [hc, this, slArr.br']
    · simp only [execOp, hx, Instr.sliceAt, Sem.run_bind, run_underlying hut, Result.andThen_ok, Instr.sureAddr, Option.map_none, run_bounds h1 h2, run_sz hz, Sem.run_pure, Addr.add_mid]

/-! maps -/
theorem mpOf_ok {t : TypeId} {m : SC × V} (hm : mpOf P t = some m) : ∃ kt et kd, P.underlying t = some (.map kt et) ∧ P.underlying kt = some kd ∧ zeroV P et = some m.2 ∧ scOf kd = some m.1 ∧
    ((m.1 = .int ∧ ∃ i, kd = .int i) ∨ (m.1 = .str ∧ kd = .string) ∨ (m.1 = .bool ∧ kd = .bool)) := by
  unfold mpOf at hm
  split at hm
  · rename_i kt et h1
    split at hm
    · rename_i i z h2 h3; cases hm; exact ⟨kt, et, _, h1, h2, h3, rfl, .inl ⟨rfl, i, rfl⟩⟩
    · rename_i z h2 h3; cases hm; exact ⟨kt, et, _, h1, h2, h3, rfl, .inr (.inl ⟨rfl, rfl⟩)⟩
    · rename_i z h2 h3; cases hm; exact ⟨kt, et, _, h1, h2, h3, rfl, .inr (.inr ⟨rfl, rfl⟩)⟩
    · cases hm
  · cases hm
theorem run_zero {t : TypeId} {v : V} (hz : zeroV P t = some v) (e : Env) : ∃ z, den e v = some z ∧ (P.info? t).bind (·.zero) = some z ∧ ∀ w, (zeroValue t).run P w = .ok z w := by
  unfold zeroV at hz
  rw [Option.bind_eq_some_iff] at hz
  obtain ⟨z, hz, hv⟩ := hz
  refine ⟨z, ofV_ok hv e, hz, fun w => ?_⟩
  rw [Option.bind_eq_some_iff] at hz
  obtain ⟨i, hi, hz⟩ := hz
  simp [zeroValue, typeInfo, hi, hz]
/-- the key fits the map's type -/
def KeyS (kd : TypeDesc) (j : V) : Prop := (∃ i k n, kd = .int i ∧ j = .int k n) ∨ (∃ s, kd = .string ∧ j = .str s) ∨ ∃ b, kd = .bool ∧ j = .bool b
theorem tag_int {x : V} (h : tagOf x = 1) : ∃ k n, x = .int k n := by
  cases x <;> first | exact (Nat.ne_of_beq_eq_false rfl h).elim | skip
  exact ⟨_, _, rfl⟩
theorem tag_str {x : V} (h : tagOf x = 2) : ∃ l, x = .str l := by
  cases x <;> first | exact (Nat.ne_of_beq_eq_false rfl h).elim | skip
  exact ⟨_, rfl⟩
theorem tag_bool {x : V} (h : tagOf x = 0) : ∃ b, x = .bool b := by
  cases x <;> first | exact (Nat.ne_of_beq_eq_false rfl h).elim | skip
  exact ⟨_, rfl⟩
theorem keyT_ok {s : SC} {kd : TypeDesc} {j : V} (h : keyT s j = true) (hs : (s = .int ∧ ∃ i, kd = .int i) ∨ (s = .str ∧ kd = .string) ∨ (s = .bool ∧ kd = .bool)) : KeyS kd j := by
  rcases hs with ⟨rfl, i, rfl⟩ | ⟨rfl, rfl⟩ | ⟨rfl, rfl⟩
  · obtain ⟨k, n, rfl⟩ := tag_int (beqN h); exact .inl ⟨i, k, n, rfl, rfl⟩
  · obtain ⟨l, rfl⟩ := tag_str (beqN h); exact .inr (.inl ⟨l, rfl, rfl⟩)
  · obtain ⟨b, rfl⟩ := tag_bool (beqN h); exact .inr (.inr ⟨b, rfl, rfl⟩)
theorem run_checkKey {kt : TypeId} {kd : TypeDesc} (hk : P.underlying kt = some kd) {j : V} (hs : KeyS kd j) {e : Env} {x : Value} (hx : den e j = some x) (em : Bool) (n : Nat) (w : World) :
    (Instr.checkKey em (n + 1) kt x).run P w = .ok () w := by
  unfold Instr.checkKey
  rw [Sem.run_bind, run_underlying hk]
  rcases hs with ⟨i, k, n, rfl, rfl⟩ | ⟨s, rfl, rfl⟩ | ⟨b, rfl, rfl⟩
  · rw [den_int hx]; rfl
  · rw [den_str hx]; rfl
  · rw [den_bool hx]; rfl
theorem sameNow_ok {s : SC} {kd : TypeDesc} (hs : (s = .int ∧ ∃ i, kd = .int i) ∨ (s = .str ∧ kd = .string) ∨ (s = .bool ∧ kd = .bool)) {x y : V} {k : Bool → Bool} (h : scEq s x y k = true) :
    ∃ b, k b = true ∧ ∀ e vx vy, den e x = some vx → den e y = some vy → Instr.sameNow kd vx vy = some b := by
  rcases hs with ⟨rfl, i, rfl⟩ | ⟨rfl, rfl⟩ | ⟨rfl, rfl⟩
  · obtain ⟨i, a, rfl, h1⟩ := onInt_ok (v := x) h
    obtain ⟨j, b, rfl, h2⟩ := onInt_ok (v := y) h1
    obtain ⟨hij, h3⟩ := onKind_ok h2
    refine ⟨_, h3, fun e vx vy hx hy => ?_⟩
    rw [den_int hx, den_int hy]
    simp [Instr.sameNow, hij, eqI_eq]
  · obtain ⟨a, rfl, h1⟩ := onStr_ok (v := x) h
    obtain ⟨b, rfl, h2⟩ := onStr_ok (v := y) h1
    refine ⟨_, h2, fun e vx vy hx hy => ?_⟩
    rw [den_str hx, den_str hy]
    simp [Instr.sameNow, bts_beq]
  · obtain ⟨a, rfl, h1⟩ := onBool_ok (v := x) h
    obtain ⟨b, rfl, h2⟩ := onBool_ok (v := y) h1
    refine ⟨_, h2, fun e vx vy hx hy => ?_⟩
    rw [den_bool hx, den_bool hy]
    simp [Instr.sameNow]
theorem findK_ok {s : SC} {kd : TypeDesc} (hs : (s = .int ∧ ∃ i, kd = .int i) ∨ (s = .str ∧ kd = .string) ∨ (s = .bool ∧ kd = .bool)) {v : V} {no : Bool} :
    ∀ {es : List (V × V × Nat)} {k : V → Bool}, findK es s v no k = true → (∃ w, k w = true ∧ ∀ e os x i, ER e es os → den e v = some x → ∃ j y, Instr.findNow kd x os i = some (some (j, y)) ∧ den e w = some y) ∨
      (no = true ∧ ∀ e os x i, ER e es os → den e v = some x → Instr.findNow kd x os i = some none)
  | [], _, h => .inr ⟨h, fun e os x i hr _ => by
      cases os with
      | nil => rfl
      | cons => exact hr.elim⟩
  | a :: es, k, h => by
    obtain ⟨b, hb, hq⟩ := sameNow_ok hs h
    rcases br_cases hb with ⟨rfl, hb⟩ | ⟨rfl, hb⟩
    · refine .inl ⟨a.2.1, hb, fun e os x i hr hx => ?_⟩
      cases os with
      | nil => exact hr.elim
      | cons o os =>
        obtain ⟨h1, h2, _, _⟩ := hr
        exact ⟨i, o.val, by simp [Instr.findNow, hq e x o.key hx h1], h2⟩
    · rcases findK_ok hs hb with ⟨w, hw, hf⟩ | ⟨hn, hf⟩
      · refine .inl ⟨w, hw, fun e os x i hr hx => ?_⟩
        cases os with
        | nil => exact hr.elim
        | cons o os =>
          obtain ⟨h1, h2, _, h4⟩ := hr
          obtain ⟨j, y, hj, hy⟩ := hf e os x (i + 1) h4 hx
          exact ⟨j, y, by simp [Instr.findNow, hq e x o.key hx h1, hj], hy⟩
      · refine .inr ⟨hn, fun e os x i hr hx => ?_⟩
        cases os with
        | nil => exact hr.elim
        | cons o os =>
          obtain ⟨h1, h2, _, h4⟩ := hr
          simp [Instr.findNow, hq e x o.key hx h1, hf e os x (i + 1) h4 hx]
theorem onMN_ok {v : V} {f : I → Bool} {g : Bool} (h : onMN v f g = true) : (∃ r, v = .map r ∧ f r = true) ∨ (v = .nmap ∧ g = true) := by
  cases v <;> first | exact absurd h Bool.false_ne_true | exact .inl ⟨_, rfl, h⟩ | exact .inr ⟨rfl, h⟩
theorem rd_map {n0 : Nat} {e : Env} {w : World} (rd : Rd n0 e h w) {r : I} {es : List (V × V × Nat)} {ck : Nat} (hr : h.get r = some (.map es ck)) {q : Loc} (hq : e r = some q) :
    ∃ os, w.heap[q.blk]? = some (.map os ck) ∧ ER e es os.toList := by
  obtain ⟨q', hq', _, hb⟩ := rd r _ hr
  rw [hq] at hq'; cases hq'
  exact hb
theorem run_getObj {w : World} {r : Nat} {o : Obj} (h : w.heap[r]? = some o) (hc : ∀ a b c, o ≠ .cells a b c) : (getObj r).run P w = .ok o w := by
  unfold getObj
  simp only [Sem.run, h]
theorem okK_ok {ok : Bool} {v : V} {b : Bool} {k : V → Bool} (h : okK ok v b k = true) : ∃ r, k r = true ∧ ∀ e x, den e v = some x → den e r = some (if ok then .tuple #[x, .bool b] else x) := by
  cases ok
  · exact ⟨v, h, fun e x hx => by simpa using hx⟩
  · exact ⟨_, h, fun e x hx => by simp [den, denL, hx]⟩
theorem qLook_ok {t : TypeId} {x i : Operand} {ok : Bool} (hk : qLook t x i ok P tm h k = true) : ∃ v, k v = true ∧ QS P (.lookup t x i ok) tm h v := by
  obtain ⟨m, hm, hk⟩ := onS_ok hk
  obtain ⟨a, ha, hk⟩ := ev_ok hk
  obtain ⟨j, hj, hk⟩ := ev_ok hk
  obtain ⟨kt, et, kd, h1, h2, h3, h4, h5⟩ := mpOf_ok hm
  obtain ⟨hkt, hk⟩ := gd_ok hk
  have hks := keyT_ok hkt h5
  -- what is asked of memory
  have key : ∀ (v : V) (b : Bool) (y : V), (∀ e x, den e y = some x → den e v = some (if ok then .tuple #[x, .bool b] else x)) →
      (∀ n0 e (ac : Act) w, TmO (.lookup t x i ok) e tm ac.tmps → Rd n0 e h w → ∃ es : Array MapEntry, ∃ yv, den e y = some yv ∧
        ((ac.eval x = .map none ∧ es = #[]) ∨ (∃ r ck, ac.eval x = .map (some r) ∧ w.heap[r]? = some (.map es ck))) ∧
        ((b = true ∧ ∃ n, Instr.findNow kd (ac.eval i) es.toList 0 = some (some (n, yv))) ∨ (b = false ∧ Instr.findNow kd (ac.eval i) es.toList 0 = some none ∧ ∀ w, (zeroValue et).run P w = .ok yv w))) → QS P (.lookup t x i ok) tm h v := by
    intro v b y hv hm n0 e ac w u hu r rd
    obtain ⟨dd, ty, p, af, gg, rfl⟩ := exec_eq hu
    obtain ⟨es, yv, hy, hx, hf⟩ := hm n0 e ac w r rd
    refine ⟨_, hv e yv hy, ?_⟩
    have hkey := run_checkKey (P := P) h2 hks (hj e ac (r _ (by simp [Op.operands]))) es.isEmpty 9999 w
    refine run_v ?_
    show (Instr.lookup t (ac.eval x) (ac.eval i) ok).run P w = _
    unfold Instr.lookup
    rw [Sem.run_bind, run_underlying h1]
    simp only [Result.andThen_ok]
    rcases hx with ⟨hx, rfl⟩ | ⟨r, ck, hx, hw⟩
    · rw [hx]
      simp only [Sem.run_bind, Sem.run_pure, Result.andThen_ok, hkey, Instr.findKey, run_underlying h2]
      rcases hf with ⟨rfl, n, hf⟩ | ⟨rfl, hf, hz⟩
      · simp only [hf, Sem.run_bind, Sem.run_pure, Result.andThen_ok]
      · simp only [hf, Sem.run_pure, Result.andThen_ok, Sem.run_bind, hz]
    · rw [hx]
      simp only [Sem.run_bind, run_getObj (P := P) hw (fun _ _ _ h => (by cases h)), Sem.run_pure, Result.andThen_ok, hkey, Instr.findKey, run_underlying h2]
      rcases hf with ⟨rfl, n, hf⟩ | ⟨rfl, hf, hz⟩
      · simp only [hf, Sem.run_bind, Sem.run_pure, Result.andThen_ok]
      · simp only [hf, Sem.run_pure, Result.andThen_ok, Sem.run_bind, hz]
  obtain ⟨z, hz⟩ : ∃ z, zeroV P et = some z := ⟨_, h3⟩
  rcases onMN_ok hk with ⟨r, rfl, hk⟩ | ⟨rfl, hk⟩
  · obtain ⟨es, ck, hr, hk⟩ := onMp_ok hk
    rcases findK_ok h5 hk with ⟨w, hw, hf⟩ | ⟨hn, hf⟩
    · obtain ⟨v, hv, hd⟩ := okK_ok hw
      refine ⟨v, hv, key v true w hd fun n0 e ac wd rr rd => ?_⟩
      obtain ⟨q, hq, hx⟩ := den_map (ha e ac (rr _ (by simp [Op.operands])))
      obtain ⟨os, ho, her⟩ := rd_map rd hr hq
      obtain ⟨jj, y, hfn, hy⟩ := hf e os.toList _ 0 her (hj e ac (rr _ (by simp [Op.operands])))
      exact ⟨os, y, hy, .inr ⟨q.blk, ck, hx, ho⟩, .inl ⟨rfl, jj, hfn⟩⟩
    · obtain ⟨v, hv, hd⟩ := okK_ok hn
      refine ⟨v, hv, key v false m.2 hd fun n0 e ac wd rr rd => ?_⟩
      obtain ⟨q, hq, hx⟩ := den_map (ha e ac (rr _ (by simp [Op.operands])))
      obtain ⟨os, ho, her⟩ := rd_map rd hr hq
      obtain ⟨zv, hzv, _, hrun⟩ := run_zero h3 e
      exact ⟨os, zv, hzv, .inr ⟨q.blk, ck, hx, ho⟩, .inr ⟨rfl, hf e os.toList _ 0 her (hj e ac (rr _ (by simp [Op.operands]))), hrun⟩⟩
  · obtain ⟨v, hv, hd⟩ := okK_ok hk
    refine ⟨v, hv, key v false m.2 hd fun n0 e ac wd rr rd => ?_⟩
    have hx : ac.eval x = .map none := by
      have := ha e ac (rr _ (by simp [Op.operands]))
      simpa [den, eq_comm] using this
    obtain ⟨zv, hzv, _, hrun⟩ := run_zero h3 e
    exact ⟨#[], zv, hzv, .inl ⟨hx, rfl⟩, .inr ⟨rfl, rfl, hrun⟩⟩
end
end Go.Sx
