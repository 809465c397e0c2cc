import Derived.Test.YteakajbedjdggaaGreatDoorSxE
/-
  Aggregates, lengths, the least and the greatest; all quiet operations ('opQ_ok').
-/
namespace Go.Sx
open Go Go.RowKit
section
variable {P : Program} {tm : T V} {h : H} {k : V → Bool}

/-! cells written over -/
theorem overK_ok : ∀ {vs l : List V} {k : List V → Bool}, overK vs l k = true → vs.length ≤ l.length ∧ (∀ v ∈ vs, ∀ e x, den e v = some x → x.oneCell' = true) ∧ k (vs ++ l.drop vs.length) = true
  | [], l, k, h => ⟨Nat.zero_le _, fun _ hv => absurd hv List.not_mem_nil, by rw [List.length_nil, List.drop_zero, List.nil_append]; exact h⟩
  | v :: vs, [], k, h => absurd h Bool.false_ne_true
  | v :: vs, x :: l, k, h => by
    obtain ⟨h1, hc⟩ := isC_ok (v := v) h
    obtain ⟨h2, h3, h4⟩ := overK_ok h1
    refine ⟨by simpa using h2, fun u hu => ?_, by simpa using h4⟩
    rcases List.mem_cons.1 hu with rfl | hu
    · exact hc
    · exact h3 u hu
theorem setAtK_ok : ∀ {n : Nat} {l vs : List V} {k : List V → Bool}, setAtK n l vs k = true → n + vs.length ≤ l.length ∧ (∀ v ∈ vs, ∀ e x, den e v = some x → x.oneCell' = true) ∧ k (l.take n ++ vs ++ l.drop (n + vs.length)) = true
  | 0, l, vs, k, h => by
    obtain ⟨h1, h2, h3⟩ := overK_ok (vs := vs) (l := l) h
    exact ⟨by omega, h2, by simpa using h3⟩
  | n + 1, [], vs, k, h => absurd h Bool.false_ne_true
  | n + 1, x :: l, vs, k, h => by
    obtain ⟨h1, h2, h3⟩ := setAtK_ok (n := n) (l := l) (vs := vs) h
    refine ⟨by simp; omega, h2, ?_⟩
    have : n + 1 + vs.length = (n + vs.length) + 1 := by omega
    simpa [this] using h3
theorem denL_setAt {e : Env} {l vs : List V} {xs ys : List Value} (hl : denL e l = some xs) (hv : denL e vs = some ys) (n : Nat) :
    denL e (l.take n ++ vs ++ l.drop (n + vs.length)) = some (xs.take n ++ ys ++ xs.drop (n + vs.length)) :=
  denL_append (denL_append (denL_take n hl) hv) (denL_drop _ hl)
theorem cellsK_ok {v : V} {k : List V → Bool} (h : cellsK v k = true) : k (cellsV v) = true := by
  cases v <;> first | exact h | exact absurd h Bool.false_ne_true
theorem den_cells {e : Env} {v : V} {x : Value} (h : den e v = some x) : denL e (cellsV v) = some x.cells.toList := by
  cases v <;> first
    | (obtain ⟨xs, hx, rfl⟩ := den_agg h; simpa [cellsV, Value.cells] using hx)
    | (refine denL_cons.2 ⟨x, [], h, by simp [denL], ?_⟩
       simp only [den, Option.map_eq_some_iff, Option.bind_eq_some_iff, Option.some.injEq] at h
       first
        | (subst h; rfl)
        | (obtain ⟨_, _, rfl⟩ := h; rfl)
        | (obtain ⟨_, _, _, _, rfl⟩ := h; rfl))
theorem foldl_set : ∀ (vs : List Value) (i off : Nat) (c : Array Value), off + i + vs.length ≤ c.size →
    ((vs.zipIdx i).foldl (fun cs p => cs.setIfInBounds (off + p.2) p.1) c).toList = c.toList.take (off + i) ++ vs ++ c.toList.drop (off + i + vs.length)
  | [], i, off, c, _ => by simp
  | v :: vs, i, off, c, h => by
    simp only [List.length_cons] at h
    rw [List.zipIdx_cons, List.foldl_cons, foldl_set vs (i + 1) off _ (by simp; omega)]
    have hlt : off + i < c.toList.length := by simp; omega
    have h1 : off + (i + 1) = (off + i) + 1 := by omega
    have h2 : off + i + 1 + vs.length = off + i + (v :: vs).length := by simp; omega
    rw [h1, h2]
    simp only [Array.toList_setIfInBounds]
    rw [List.take_set, List.take_succ_eq_append_getElem hlt, List.set_append_right _ _ (by simp; omega)]
    have h3 : off + i - (List.take (off + i) c.toList).length = 0 := by simp; omega
    rw [h3, List.drop_set_of_lt (by simp)]
    simp
theorem fillK_ok : ∀ {l : List (Nat × V)} {p : Nat → Option (Nat × Nat)} {c : List V} {k : List V → Bool}, fillK l p c k = true → ∃ r, k r = true ∧
    ∀ e (cs : Array Value) (ls : List (Nat × Value)), denL e c = some cs.toList → (l.length = ls.length ∧ ∀ (i : Nat) (x : Nat × V) (y : Nat × Value), l[i]? = some x → ls[i]? = some y → x.1 = y.1 ∧ den e x.2 = some y.2) →
      ∃ rs : Array Value, denL e r = some rs.toList ∧ Instr.fill p cs ls = some rs
  | [], p, c, k, h => ⟨c, h, fun e cs ls hc hl => by
      have : ls = [] := List.length_eq_zero_iff.1 hl.1.symm
      subst this
      exact ⟨cs, hc, rfl⟩⟩
  | x :: l, p, c, k, h => by
    obtain ⟨s, hs, h1⟩ := onS_ok (o := p x.1) h
    have h2 := cellsK_ok h1
    obtain ⟨hlen, h3⟩ := gd_ok h2
    obtain ⟨hb, _, h4⟩ := setAtK_ok h3
    obtain ⟨r, hr, hf⟩ := fillK_ok h4
    refine ⟨r, hr, fun e cs ls hc hl => ?_⟩
    cases ls with
    | nil => exact absurd hl.1 (by simp)
    | cons y ls =>
      obtain ⟨hxy, hd⟩ := hl.2 0 x y rfl rfl
      have hcells := den_cells hd
      have hvl := denL_len hcells
      rw [lenL_eq] at hlen
      have hlen := beqN hlen
      have hcl := denL_len hc
      have hsz : y.2.cells.size = s.2 := by
        rw [← hlen, ← hvl]; simp
      have hsum : s.1 + y.2.cells.size ≤ cs.size := by
        have : cs.toList.length = cs.size := by simp
        omega
      have hset := denL_setAt hc hcells s.1
      have hfold := foldl_set y.2.cells.toList 0 s.1 cs (by simpa using hsum)
      let cs' := (y.2.cells.toList.zipIdx 0).foldl (fun cs p => cs.setIfInBounds (s.1 + p.2) p.1) cs
      have hcs' : denL e (c.take s.1 ++ cellsV x.2 ++ c.drop (s.1 + (cellsV x.2).length)) = some cs'.toList := by
        rw [hset, ← hvl, hfold]; simp
      obtain ⟨rs, h5, h6⟩ := hf e cs' ls hcs' ⟨by simpa using hl.1, fun i a b ha hb => hl.2 (i + 1) a b (by simpa using ha) (by simpa using hb)⟩
      refine ⟨rs, h5, ?_⟩
      rw [← h6]
      show Instr.fill p cs ((y.1, y.2) :: ls) = _
      rw [Instr.fill, ← hxy, hs]
      simp only [hsz, ne_eq, not_true_eq_false, decide_false, Bool.false_or, decide_eq_true_eq]
      rw [if_neg (by omega)]
      congr 1
      simp only [cs']
      rw [← Array.foldl_toList]
      simp
theorem evP_pairs {l : List (Nat × Operand)} {r : List (Nat × V)} (hl : EvPS l tm r) {e : Env} {a : Act} (ht : ∀ p ∈ l, OpR e tm a.tmps p.2) :
    r.length = (l.map fun p => (p.1, a.eval p.2)).length ∧ ∀ (i : Nat) (x : Nat × V) (y : Nat × Value), r[i]? = some x → (l.map fun p => (p.1, a.eval p.2))[i]? = some y → x.1 = y.1 ∧ den e x.2 = some y.2 := by
  induction l generalizing r with
  | nil => cases r with
    | nil => exact ⟨rfl, fun i x y h => by simp at h⟩
    | cons => exact hl.elim
  | cons p l ih => cases r with
    | nil => exact hl.elim
    | cons v r =>
      obtain ⟨h1, h2, h3⟩ := hl
      obtain ⟨h4, h5⟩ := ih h3 (fun q hq => ht q (by simp [hq]))
      refine ⟨by simpa using h4, fun i x y hx hy => ?_⟩
      cases i with
      | zero =>
        simp only [List.getElem?_cons_zero, Option.some.injEq] at hx
        simp only [List.map_cons, List.getElem?_cons_zero, Option.some.injEq] at hy
        subst hx; subst hy
        exact ⟨h1.symm, h2 e a (ht p (by simp))⟩
      | succ i => exact h5 i x y (by simpa using hx) (by simpa using hy)
theorem plF_ok : ∀ {fs : List Field} {l : List (Nat × Nat)}, plF P fs = some l → fs.mapM (fun f => (P.info? f.type).map fun i => (f.offset, i.size)) = some l
  | [], l, h => by simp only [plF, Option.some.injEq] at h; subst h; rfl
  | f :: fs, l, h => by
    simp only [plF] at h
    split at h
    · rename_i z r hz hr
      cases h
      obtain ⟨i, hi, rfl⟩ := info_of hz
      simp [List.mapM_cons, hi, plF_ok hr]
    · cases h
theorem bdOf_ok {t : TypeId} {d : List V × (Nat → Option (Nat × Nat))} (hd : bdOf P t = some d) {r : List V} {parts : List (Nat × Value)} {e : Env}
    (hf : ∀ cs : Array Value, denL e d.1 = some cs.toList → ∃ rs : Array Value, denL e r = some rs.toList ∧ Instr.fill d.2 cs parts = some rs) : ∃ rs : Array Value, denL e r = some rs.toList ∧ P.built t parts = some rs := by
  unfold bdOf at hd
  split at hd
  · rename_i z fs hz hu
    simp only [Option.map_eq_some_iff] at hd
    obtain ⟨l, hl, rfl⟩ := hd
    obtain ⟨zv, hzv, hzi, _⟩ := run_zero (P := P) hz e
    obtain ⟨xs, hxs, rfl⟩ := den_agg hzv
    obtain ⟨rs, h1, h2⟩ := hf xs.toArray (by simpa using hxs)
    refine ⟨rs, h1, ?_⟩
    rw [Option.bind_eq_some_iff] at hzi
    obtain ⟨i, hi, hzz⟩ := hzi
    unfold Program.built
    rw [hi, hu]
    simp only [hzz, plF_ok hl, Value.cells]
    rw [← h2]
    congr 1
    funext i
    simp
  · rename_i z n el hz hu
    simp only [Option.map_eq_some_iff] at hd
    obtain ⟨s, hs, rfl⟩ := hd
    obtain ⟨zv, hzv, hzi, _⟩ := run_zero (P := P) hz e
    obtain ⟨xs, hxs, rfl⟩ := den_agg hzv
    obtain ⟨rs, h1, h2⟩ := hf xs.toArray (by simpa using hxs)
    refine ⟨rs, h1, ?_⟩
    rw [Option.bind_eq_some_iff] at hzi
    obtain ⟨i, hi, hzz⟩ := hzi
    obtain ⟨ie, hie, rfl⟩ := info_of hs
    unfold Program.built
    rw [hi, hu]
    simp only [hzz, hie, Value.cells]
    exact h2
  · cases hd
theorem qBuild_ok {t : TypeId} {ps : Array (Nat × Operand)} (hk : qBuild t ps P tm h k = true) : ∃ v, k v = true ∧ QS P (.build t ps) tm h v := by
  obtain ⟨d, hd, hk⟩ := onS_ok hk
  obtain ⟨l, hl, hk⟩ := evP_ok hk
  obtain ⟨r, hk, hf⟩ := fillK_ok hk
  refine ⟨_, hk, fun n0 e a w u hu ht _ => ?_⟩
  obtain ⟨dd, ty, p, af, gg, rfl⟩ := exec_eq hu
  obtain ⟨rs, h1, h2⟩ := bdOf_ok hd (r := r) (e := e) (parts := (ps.map fun (i, x) => (i, a.eval x)).toList) fun cs hc => hf e cs _ hc (by
    have := evP_pairs hl (e := e) (a := a) (fun q hq => ht q.2 (by
      simp only [Op.operands, List.mem_toArray, List.mem_map]
      exact ⟨q, hq, rfl⟩))
    simpa using this)
  refine ⟨.agg rs, by simp [den, h1], ?_⟩
  refine run_v ?_
  exact run_build w t _ rs h2

/-! lengths -/
theorem hd0_ok {l : List TypeId} {k : TypeId → Bool} (h : hd0 l k = true) : ∃ t r, l = t :: r ∧ k t = true := by
  cases l with
  | nil => exact absurd h Bool.false_ne_true
  | cons t r => exact ⟨t, r, rfl, h⟩
theorem hd1_ok {l : List V} {k : V → Bool} (h : hd1 l k = true) : ∃ v, l = [v] ∧ k v = true := by
  cases l with
  | nil => exact absurd h Bool.false_ne_true
  | cons v r => cases r with
    | nil => exact ⟨v, rfl, h⟩
    | cons => exact absurd h Bool.false_ne_true
theorem hd2_ok {l : List V} {k : V → V → Bool} (h : hd2 l k = true) : ∃ x y, l = [x, y] ∧ k x y = true := by
  cases l with
  | nil => exact absurd h Bool.false_ne_true
  | cons x r =>
    obtain ⟨y, rfl, h⟩ := hd1_ok (l := r) h
    exact ⟨x, y, rfl, h⟩
theorem evL_one {l : List Operand} {v : V} (hl : EvLS l tm [v]) {e : Env} {a : Act} (ht : ∀ x ∈ l, OpR e tm a.tmps x) : ∃ x, l.map a.eval = [x] ∧ den e v = some x := by
  obtain ⟨x, r, hx, hr, he⟩ := denL_cons.1 (hl e a ht)
  rw [denL_nil.1 hr] at he
  exact ⟨x, he, hx⟩
theorem evL_two {l : List Operand} {u v : V} (hl : EvLS l tm [u, v]) {e : Env} {a : Act} (ht : ∀ x ∈ l, OpR e tm a.tmps x) : ∃ x y, l.map a.eval = [x, y] ∧ den e u = some x ∧ den e v = some y := by
  obtain ⟨x, r, hx, hr, he⟩ := denL_cons.1 (hl e a ht)
  obtain ⟨y, r', hy, hr', he'⟩ := denL_cons.1 hr
  rw [denL_nil.1 hr'] at he'
  subst he'
  exact ⟨x, y, he, hx, hy⟩
theorem TmO.args {e : Env} {tmps : Array Value} {c : Callee} {args : Array Operand} {ts : Array TypeId} (r : TmO (.call ⟨c, args, ts⟩) e tm tmps) : ∀ x ∈ args.toList, OpR e tm tmps x := fun x hx => r x (by
  simp only [Op.operands, Call.operands, Array.mem_append]
  exact .inr (Array.mem_toList_iff.1 hx))
/-- a builtin on its arguments -/
theorem exec_builtin {u : Oper} {b : Builtin} {args : Array Operand} {ts : Array TypeId} (hu : u.op = .call ⟨.builtin b, args, ts⟩) (ρ : Operand → Value) :
    ∃ ty cs, execOp ρ u = builtin b ts ty cs (args.map ρ) := by
  obtain ⟨d, t, p, af, g, rfl⟩ := exec_eq hu
  exact ⟨t, _, rfl⟩
theorem args_of {args : Array Operand} {a : Act} {l : List Value} (h : args.toList.map a.eval = l) : args.map a.eval = l.toArray := by
  rw [← h, ← Array.toList_map]
theorem lkOf_ok {t : TypeId} {l : LK} (hl : lkOf P t = some l) : (l = .str ∧ P.underlying t = some .string) ∨ (∃ e, l = .sl ∧ P.underlying t = some (.slice e)) ∨ (∃ a b, l = .map ∧ P.underlying t = some (.map a b)) ∨ (∃ n e, l = .arr n ∧ P.underlying t = some (.array n e)) := by
  unfold lkOf at hl
  split at hl <;> first | (cases hl; done) | skip
  all_goals rename_i hu; cases hl
  · exact .inl ⟨rfl, hu⟩
  · exact .inr (.inl ⟨_, rfl, hu⟩)
  · exact .inr (.inr (.inl ⟨_, _, rfl, hu⟩))
  · exact .inr (.inr (.inr ⟨_, _, rfl, hu⟩))
theorem ER.len {e : Env} : ∀ {es : List (V × V × Nat)} {os : List MapEntry}, ER e es os → es.length = os.length
  | [], [], _ => rfl
  | _ :: _, _ :: _, h => congrArg (· + 1) (ER.len h.2.2.2)
  | [], _ :: _, h => h.elim
  | _ :: _, [], h => h.elim
theorem lnSl_ok {v : V} {k : V → Bool} (h : lnSl v k = true) : ∃ n : Nat, k (.int .i64 n) = true ∧ ∀ e x, den e v = some x → ∃ a c, x = .slice a n c := by
  cases v <;> first | exact absurd h Bool.false_ne_true | skip
  · exact ⟨_, h, fun e x hx => by obtain ⟨q, _, rfl⟩ := den_slice hx; exact ⟨_, _, rfl⟩⟩
  · refine ⟨0, h, fun e x hx => ⟨none, 0, ?_⟩⟩
    simpa [den, eq_comm] using hx
  · exact ⟨0, h, fun e x hx => by obtain ⟨q, _, rfl⟩ := den_esl hx; exact ⟨_, _, rfl⟩⟩
theorem qLen_ok {args : Array Operand} {ts : Array TypeId} (hk : qLen args.toList ts.toList P tm h k = true) : ∃ v, k v = true ∧ QS P (.call ⟨.builtin .len, args, ts⟩) tm h v := by
  obtain ⟨t, r, ht, hk⟩ := hd0_ok hk
  obtain ⟨l, hl, hk⟩ := onS_ok hk
  obtain ⟨as, ha, hk⟩ := evL_ok hk
  obtain ⟨v, rfl, hk⟩ := hd1_ok hk
  have hts : ts[0]? = some t := by rw [← Array.getElem?_toList, ht]; rfl
  have key : ∀ (n : Nat), (∀ n0 e (a : Act) w x, Rd n0 e h w → den e v = some x → (Builtin.len_ ts 0 #[x]).run P w = .ok (goInt n) w) → QS P (.call ⟨.builtin .len, args, ts⟩) tm h (.int .i64 n) := by
    intro n hn n0 e a w u hu tr rd
    obtain ⟨ty, cs, he⟩ := exec_builtin hu a.eval
    obtain ⟨x, hx, hd⟩ := evL_one ha tr.args
    refine ⟨_, den_int' _ _ e, ?_⟩
    rw [he, args_of hx]
    refine run_v ?_
    exact hn n0 e a w x rd hd
  rcases lkOf_ok hl with ⟨rfl, hu⟩ | ⟨el, rfl, hu⟩ | ⟨a, b, rfl, hu⟩ | ⟨n, el, rfl, hu⟩
  · obtain ⟨s, rfl, hk1⟩ := onStr_ok (v := v) hk
    refine ⟨_, hk1, key (lenL s) fun n0 e a w x rd hx => ?_⟩
    rw [den_str hx]
    simp [Builtin.len_, hts, run_underlying hu, bts_size, lenL_eq]
  · obtain ⟨n, hk1, hd⟩ := lnSl_ok (v := v) hk
    refine ⟨_, hk1, key n fun n0 e a w x rd hx => ?_⟩
    obtain ⟨b, c, rfl⟩ := hd e x hx
    simp [Builtin.len_, hts, run_underlying hu]
  · rcases onMN_ok (v := v) hk with ⟨r, rfl, hk1⟩ | ⟨rfl, hk1⟩
    · obtain ⟨es, ck, hr, hk2⟩ := onMp_ok hk1
      refine ⟨_, hk2, key (lenL es) fun n0 e a w x rd hx => ?_⟩
      obtain ⟨q, hq, rfl⟩ := den_map hx
      obtain ⟨os, ho, her⟩ := rd_map rd hr hq
      have : es.length = os.size := by rw [her.len]; simp
      simp [Builtin.len_, hts, run_underlying hu, run_getObj (P := P) ho (fun _ _ _ h => (by cases h)), lenL_eq, this]
    · refine ⟨_, hk1, key 0 fun n0 e a w x rd hx => ?_⟩
      have : x = .map none := by simpa [den, eq_comm] using hx
      subst this
      simp [Builtin.len_, hts, run_underlying hu]
  · refine ⟨_, hk, key n fun n0 e a w x rd hx => ?_⟩
    simp [Builtin.len_, hts, run_underlying hu]
theorem slEl_ok {t el : TypeId} (h : slEl P t = some el) : P.underlying t = some (.slice el) := by
  unfold slEl at h
  split at h
  · rename_i e hu; cases h; exact hu
  · cases h
theorem qCap_ok {args : Array Operand} {ts : Array TypeId} (hk : qCap args.toList ts.toList P tm h k = true) : ∃ v, k v = true ∧ QS P (.call ⟨.builtin .cap, args, ts⟩) tm h v := by
  obtain ⟨t, r, ht, hk⟩ := hd0_ok hk
  obtain ⟨l, hl, hk⟩ := onS_ok hk
  obtain ⟨as, ha, hk⟩ := evL_ok hk
  obtain ⟨v, rfl, hk⟩ := hd1_ok hk
  have hts : ts[0]? = some t := by rw [← Array.getElem?_toList, ht]; rfl
  have hu := slEl_ok hl
  have key : ∀ (n : Nat), (∀ e x, den e v = some x → ∃ a l, x = .slice a l n) → QS P (.call ⟨.builtin .cap, args, ts⟩) tm h (.int .i64 n) := by
    intro n hn n0 e a w u huu tr rd
    obtain ⟨ty, cs, he⟩ := exec_builtin huu a.eval
    obtain ⟨x, hx, hd⟩ := evL_one ha tr.args
    obtain ⟨ad, ln, rfl⟩ := hn e x hd
    refine ⟨_, den_int' _ _ e, ?_⟩
    rw [he, args_of hx]
    refine run_v ?_
    simp [Builtin.cap_, hts, run_underlying hu, goInt]
  rcases onSlN_ok (v := v) hk with ⟨b, o, n, c, p, rfl, hk1⟩ | ⟨rfl, hk1⟩
  · rcases br_cases hk1 with ⟨_, hk2⟩ | ⟨rfl, hk2⟩
    · exact absurd hk2 Bool.false_ne_true
    · exact ⟨_, hk2, key c fun e x hx => by obtain ⟨q, _, rfl⟩ := den_slice hx; exact ⟨_, _, rfl⟩⟩
  · exact ⟨_, hk1, key 0 fun e x hx => ⟨none, 0, by simpa [den, eq_comm] using hx⟩⟩
theorem mm_eq (mn : Bool) (a b : Int) : mm2 mn a b = if mn then (if b < a then b else a) else (if b > a then b else a) := by
  cases mn
  · show (Bool.rec a b (ltI a b) : Int) = _
    rw [ltI_eq]
    by_cases hc : a < b <;> simp [hc]
  · show (Bool.rec a b (ltI b a) : Int) = _
    rw [ltI_eq]
    by_cases hc : b < a <;> simp [hc]
theorem mmL_ok {mn : Bool} {i : IntKind} : ∀ (l : List V) {m : Int} {k : Int → Bool}, mmL mn l m k = true → ∃ m', k m' = true ∧ ∀ e vs, denL e l = some vs → ∀ w, (vs.foldlM (if mn then Builtin.min2 else Builtin.max2) (.int i m)).run P w = .ok (.int i m') w
  | [], m, k, h => ⟨m, h, fun e vs hv w => by rw [denL_nil.1 hv]; rfl⟩
  | v :: l, m, k, h => by
    obtain ⟨j, b, hv, h1⟩ := onInt_ok (show onInt v (fun _ b => mmL mn l (mm2 mn m b) k) = true from h)
    subst hv
    obtain ⟨m', hk, hr⟩ := mmL_ok l h1
    refine ⟨m', hk, fun e vs hv w => ?_⟩
    obtain ⟨x, r, hx, hr', rfl⟩ := denL_cons.1 hv
    rw [den_int hx, List.foldlM_cons, Sem.run_bind]
    have : ((if mn then Builtin.min2 else Builtin.max2) (.int i m) (.int j b)).run P w = .ok (.int i (mm2 mn m b)) w := by
      rw [mm_eq]
      cases mn <;> simp [Builtin.max2, Builtin.min2]
    rw [this, Result.andThen_ok]
    exact hr e r hr' w
theorem hdR_ok {l : List V} {f : V → List V → Bool} (h : hdR l f = true) : ∃ x r, l = x :: r ∧ f x r = true := by
  cases l with
  | nil => exact absurd h Bool.false_ne_true
  | cons x r => exact ⟨x, r, rfl, h⟩
theorem mmK_ok {mn : Bool} {args : Array Operand} {ts : Array TypeId} (hk : mmK mn args.toList ts.toList P tm h k = true) : ∃ v, k v = true ∧ QS P (.call ⟨.builtin (if mn then .min else .max), args, ts⟩) tm h v := by
  obtain ⟨as, ha, hk1⟩ := evL_ok hk
  obtain ⟨x, r, hl, hk2⟩ := hdR_ok hk1
  subst hl
  obtain ⟨i, a, hx, hk3⟩ := onInt_ok (v := x) hk2
  subst hx
  obtain ⟨m, hk4, hr⟩ := mmL_ok (P := P) (i := i) r hk3
  refine ⟨_, hk4, fun n0 e ac w u hu tr rd => ⟨_, den_int' _ _ e, ?_⟩⟩
  obtain ⟨ty, cs, he⟩ := exec_builtin hu ac.eval
  obtain ⟨x, l, hx, hl, hxl⟩ := denL_cons.1 (ha e ac tr.args)
  have hx := den_int hx
  subst hx
  rw [he, args_of hxl]
  have := hr e l hl w
  cases mn
  · refine run_v ?_
    simpa [Builtin.max_] using this
  · refine run_v ?_
    simpa [Builtin.min_] using this
theorem qB_ok {b : Builtin} {args : Array Operand} {ts : Array TypeId} (hk : qB b args.toList ts.toList P tm h k = true) : ∃ v, k v = true ∧ QS P (.call ⟨.builtin b, args, ts⟩) tm h v := by
  cases b <;> first | exact absurd hk Bool.false_ne_true | exact qLen_ok hk | exact qCap_ok hk | exact mmK_ok (mn := true) hk | exact mmK_ok (mn := false) hk
/-- ALL QUIET OPERATIONS: what 'opQ' answers is what the model's operation answers; memory stays. -/
theorem opQ_ok {o : Op} (hk : opQ o P tm h k = true) : ∃ v, k v = true ∧ QS P o tm h v := by
  cases o <;> first | exact absurd hk Bool.false_ne_true | skip
  case move x => obtain ⟨v, h1, h2, _⟩ := qMove_ok (h := h) hk; exact ⟨v, h1, h2⟩
  case assign x => obtain ⟨v, h1, _, h2⟩ := qMove_ok (h := h) hk; exact ⟨v, h1, h2⟩
  case pick => exact qPick_ok hk
  case build => exact qBuild_ok hk
  case load => exact qLoad_ok hk
  case nilCheck => exact qNil_ok hk
  case binOp => exact qBin_ok hk _
  case unOp => exact qUn_ok hk _
  case convert => exact qConv_ok hk
  case makeFunc => exact qFunc_ok hk
  case slice => exact qSlice_ok hk
  case fieldAddr => exact qFa_ok hk
  case field => exact qFd_ok hk
  case indexAddr => exact qIa_ok hk
  case index => exact qIx_ok hk
  case lookup => exact qLook_ok hk
  case extract => exact qExt_ok hk
  case call c =>
    obtain ⟨cal, args, ts⟩ := c
    cases cal <;> first | exact absurd hk Bool.false_ne_true | exact qB_ok hk
end
end Go.Sx
