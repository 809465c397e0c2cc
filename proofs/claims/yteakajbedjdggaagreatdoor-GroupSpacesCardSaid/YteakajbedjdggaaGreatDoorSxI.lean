import Derived.Test.YteakajbedjdggaaGreatDoorSxH
/-
  append, copy, clear, maps: the operations that write memory, as the walk of a region meets them.
-/
namespace Go.Sx
open Go Go.RowKit
section
variable {P : Program} {tm : T V} {h : H} {nx : I} {k : KC} {hd : Hand} {ih : Run}

theorem isIntT_ok {u : TypeId} {z : Bool} (h : isIntT P u = some z) : ∃ ud, P.underlying u = some ud ∧ ((z = true ∧ ∃ k, ud = .int k) ∨ (z = false ∧ ∀ k, ud ≠ .int k)) := by
  unfold isIntT at h
  rw [Option.map_eq_some_iff] at h
  obtain ⟨ud, hu, hz⟩ := h
  refine ⟨ud, hu, ?_⟩
  cases ud <;> first | exact .inl ⟨hz.symm, _, rfl⟩ | exact .inr ⟨hz.symm, fun k h => (by cases h)⟩
theorem zeros_eq {s : SI} {z : Value} (hsz : z.cells.size = s.z) (n : Nat) : ((List.range (n * s.z)).map (fun i => z.cells[i % z.cells.size]!)) = (Builtin.zeroCells z.cells n).toList := by
  simp [Builtin.zeroCells, hsz]
theorem repL_len (l : List V) : ∀ n, (repL n l).length = n * l.length
  | 0 => (Nat.zero_mul _).symm
  | n + 1 => by
    show (l ++ repL n l).length = _
    rw [List.length_append, repL_len l n, Nat.succ_mul]; omega
theorem eApp_ok {args : Array Operand} {ts : Array TypeId} (hk : eApp args.toList ts.toList P hd ih tm h nx k = true) : ∃ v h' nx', k v h' nx' = true ∧ ES P (.call ⟨.builtin .append, args, ts⟩) tm h nx v h' nx' := by
  obtain ⟨t, u, r, hts, hk⟩ := hdT2_ok hk
  obtain ⟨s, hs, hk⟩ := onS_ok hk
  obtain ⟨zs, hzs, hk⟩ := onS_ok hk
  obtain ⟨as, ha, hk⟩ := evL_ok hk
  obtain ⟨x, y, rfl, hk⟩ := hd2_ok hk
  obtain ⟨h1, h2, h3, h4, h5, h6⟩ := siOf_ok hs
  obtain ⟨ud, hud, hcase⟩ := isIntT_ok hzs
  have ht0 : ts[0]? = some t := by rw [← Array.getElem?_toList, hts]; rfl
  have ht1 : ts[1]? = some u := by rw [← Array.getElem?_toList, hts]; rfl
  -- what is common
  have fin : ∀ (n : Nat) (new : List V), new.length = n * s.z → appK s x n new h nx k = true →
      (∀ n0 e w vy, Sat n0 e h w → den e y = some vy → ∃ newA, denL e new = some newA ∧ newA.length = n * s.z ∧ AppArg P ts s vy n newA.toArray w) →
      ∃ v h' nx', k v h' nx' = true ∧ ES P (.call ⟨.builtin .append, args, ts⟩) tm h nx v h' nx' := by
    intro n new hnew hk harg
    obtain ⟨v, h', nx', hk, hnx, hap⟩ := appK_ok (P := P) h5 hnew hk
    refine ⟨v, h', nx', hk, hnx, fun n0 e a w uo huo tr st fr ro K Q hK => ?_⟩
    obtain ⟨ty, cs, he⟩ := exec_builtin huo a.eval
    obtain ⟨vx, vy, hxy, hd1, hd2⟩ := evL_two ha tr.args
    obtain ⟨newA, hnA, hnl, haa⟩ := harg n0 e w vy st hd2
    obtain ⟨z, hz, hsz, _⟩ := run_zeros (P := P) h4 h6 e n
    obtain ⟨r, w', e', hrun, hden, hstp⟩ := hap n0 e w vx vy ts ty newA st fr hd1 hnA hnl haa ⟨z, hz, hsz⟩
    refine wpIn_value (w' := w') (x := r) (fun c hh => by rw [huo] at hh; cases hh) ?_ (hK e' r w' hden hstp)
    rw [he, args_of hxy]
    exact run_v hrun
  rcases br_cases hk with ⟨hz, hk⟩ | ⟨hz, hk⟩
  · rcases hcase with ⟨_, kk, hkk⟩ | ⟨hz', _⟩
    · obtain ⟨i, n, rfl, hk1⟩ := onInt_ok (v := y) hk
      obtain ⟨hi, hk2⟩ := onKind_ok hk1
      obtain ⟨m, hm, hk3⟩ := onNat_ok hk2
      obtain ⟨g1, hk4⟩ := gd_ok hk3
      obtain ⟨g2, hk5⟩ := gd_ok hk4
      refine fin m (repL m s.zero) (by rw [repL_len, h6]) hk5 fun n0 e w vy st hvy => ?_
      obtain ⟨z, hz, hsz, hrep⟩ := run_zeros (P := P) h4 h6 e m
      rw [zeros_eq hsz] at hrep
      refine ⟨_, hrep, by rw [zeroCells_len, hsz], t, u, ud, ht0, ht1, h1, h2, h3, hud, .inr ⟨kk, hkk, ?_, blt_ok g1, by simpa using g2, z, hz, ?_⟩⟩
      · rw [den_int hvy, hi, hm]
      · split
        · rename_i h0
          have : m = 0 := by
            rcases Nat.mul_eq_zero.1 h0 with h | h
            · exact h
            · omega
          subst this
          simp [Builtin.zeroCells]
        · simp
    · rw [hz] at hz'; cases hz'
  · rcases hcase with ⟨hz', _⟩ | ⟨_, hni⟩
    · rw [hz] at hz'; cases hz'
    · obtain ⟨n, c, hk, hlen, hsrc⟩ := srcK_ok (P := P) hk
      refine fin n c hlen hk fun n0 e w vy st hvy => ?_
      obtain ⟨xs, hx, hl, hlo, hfc⟩ := hsrc n0 e w vy st.rd hvy
      refine ⟨xs, hx, hl, t, u, ud, ht0, ht1, h1, h2, h3, hud, .inl ⟨hni, hlo, fun w' hw' => ?_⟩⟩
      obtain ⟨xs', hx', hl', _, hfc'⟩ := hsrc n0 e w' vy (st.rd.drew hw') hvy
      rw [hx] at hx'; cases hx'
      have := hfc' n (Nat.le_refl _)
      rwa [← hl, List.take_length] at this
theorem minN_eq (a b : Nat) : minN a b = Nat.min a b := by
  unfold minN
  show _ = min a b
  by_cases hc : a ≤ b
  · rw [Nat.min_eq_left hc]
    have : Nat.ble a b = true := by simpa using hc
    rw [this]
  · rw [Nat.min_eq_right (by omega)]
    have : Nat.ble a b = false := by
      rw [Bool.eq_false_iff]; intro hh; exact hc (by simpa using hh)
    rw [this]
theorem eCopy_ok {args : Array Operand} {ts : Array TypeId} (hk : eCopy args.toList ts.toList P hd ih tm h nx k = true) : ∃ v h' nx', k v h' nx' = true ∧ ES P (.call ⟨.builtin .copy, args, ts⟩) tm h nx v h' nx' := by
  obtain ⟨t, r, hts, hk⟩ := hd0_ok hk
  obtain ⟨s, hs, hk⟩ := onS_ok hk
  obtain ⟨as, ha, hk⟩ := evL_ok hk
  obtain ⟨x, y, rfl, hk⟩ := hd2_ok hk
  obtain ⟨m, c, hk, _, hsrc⟩ := srcK_ok (P := P) hk
  obtain ⟨h1, h2, h3, h4, h5, h6⟩ := siOf_ok hs
  have ht0 : ts[0]? = some t := by rw [← Array.getElem?_toList, hts]; rfl
  rcases onSlN_ok (v := x) hk with ⟨b, o, n, cc, p, rfl, hk⟩ | ⟨rfl, hk⟩
  · obtain ⟨hle, hk⟩ := takeK_ok _ _ _ hk
    obtain ⟨cs, ty, z, hb, hl, h11, hk⟩ := wrK_ok hk
    refine ⟨_, _, _, hk, Nat.le_refl _, fun n0 e a w uo huo tr st fr ro K Q hK => ?_⟩
    obtain ⟨tty, ccs, he⟩ := exec_builtin huo a.eval
    obtain ⟨vx, vy, hxy, hd1, hd2⟩ := evL_two ha tr.args
    obtain ⟨q, hq, rfl⟩ := den_slice hd1
    obtain ⟨xs, hx, hxl, hlo, hfc⟩ := hsrc n0 e w vy st.rd hd2
    have hmn : minN m n ≤ m := by rw [minN_eq]; exact Nat.min_le_left _ _
    have hfc' := hfc (minN m n) hmn
    obtain ⟨w', hr, hst⟩ := wr_stp (P := P) st hb hq (denL_take (minN m n * s.z) hx) hl h11 nx
    refine wpIn_value (w' := w') (x := .int .i64 (minN m n : Nat)) (fun c hh => by rw [huo] at hh; cases hh) ?_ (hK e _ w' (den_int' _ _ e) hst)
    rw [he, args_of hxy]
    refine run_v ?_
    rw [minN_eq] at hfc' hr ⊢
    simp [Builtin.copy_, ht0, run_underlying h1, hlo, run_sz h2, hfc', hr, goInt]
  · refine ⟨_, _, _, hk, Nat.le_refl _, fun n0 e a w uo huo tr st fr ro K Q hK => ?_⟩
    obtain ⟨tty, ccs, he⟩ := exec_builtin huo a.eval
    obtain ⟨vx, vy, hxy, hd1, hd2⟩ := evL_two ha tr.args
    have : vx = .slice none 0 0 := by simpa [den, eq_comm] using hd1
    subst this
    obtain ⟨xs, hx, hxl, hlo, hfc⟩ := hsrc n0 e w vy st.rd hd2
    have hfc' := hfc 0 (Nat.zero_le _)
    refine wpIn_value (w' := w) (x := .int .i64 0) (fun c hh => by rw [huo] at hh; cases hh) ?_ (hK e _ w (den_int' _ _ e) (Stp.refl st))
    rw [he, args_of hxy]
    refine run_v ?_
    simp [Builtin.copy_, ht0, run_underlying h1, hlo, run_sz h2, hfc', goInt]
theorem eClear_ok {args : Array Operand} {ts : Array TypeId} (hk : eClear args.toList ts.toList P hd ih tm h nx k = true) : ∃ v h' nx', k v h' nx' = true ∧ ES P (.call ⟨.builtin .clear, args, ts⟩) tm h nx v h' nx' := by
  obtain ⟨t, r, hts, hk⟩ := hd0_ok hk
  obtain ⟨s, hs, hk⟩ := onS_ok hk
  obtain ⟨as, ha, hk⟩ := evL_ok hk
  obtain ⟨x, rfl, hk⟩ := hd1_ok hk
  obtain ⟨h1, h2, h3, h4, h5, h6⟩ := siOf_ok hs
  have ht0 : ts[0]? = some t := by rw [← Array.getElem?_toList, hts]; rfl
  rcases onSlN_ok (v := x) hk with ⟨b, o, n, cc, p, rfl, hk⟩ | ⟨rfl, hk⟩
  · obtain ⟨cs, ty, z, hb, hl, h11, hk⟩ := wrK_ok hk
    refine ⟨_, _, _, hk, Nat.le_refl _, fun n0 e a w uo huo tr st fr ro K Q hK => ?_⟩
    obtain ⟨tty, ccs, he⟩ := exec_builtin huo a.eval
    obtain ⟨vx, hxy, hd1⟩ := evL_one ha tr.args
    obtain ⟨q, hq, rfl⟩ := den_slice hd1
    obtain ⟨zc, hz, hsz, hrep⟩ := run_zeros (P := P) h4 h6 e n
    rw [zeros_eq hsz] at hrep
    obtain ⟨w', hr, hst⟩ := wr_stp (P := P) st hb hq hrep hl h11 nx
    refine wpIn_value (w' := w') (x := undef) (fun c hh => by rw [huo] at hh; cases hh) ?_ (hK e _ w' den_un hst)
    rw [he, args_of hxy]
    refine run_v ?_
    cases n with
    | zero =>
      have : w' = w := by
        have h0 : (Builtin.zeroCells zc.cells 0).toList = [] := by simp [Builtin.zeroCells]
        rw [h0] at hr
        have : (storeCells ⟨q.blk, o, none⟩ []).run P w = .ok () w := rfl
        rw [this] at hr
        cases hr; rfl
      subst this
      simp [Builtin.clear_, ht0, run_underlying h1, undef]
    | succ n => simp [Builtin.clear_, ht0, run_underlying h1, hz, hr, undef]
  · refine ⟨_, _, _, hk, Nat.le_refl _, fun n0 e a w uo huo tr st fr ro K Q hK => ?_⟩
    obtain ⟨tty, ccs, he⟩ := exec_builtin huo a.eval
    obtain ⟨vx, hxy, hd1⟩ := evL_one ha tr.args
    have : vx = .slice none 0 0 := by simpa [den, eq_comm] using hd1
    subst this
    refine wpIn_value (w' := w) (x := undef) (fun c hh => by rw [huo] at hh; cases hh) ?_ (hK e _ w den_un (Stp.refl st))
    rw [he, args_of hxy]
    refine run_v ?_
    simp [Builtin.clear_, ht0, run_underlying h1, undef]

/-! maps -/
theorem ER.push {e : Env} : ∀ {es : List (V × V × Nat)} {os : List MapEntry}, ER e es os → ∀ {v w : V} {ck : Nat} {m : MapEntry}, den e v = some m.key → den e w = some m.val → m.born = ck → ER e (es ++ [(v, w, ck)]) (os ++ [m])
  | [], [], _, _, _, _, _, h1, h2, h3 => ⟨h1, h2, h3, trivial⟩
  | _ :: _, _ :: _, h, _, _, _, _, h1, h2, h3 => ⟨h.1, h.2.1, h.2.2.1, ER.push h.2.2.2 h1 h2 h3⟩
  | [], _ :: _, h, _, _, _, _, _, _, _ => h.elim
  | _ :: _, [], h, _, _, _, _, _, _, _ => h.elim
theorem same_key {s : SC} {kd : TypeDesc} (hs : (s = .int ∧ ∃ i, kd = .int i) ∨ (s = .str ∧ kd = .string) ∨ (s = .bool ∧ kd = .bool)) {vx vy : Value} (h : Instr.sameNow kd vx vy = some true) (n : Nat) : Instr.sameBits (n + 1) vy vx = true := by
  rcases hs with ⟨rfl, i, rfl⟩ | ⟨rfl, rfl⟩ | ⟨rfl, rfl⟩ <;>
    (cases vx <;> cases vy <;> simp_all [Instr.sameNow, Instr.sameBits])
  rw [beq_toListBytes] at *
  simp_all
theorem updK_ok {s : SC} {kd : TypeDesc} (hs : (s = .int ∧ ∃ i, kd = .int i) ∨ (s = .str ∧ kd = .string) ∨ (s = .bool ∧ kd = .bool)) {v w : V} {no : Bool} :
    ∀ {es : List (V × V × Nat)} {k : List (V × V × Nat) → Bool}, updK es s v w no k = true →
      (∃ es', k es' = true ∧ ∀ e os x y i, ER e es os → den e v = some x → den e w = some y → ∃ (j : Nat) (m : MapEntry) (u : Value), Instr.findNow kd x os i = some (some (i + j, u)) ∧ os[j]? = some m ∧ Instr.sameBits 10000 m.key x = true ∧
          ER e es' (os.modify j fun m => { m with key := x, val := y })) ∨
      (no = true ∧ ∀ e os x i, ER e es os → den e v = some x → Instr.findNow kd x os i = some none)
  | [], _, h => .inr ⟨h, fun e os x i hr _ => by
      cases os with
      | nil => rfl
      | cons => exact hr.elim⟩
  | a :: es, k, h => by
    obtain ⟨b, hb, hq⟩ := sameNow_ok hs h
    rcases br_cases hb with ⟨rfl, hb⟩ | ⟨rfl, hb⟩
    · refine .inl ⟨_, hb, fun e os x y i hr hx hy => ?_⟩
      cases os with
      | nil => exact hr.elim
      | cons o os =>
        obtain ⟨h1, h2, h3, h4⟩ := hr
        have := hq e x o.key hx h1
        exact ⟨0, o, o.val, by simp [Instr.findNow, this], rfl, same_key hs this 9999, by simpa using ⟨hx, hy, h3, h4⟩⟩
    · rcases updK_ok hs hb with ⟨es', hk, hf⟩ | ⟨hn, hf⟩
      · refine .inl ⟨_, hk, fun e os x y i hr hx hy => ?_⟩
        cases os with
        | nil => exact hr.elim
        | cons o os =>
          obtain ⟨h1, h2, h3, h4⟩ := hr
          obtain ⟨j, m, u, g1, g2, g3, g4⟩ := hf e os x y (i + 1) h4 hx hy
          exact ⟨j + 1, m, u, by simp [Instr.findNow, hq e x o.key hx h1, g1]; omega, by simpa using g2, g3, by simpa using ⟨h1, h2, h3, g4⟩⟩
      · refine .inr ⟨hn, fun e os x i hr hx => ?_⟩
        cases os with
        | nil => exact hr.elim
        | cons o os =>
          obtain ⟨h1, h2, h3, h4⟩ := hr
          simp [Instr.findNow, hq e x o.key hx h1, hf e os x (i + 1) h4 hx]
theorem run_setObj {w : World} {r : Nat} {o o' : Obj} (h : w.heap[r]? = some o) (hc : ∀ a b c, o ≠ .cells a b c) : ∃ w', (setObj r o').run P w = .ok () w' ∧ Upd w w' r ∧ w'.heap[r]? = some o' := by
  have hlt : r < w.heap.size := by
    rcases Nat.lt_or_ge r w.heap.size with g | g
    · exact g
    · rw [Array.getElem?_eq_none g] at h; cases h
  refine ⟨{ w with heap := w.heap.setIfInBounds r o' }, ?_, ⟨rfl, rfl, rfl, by simp, fun c hc' => ?_⟩, by simp [hlt]⟩
  · simp only [setObj, Sem.run, h]
  · exact Array.getElem?_setIfInBounds_ne (by omega)
theorem eMap_ok {t : TypeId} {m kx x : Operand} (hk : eMap t m kx x P hd ih tm h nx k = true) : ∃ v h' nx', k v h' nx' = true ∧ ES P (.mapUpdate t m kx x) tm h nx v h' nx' ∧ ES P (.insert t m kx x) tm h nx v h' nx' := by
  obtain ⟨d, hd, hk⟩ := onS_ok hk
  obtain ⟨mv, hmv, hk⟩ := ev_ok hk
  obtain ⟨r, rfl, hk1⟩ := onMap_ok hk
  obtain ⟨kv, hkv, hk2⟩ := ev_ok hk1
  obtain ⟨hkt, hk3⟩ := gd_ok hk2
  obtain ⟨xv, hxv, hk4⟩ := ev_ok hk3
  obtain ⟨es, ck, hr, hk5⟩ := onMp_ok hk4
  obtain ⟨kt, et, kd, h1, h2, h3, h4, h5⟩ := mpOf_ok hd
  have hks := keyT_ok hkt h5
  -- one entry is written
  have key : ∀ (es' : List (V × V × Nat)) (ck' : Nat), (∀ n0 e w x y q, Sat n0 e h w → den e kv = some x → den e xv = some y → e r = some q →
      ∃ w', (Instr.mapUpdate t (.map (some q.blk)) x y).run P w = .ok () w' ∧ Stp n0 e h w nx e (h.put r (some (.map es' ck'))) w' nx) →
      ES P (.mapUpdate t m kx x) tm h nx V.un (h.put r (some (.map es' ck'))) nx ∧ ES P (.insert t m kx x) tm h nx V.un (h.put r (some (.map es' ck'))) nx := by
    intro es' ck' hh
    constructor <;>
    (refine ⟨Nat.le_refl _, fun n0 e a w u hu tr st fr ro K Q hK => ?_⟩
     obtain ⟨dd, ty, p, af, g, rfl⟩ := exec_eq hu
     obtain ⟨q, hq, hmx⟩ := den_map (hmv e a (tr _ (by simp [Op.operands])))
     obtain ⟨w', hrun, hst⟩ := hh n0 e w _ _ q st (hkv e a (tr _ (by simp [Op.operands]))) (hxv e a (tr _ (by simp [Op.operands]))) hq
     refine wpIn_skip' (w' := w') (fun c hh => (by cases hh)) ?_ (hK e _ w' den_un hst)
     simp [execOp, hmx, hrun])
  rcases updK_ok h5 hk5 with ⟨es', hk6, hf⟩ | ⟨hn, hf⟩
  · rw [T.putK_eq] at hk6
    refine ⟨_, _, _, hk6, key es' ck fun n0 e w x y q st hx hy hq => ?_⟩
    obtain ⟨os, ho, her⟩ := rd_map st.rd hr hq
    obtain ⟨j, mm, u, g1, g2, g3, g4⟩ := hf e os.toList x y 0 her hx hy
    have hck := run_checkKey (P := P) h2 hks hx false 9999 w
    obtain ⟨w', hs, hu, hw'⟩ := run_setObj (P := P) (o' := .map (os.modify j fun m => { m with key := x, val := y }) ck) ho (fun _ _ _ hh => (by cases hh))
    refine ⟨w', ?_, Stp.upd st hr hq hu ⟨_, hw', by simpa [Array.toList_modify] using g4⟩⟩
    have hj : os[j]? = some mm := by simpa using g2
    simp [Instr.mapUpdate, run_underlying h1, run_getObj (P := P) ho (fun _ _ _ hh => (by cases hh)), hck, Instr.findKey, run_underlying h2, g1, hj, Instr.keyThatStays, g3, hs]
  · rw [T.putK_eq] at hn
    refine ⟨_, _, _, hn, key _ _ fun n0 e w x y q st hx hy hq => ?_⟩
    obtain ⟨os, ho, her⟩ := rd_map st.rd hr hq
    have g1 := hf e os.toList x 0 her hx
    have hck := run_checkKey (P := P) h2 hks hx false 9999 w
    obtain ⟨w', hs, hu, hw'⟩ := run_setObj (P := P) (o' := .map (os.push { key := x, val := y, born := ck }) (ck + 1)) ho (fun _ _ _ hh => (by cases hh))
    refine ⟨w', ?_, Stp.upd st hr hq hu ⟨_, hw', by simpa using ER.push her (m := { key := x, val := y, born := ck }) hx hy rfl⟩⟩
    simp [Instr.mapUpdate, run_underlying h1, run_getObj (P := P) ho (fun _ _ _ hh => (by cases hh)), hck, Instr.findKey, run_underlying h2, g1, hs]
end
end Go.Sx
