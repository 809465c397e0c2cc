import Derived.Test.YteakajbedjdggaaGreatDoorSxJ
/-
  Rounds of a range over a function; calls; all operations with effects ('opE_ok').
-/
namespace Go.Sx
open Go Go.RowKit
section
variable {P : Program} {hd : Hand} {ih : Run}

theorem onLp_ok {o : Option B} {f : LP → Bool} (h : onLp o f = true) : ∃ p, o = some p.blk ∧ f p = true := by
  cases o with
  | none => exact absurd h Bool.false_ne_true
  | some x => cases x <;> first | exact absurd h Bool.false_ne_true | exact ⟨_, rfl, h⟩
theorem setPs_ok : ∀ {ps : List Tmp} {n : Nat} {args : List V} {t : T V} {k : T V → Bool}, setPs ps n args t k = true → ∃ t', k t' = true ∧ args.length = ps.length ∧ ∀ e (tmps : Array Value) vs, tmps.size = n → TmR e t tmps → denL e args = some vs →
    ((ps.zip vs).foldl (fun t p => t.setIfInBounds p.1 p.2) tmps).size = n ∧ TmR e t' ((ps.zip vs).foldl (fun t p => t.setIfInBounds p.1 p.2) tmps)
  | [], n, [], t, k, h => ⟨t, h, rfl, fun e tmps vs hs ht _ => ⟨by simpa using hs, by simpa using ht⟩⟩
  | [], _, _ :: _, _, _, h => absurd h Bool.false_ne_true
  | _ :: _, _, [], _, _, h => absurd h Bool.false_ne_true
  | p :: ps, n, v :: args, t, k, h => by
    have h : gd (Nat.blt p n) (t.putK (I.of p) (some v) fun t => setPs ps n args t k) = true := h
    obtain ⟨hp, h⟩ := gd_ok h
    rw [T.putK_eq] at h
    obtain ⟨t', hk, hl, hf⟩ := setPs_ok h
    refine ⟨t', hk, by simp [hl], fun e tmps vs hs ht hv => ?_⟩
    obtain ⟨x, l, h1, h2, rfl⟩ := denL_cons.1 hv
    have hp := blt_ok hp
    simpa using hf e (tmps.setIfInBounds p x) l (by simpa using hs) (ht.put (by omega) h1) h2
theorem lp_mem {n0 : Nat} {e : Env} {h : H} {w : World} (rd : Rd n0 e h w) {l : I} {p : LP} (hl : h.get l = some p.blk) {q : Loc} (hq : e l = some q) : ∃ d tmps fn', e p.df = some d ∧
    w.heap[q.blk]? = some (.loop { state := p.st, pending := p.pend, fn := fn', tmps, params := p.ps.toArray, assign := p.assign, body := p.body, defers := d.blk }) ∧ tmps.size = p.n ∧ TmR e p.tm tmps := by
  obtain ⟨q', hq', _, hb⟩ := rd l _ hl
  rw [hq] at hq'; cases hq'
  exact hb
/-- the record of a loop is set anew -/
theorem lp_set {n0 : Nat} {e : Env} {h : H} {w : World} (st : Sat n0 e h w) {l : I} {p : LP} (hl : h.get l = some p.blk) {q : Loc} (hq : e l = some q) (s : LoopState) (j : Option Code) (nx : I) :
    ∃ (r : Loop) (w' : World), w.heap[q.blk]? = some (.loop r) ∧ r.state = p.st ∧ r.pending = p.pend ∧ (setObj q.blk (.loop { r with state := s, pending := j })).run P w = .ok () w' ∧
      Stp n0 e h w nx e (h.put l (some (LP.blk { p with st := s, pend := j }))) w' nx := by
  obtain ⟨d, tmps, fn', h1, h2, h3, h4⟩ := lp_mem st.rd hl hq
  obtain ⟨w', hs, hu, hw⟩ := run_setObj (P := P) (o' := .loop { state := s, pending := j, fn := fn', tmps, params := p.ps.toArray, assign := p.assign, body := p.body, defers := d.blk }) h2 (fun _ _ _ hh => (by cases hh))
  exact ⟨_, w', h2, rfl, rfl, hs, Stp.upd st hl hq hu ⟨d, tmps, fn', h1, hw, h3, h4⟩⟩
theorem run_getLoop {w : World} {b : Nat} {r : Loop} (h : w.heap[b]? = some (.loop r)) : (Instr.getLoop b).run P w = .ok r w := by
  simp only [Instr.getLoop, Sem.run_bind, run_getObj (P := P) h (fun _ _ _ hh => (by cases hh)), Result.andThen_ok, Sem.run_pure]
theorem endRd_ok {l : I} {j : Option Code} {s : LoopState} {b : Bool} {h : H} {nx : I} {k : KC} (hk : endRd l j s b h nx k = true) (hs : s = if j.isNone then .ready else .done) (hb : b = j.isNone) :
    ∃ h', k (.bool b) h' nx = true ∧ ∀ n0 e w q, Sat n0 e h w → e l = some q → ∃ w', (Instr.endRound q.blk j).run P w = .ok (.bool b) w' ∧ Stp n0 e h w nx e h' w' nx := by
  obtain ⟨p, hp, hk⟩ := onLp_ok hk
  rw [T.putK_eq] at hk
  refine ⟨_, hk, fun n0 e w q st hq => ?_⟩
  obtain ⟨r, w', h1, _, _, h2, h3⟩ := lp_set (P := P) st hp hq s j nx
  refine ⟨w', ?_, h3⟩
  rw [hs] at h2
  simp only [Instr.endRound, Sem.run_bind, run_getLoop h1, Result.andThen_ok, h2, Sem.run_pure, hb]
theorem onNil_ok {α : Type} {l : List α} {b : Bool} (h : roundF.onNil l b = true) : l = [] ∧ b = true := by
  cases l with
  | nil => exact ⟨rfl, h⟩
  | cons => exact absurd h Bool.false_ne_true
theorem ls_ready {s : LoopState} (h : Nat.beq (lsNo s) 0 = true) : s = .ready := by
  cases s <;> first | rfl | exact absurd h (by decide)
theorem roundF_ok (hih : IH P ih) {l : I} {args : List V} {h : H} {nx : I} {k : KC} (hk : roundF l ih args h nx k = true) : ∃ v h' nx', k v h' nx' = true ∧ nx.nat ≤ nx'.nat ∧ ∀ n0 e w vs q ro (R : Ending → World → Prop), Sat n0 e h w → e l = some q →
    denL e args = some vs → Fresh nx nx' e → (∀ e' x w', den e' v = some x → Stp n0 e h w nx e' h' w' nx' → R (.returned x) w') → ∃ fn tmps as bd, (Instr.yield q.blk vs.toArray).run P w = .ok (.round q.blk fn tmps as bd) w ∧ RoundIn (FW ro) 0 P q.blk fn tmps as bd w R := by
  obtain ⟨p, hp, hk⟩ := onLp_ok hk
  obtain ⟨tm, hk, hlen, hps⟩ := setPs_ok hk
  obtain ⟨x1, tm1, h1, nx1, df1, ⟨hn1, hs1⟩, hk⟩ := hih _ _ _ _ _ _ _ hk
  have hx1 : x1 = .nrm := by cases x1 <;> first | rfl | exact absurd hk Bool.false_ne_true
  subst hx1
  obtain ⟨hdf1, hk⟩ := onNil_ok hk
  obtain ⟨p2, hp2, hk⟩ := onLp_ok hk
  obtain ⟨hst, hk⟩ := gd_ok hk
  have hst := ls_ready hst
  rw [T.putK_eq] at hk
  obtain ⟨x2, tm2, h2, nx2, df2, ⟨hn2, hs2⟩, hk⟩ := hih _ _ _ _ _ _ _ hk
  obtain ⟨hdf2, hk⟩ := onNil_ok hk
  -- the four ends
  have hend : ∃ (j : Option Code) (b : Bool) (h3 : H), k (.bool b) h3 nx2 = true ∧ (∀ n0 e w q, Sat n0 e h2 w → e l = some q → ∃ w', (Instr.endRound q.blk j).run P w = .ok (.bool b) w' ∧ Stp n0 e h2 w nx2 e h3 w' nx2) ∧
      (∀ (b : Nat) (R : Ending → World → Prop) (a : Act) (w : World), (∃ v w', (Instr.endRound b j).run P w = .ok v w' ∧ R (.returned v) w') → roundPost P b R x2.den a w) := by
    cases x2 with
    | nrm => obtain ⟨h3, g1, g2⟩ := endRd_ok (P := P) hk rfl rfl; exact ⟨_, _, h3, g1, g2, fun _ _ _ _ hh => hh⟩
    | exit i => obtain ⟨h3, g1, g2⟩ := endRd_ok (P := P) hk rfl rfl; exact ⟨_, _, h3, g1, g2, fun _ _ _ _ hh => hh⟩
    | goto i => obtain ⟨h3, g1, g2⟩ := endRd_ok (P := P) hk rfl rfl; exact ⟨_, _, h3, g1, g2, fun _ _ _ _ hh => hh⟩
    | ret => obtain ⟨h3, g1, g2⟩ := endRd_ok (P := P) hk rfl rfl; exact ⟨_, _, h3, g1, g2, fun _ _ _ _ hh => hh⟩
  obtain ⟨j, b, h3, hk, hend, hpost⟩ := hend
  refine ⟨_, h3, nx2, hk, Nat.le_trans hn1 hn2, fun n0 e w vs q ro R st hq hv fr hR => ?_⟩
  obtain ⟨d, tmps, fn', g1, g2, g3, g4⟩ := lp_mem st.rd hp hq
  have hvl := denL_len hv
  obtain ⟨hsz, htr⟩ := hps e tmps vs g3 g4 hv
  refine ⟨fn', ((p.ps.zip vs).foldl (fun t p => t.setIfInBounds p.1 p.2) tmps), p.assign, p.body, ?_, roundIn_of_wpIn (F := FW ro) (n := 0) trivial ?_⟩
  · have hne : ¬ vs.toArray.size ≠ p.ps.toArray.size := by simp; omega
    simp only [Instr.yield, Sem.run_bind, run_getLoop (P := P) g2, Result.andThen_ok, hne, if_false, Sem.run_pure]
    simp [List.zip_toArray]
  · refine wpc_in (ro := some q.blk) (hs1 n0 e ⟨_, []⟩ w (some q.blk) st ⟨hsz, htr, trivial⟩ ⟨q, hq, rfl⟩ (fr.left hn2) _ fun e1 a1 w1 st1 ar1 => ?_)
    have hq1 := st1.le _ _ hq
    obtain ⟨r, w2, k1, k2, k3, k4, k5⟩ := lp_set (P := P) st1.sat hp2 hq1 .busy p2.pend nx1
    refine ⟨w2, ?_, ?_⟩
    · rw [← k3] at k4
      simp only [Instr.beginRound, Sem.run_bind, run_getLoop (P := P) k1, Result.andThen_ok]
      have : ({ r with state := LoopState.busy } : Loop) = { r with state := .busy, pending := r.pending } := rfl
      rw [this, k4]
      simp only [Result.andThen_ok, k2, hst, Sem.run_pure]
    · refine wpc_in (ro := some q.blk) (hs2 n0 e1 a1 w2 (some q.blk) k5.sat (hdf1 ▸ ar1) ⟨q, hq1, rfl⟩ (st1.fresh fr) _ fun e2 a2 w3 st2 _ => ?_)
      obtain ⟨w4, m1, m2⟩ := hend n0 e2 w3 q st2.sat (st2.le _ _ hq1)
      exact hpost _ _ _ _ ⟨_, w4, m1, hR e2 _ w4 (den_bool' _ _) (((st1.trans k5).trans st2).trans m2)⟩

/-! calls -/
theorem exec_call {u : Oper} {f : Operand} {args : Array Operand} {ts : Array TypeId} (hu : u.op = .call ⟨.value f, args, ts⟩) (ρ : Operand → Value) {fn : Fn} {xs ys : Array Value} (hf : ρ f = .func fn xs ys) (w : World) :
    (execOp ρ u).run P w = (invoke (.fn fn ys) (xs ++ args.map ρ)).run P w := by
  obtain ⟨d, t, p, af, g, rfl⟩ := exec_eq hu
  simp only [execOp, resolve, hf, Deferred.ofValue, Sem.run_bind, Sem.run_pure, Result.andThen_ok]
theorem callF_ok (hih : IH P ih) (hho : HO P hd) {f : FuncId} {args : List V} {h : H} {nx : I} {k : KC} (hk : callF P hd f ih args h nx k = true) : ∃ v h' nx', SemF P f args h nx v h' nx' ∧ k v h' nx' = true ∧ ∃ fi, fiOf P f = some fi := by
  obtain ⟨fi, hfi, hk⟩ := onS_ok hk
  cases hh : hd f with
  | none =>
    rw [hh] at hk
    obtain ⟨v, h', nx', h1, h2⟩ := callB_ok hih hfi hk
    exact ⟨v, h', nx', h1, h2, fi, hfi⟩
  | some g =>
    rw [hh] at hk
    obtain ⟨v, h', nx', h1, h2⟩ := hho f g hh _ _ _ _ hk
    exact ⟨v, h', nx', h1, h2, fi, hfi⟩
theorem run_callFunc {f : FuncId} {fi : FI} (hfi : fiOf P f = some fi) (args : Array Value) (w : World) : (callFunc f args).run P w = .ok (.enter f args) w := by
  obtain ⟨fn, hfn, hname, hbody, _, _⟩ := fiOf_ok hfi
  simp [callFunc, hfn, hname, hbody]
theorem eVal_ok (hih : IH P ih) (hho : HO P hd) {f : Operand} {args : Array Operand} {ts : Array TypeId} {tm : T V} {h : H} {nx : I} {k : KC} (hk : eVal f args.toList ts.toList P hd ih tm h nx k = true) :
    ∃ v h' nx', k v h' nx' = true ∧ ES P (.call ⟨.value f, args, ts⟩) tm h nx v h' nx' := by
  obtain ⟨g, hg, hk⟩ := ev_ok hk
  obtain ⟨l, hl, hk⟩ := evL_ok hk
  cases g with
  | func g xs ys =>
    obtain ⟨v, h', nx', ⟨hnx, hs⟩, hk, fi, hfi⟩ := callF_ok hih hho hk
    refine ⟨v, h', nx', hk, hnx, fun n0 e a w u hu tr st fr ro K Q hK => ?_⟩
    obtain ⟨xv, yv, hx, hy, hgv⟩ := den_func (hg e a (tr _ (by simp [Op.operands, Call.operands])))
    have hlv := hl e a tr.args
    have hall := denL_append (denL_append hx hlv) hy
    refine ⟨fun _ _ => trivial, ?_⟩
    rw [Oper.semAt_eq _ _ _ (fun c hh => by rw [hu] at hh; cases hh), exec_call hu a.eval hgv w]
    have hinv : (invoke (.fn (.func g) yv.toArray) (xv.toArray ++ args.map a.eval)).run P w = .ok (.enter g ((xv.toArray ++ args.map a.eval) ++ yv.toArray)) w := by
      simp only [invoke, run_callFunc hfi]
    rw [hinv]
    refine ⟨fun hh => by simp [FW] at hh, (callsIn_fw _).2 ?_⟩
    have harr : (xv.toArray ++ args.map a.eval) ++ yv.toArray = ((xv ++ args.toList.map a.eval) ++ yv).toArray := by
      apply Array.ext'
      simp
    rw [harr]
    exact hs n0 e w _ st hall fr _ fun e' x w' hd hst => hK e' x w' hd hst
  | yld l' =>
    obtain ⟨v, h', nx', hk, hnx, hs⟩ := roundF_ok hih hk
    refine ⟨v, h', nx', hk, hnx, fun n0 e a w u hu tr st fr ro K Q hK => ?_⟩
    have hgv := hg e a (tr _ (by simp [Op.operands, Call.operands]))
    simp only [den, Option.map_eq_some_iff] at hgv
    obtain ⟨q, hq, hgv⟩ := hgv
    obtain ⟨fn, tmps, as, bd, hrun, hround⟩ := hs n0 e w _ q ro (fun en w' => match en with | .returned x => K (a.put u.dst x) w' | .panicked chain => Q (.panic chain) a w' | .outgrown => LetsOut Q) st hq (hl e a tr.args) fr fun e' x w' hd hst => hK e' x w' hd hst
    refine ⟨fun _ _ => trivial, ?_⟩
    rw [Oper.semAt_eq _ _ _ (fun c hh => by rw [hu] at hh; cases hh), exec_call hu a.eval hgv.symm w]
    have harr : (#[] ++ args.map a.eval : Array Value) = (args.toList.map a.eval).toArray := by
      apply Array.ext'
      simp
    rw [harr]
    simp only [invoke, hrun]
    refine ⟨fun hh => by simp [FW] at hh, RoundIn.mono hround fun en w' hh => ?_⟩
    cases en <;> exact hh
  | _ => exact absurd hk Bool.false_ne_true
/-- ALL OPERATIONS WITH EFFECTS -/
theorem opE_ok (hih : IH P ih) (hho : HO P hd) {o : Op} {tm : T V} {h : H} {nx : I} {k : KC} (hk : opE o P hd ih tm h nx k = true) : ∃ v h' nx', k v h' nx' = true ∧ ES P o tm h nx v h' nx' := by
  cases o <;> first | exact absurd hk Bool.false_ne_true | skip
  case insert => obtain ⟨v, h', nx', h1, _, h2⟩ := eMap_ok (hd := hd) (ih := ih) hk; exact ⟨v, h', nx', h1, h2⟩
  case store => exact eStore_ok (hd := hd) (ih := ih) hk
  case mapUpdate => obtain ⟨v, h', nx', h1, h2, _⟩ := eMap_ok (hd := hd) (ih := ih) hk; exact ⟨v, h', nx', h1, h2⟩
  case call c =>
    obtain ⟨cal, args, ts⟩ := c
    cases cal with
    | value f => exact eVal_ok hih hho hk
    | invoke => exact absurd hk Bool.false_ne_true
    | builtin b => cases b <;> first | exact absurd hk Bool.false_ne_true | exact eApp_ok (hd := hd) (ih := ih) hk | exact eCopy_ok (hd := hd) (ih := ih) hk | exact eClear_ok (hd := hd) (ih := ih) hk
end
end Go.Sx
