import Derived.Test.YteakajbedjdggaaGreatDoorSxQ
/-
  Code: the executor's meaning, form by form; 'ex_ok' by induction on the fuel.
-/
noncomputable section
namespace Go.Sx
open Go Go.RowKit

/-! code (the executor's last part) -/
def onFnV (v : V) : (FuncId → List V → List V → Bool) → Bool :=
  V.rec (motive_1 := fun _ => (FuncId → List V → List V → Bool) → Bool) (motive_2 := fun _ => PUnit)
    (fun _ _ => false) (fun _ _ _ => false) (fun _ _ => false) (fun _ _ _ => false) (fun _ => false) (fun _ _ _ _ _ _ => false) (fun _ => false) (fun _ _ _ _ => false)
    (fun _ _ => false) (fun _ => false) (fun f a c _ _ k => k f a c) (fun _ _ => false) (fun _ => false) (fun _ => false) (fun _ _ _ => false) (fun _ _ _ => false)
    ⟨⟩ (fun _ _ _ _ => ⟨⟩) v
def rfGo' (f : Operand) (ps : Array Tmp) (assign body : Code) (d : I) (df : List I) : CK := fun P hd ih cx tm h nx _ k => ev f tm fun g =>
  h.putK nx (some (.loop .ready none cx.fn cx.n tm ps.toList assign body d)) fun h => onFnV g fun g a c => callF P hd g ih (a ++ [.yld nx] ++ c) h nx.inc fun _ h nx' => onLp (h.get nx) fun p => br (Nat.beq (lsNo p.st) 1) false
    (h.putK nx (some (LP.blk { p with st := .exhausted })) fun h => jumpK p.pend k tm h nx' df)
def cRf' (f : Operand) (ps : Array Tmp) (assign body : Code) : CK := fun P hd ih cx tm h nx df k => onO cx.rd
  (h.putK nx (some .defd) fun h => rfGo' f ps assign body nx (nx :: df) P hd ih cx tm h nx.inc df k)
  fun l => onLp (h.get l) fun p => rfGo' f ps assign body p.df df P hd ih cx tm h nx df k
def stepC' (c : Code) : CK :=
  Code.rec (motive := fun _ => CK) cSkip (fun _ ops d => cReg ops d) (fun a b _ _ => cSeq a b) (fun c a b _ _ => cCond c a b) (fun id b _ => cBlock id b) (fun b _ => cLoop b) (fun f ps a b _ _ => cRf' f ps a b)
    (fun i _ _ _ _ tm h nx df k => k (.exit i) tm h nx df) (fun b _ => cScope b) (fun _ => cSkip) (fun l _ _ _ _ tm h nx df k => k (.goto l) tm h nx df) (fun _ _ _ _ tm h nx df k => k .ret tm h nx df) (fun _ _ _ _ _ _ _ _ _ _ => false) c
def run (P : Program) (hd : Hand) (n : Nat) : Run := Nat.rec (motive := fun _ => Run) (fun _ _ _ _ _ _ _ => false) (fun _ ih cx c => stepC' c P hd ih cx) n

section
variable {P : Program} {hd : Hand} {ih : Run}

theorem onFnV_ok {v : V} {f : FuncId → List V → List V → Bool} (h : onFnV v f = true) : ∃ g a c, v = .func g a c ∧ f g a c = true := by
  cases v <;> first | exact absurd h Bool.false_ne_true | exact ⟨_, _, _, rfl, h⟩
/-! machine rules that lacked -/
theorem loop_ok {ro : Option Nat} {b : Code} {Q : Exit → Act → World → Prop} {a : Act} {w : World} (h : b.wpIn (FW ro) 0 P (Exit.then (LoopWP ro P b Q) Q) a w) : LoopWP ro P b Q a w := by
  intro f k cs hro
  obtain ⟨e, a₁, w₁, hq, harr⟩ := h f (.inLoop b :: k) cs hro trivial (fw_room ro _)
  cases e with
  | normal =>
    obtain ⟨e₂, a₂, w₂, hq₂, harr₂⟩ := hq f k cs hro
    exact ⟨e₂, a₂, w₂, hq₂, .of_steps (StepsIn.trans harr (.one fw_calm stepR_inLoop)) harr₂⟩
  | exit id => exact ⟨_, a₁, w₁, hq, .pass (x := .inLoop b) rfl (fun _ _ => .inl (by simp)) harr⟩
  | goto l => exact ⟨_, a₁, w₁, hq, .pass (x := .inLoop b) rfl (fun _ _ => .inl (by simp)) harr⟩
  | ret => exact ⟨_, a₁, w₁, hq, .pass (x := .inLoop b) rfl (fun _ _ => .inl (by simp)) harr⟩
  | panic ch => exact ⟨_, a₁, w₁, hq, .pass (x := .inLoop b) rfl (fun _ _ => .inl (by simp)) harr⟩
  | outgrown => exact ⟨_, a₁, w₁, hq, .pass (x := .inLoop b) rfl (fun _ _ => .inl (by simp)) harr⟩
theorem stepR_scope {b : Frame} {a : Act} {k : List Item} {cs : List Frame} {w : World} {c : Code} : step P (lone (b.atR a (.code (.scope c) :: k)) cs w) = .next (lone (b.atR a (.code c :: .inScope c :: k)) cs w) :=
  step_lone_go (by simp [stepG, stepG.exec, Frame.atR])
theorem stepR_inScope {b : Frame} {a : Act} {k : List Item} {cs : List Frame} {w : World} {c : Code} : step P (lone (b.atR a (.inScope c :: k)) cs w) = .next (lone (b.atR a k) cs w) :=
  step_lone_go (by simp [stepG, stepG.exec, Frame.atR])
def noGoto (Q : Exit → Act → World → Prop) : Exit → Act → World → Prop
  | .goto _, _, _ => False
  | e, a, w => Q e a w
def inSc (ro : Option Nat) (P : Program) (c : Code) (Q : Exit → Act → World → Prop) : Exit → Act → World → Prop
  | .goto l, a, w => match findLabel c l with
    | some rest => rest.wpIn (FW ro) 0 P (noGoto Q) a w
    | none => Q (.goto l) a w
  | e, a, w => Q e a w
theorem scope_ok {ro : Option Nat} {c : Code} {Q : Exit → Act → World → Prop} {a : Act} {w : World} (h : c.wpIn (FW ro) 0 P (inSc ro P c Q) a w) : (Code.scope c).wpIn (FW ro) 0 P Q a w := by
  intro f k cs hro _ _
  obtain ⟨e, a₁, w₁, hq, harr⟩ := h f (.inScope c :: k) cs hro trivial (fw_room ro _)
  have hx : ∀ id, exitTo id (.inScope c :: k) = exitTo id k := fun id => by simp [exitTo]
  cases e with
  | normal => exact ⟨.normal, a₁, w₁, hq, .head fw_calm stepR_scope (StepsIn.trans harr (.one fw_calm stepR_inScope))⟩
  | exit id => exact ⟨.exit id, a₁, w₁, hq, fun k' hk => .head fw_calm stepR_scope (harr.1 k' (by rw [hx]; exact hk)),
        fun hr' hk => let ⟨k₁, h1, h2⟩ := harr.2 hr' (by rw [hx]; exact hk); ⟨k₁, h1, .head fw_calm stepR_scope h2⟩⟩
  | goto l =>
    cases hf : findLabel c l with
    | none =>
      have hx : gotoIn l (.inScope c :: k) = gotoIn l k := by simp [gotoIn, hf]
      have hq' : Q (.goto l) a₁ w₁ := by simp only [inSc, hf] at hq; exact hq
      exact ⟨_, a₁, w₁, hq', fun k' hk => .head fw_calm stepR_scope (harr.1 k' (by rw [hx]; exact hk)),
        fun hr' hk => let ⟨k₁, h1, h2⟩ := harr.2 hr' (by rw [hx]; exact hk); ⟨k₁, h1, .head fw_calm stepR_scope h2⟩⟩
    | some rest =>
      have hg : gotoIn l (.inScope c :: k) = some (.code rest :: .inScope c :: k) := by simp [gotoIn, hf]
      have hq' : rest.wpIn (FW ro) 0 P (noGoto Q) a₁ w₁ := by simp only [inSc, hf] at hq; exact hq
      have s1 := StepsIn.head (fw_calm (ro := ro)) stepR_scope (harr.1 _ hg)
      obtain ⟨e₂, a₂, w₂, hq₂, harr₂⟩ := hq' f (.inScope c :: k) cs hro trivial (fw_room ro _)
      cases e₂ with
      | normal => exact ⟨.normal, a₂, w₂, hq₂, s1.trans (StepsIn.trans harr₂ (.one fw_calm stepR_inScope))⟩
      | exit id => exact ⟨.exit id, a₂, w₂, hq₂, fun k' hk => s1.trans (harr₂.1 k' (by rw [hx]; exact hk)),
            fun hr' hk => let ⟨k₁, h1, h2⟩ := harr₂.2 hr' (by rw [hx]; exact hk); ⟨k₁, h1, s1.trans h2⟩⟩
      | goto l => exact hq₂.elim
      | ret => exact ⟨_, a₂, w₂, hq₂, .of_steps s1 harr₂⟩
      | panic ch => exact ⟨_, a₂, w₂, hq₂, .of_steps s1 harr₂⟩
      | outgrown => exact ⟨_, a₂, w₂, hq₂, .of_steps s1 harr₂⟩
  | ret => exact ⟨_, a₁, w₁, hq, .of_steps (.one fw_calm stepR_scope) harr⟩
  | panic ch => exact ⟨_, a₁, w₁, hq, .of_steps (.one fw_calm stepR_scope) harr⟩
  | outgrown => exact ⟨_, a₁, w₁, hq, .of_steps (.one fw_calm stepR_scope) harr⟩

/-! forms -/
def Ok (P : Program) (cx : Cx) (c : Code) (tm : T V) (h : H) (nx : I) (df : List I) (k : KS) : Prop := ∃ x tm' h' nx' df', SemC P cx c tm h nx df x tm' h' nx' df' ∧ k x tm' h' nx' df' = true
variable {cx : Cx} {tm : T V} {h : H} {nx : I} {df : List I} {k : KS}
theorem here {c : Code} {x : X} (hk : k x tm h nx df = true) (hw : ∀ (ro : Option Nat) (Q : Exit → Act → World → Prop) (a : Act) (w : World), Q x.den a w → WPc ro P c Q a w) : Ok P cx c tm h nx df k :=
  ⟨x, tm, h, nx, df, ⟨Nat.le_refl _, fun _n0 e a w ro st ar _ _ Q hQ => hw ro Q a w (hQ e a w (Stp.refl st) ar)⟩, hk⟩
theorem cReg_ok (hih : IH P ih) (hho : HO P hd) {id : Nat} {ops : Array Oper} {d : Bool} (hk : cReg ops d P hd ih cx tm h nx df k = true) : Ok P cx (.region id ops d) tm h nx df k := by
  obtain ⟨hdst, hk⟩ := gd_ok hk
  rcases br_cases hk with ⟨hd', hk⟩ | ⟨hd', hk⟩
  · subst hd'
    obtain ⟨tm', h', nx', hK, hn, hs⟩ := drawR_ok hih hho hdst hk
    exact ⟨.nrm, tm', h', nx', df, ⟨hn, fun n0 e a w ro st ar _ fr Q hQ => hs n0 e a w ro df st ar fr Q hQ id⟩, hK⟩
  · subst hd'
    obtain ⟨tm', h', nx', hK, hn, hs⟩ := seqO_ok hih hho hdst ops.toList 0 (fun j => by simp) hk
    refine ⟨.nrm, tm', h', nx', df, ⟨hn, fun n0 e a w ro st ar _ fr Q hQ => wpIn_region ?_⟩, hK⟩
    have := hs n0 e a w ro df st ar fr Q hQ
    rw [List.range_eq_range']
    simpa using this
theorem cSeq_ok (hih : IH P ih) {x y : Code} (hk : cSeq x y P hd ih cx tm h nx df k = true) : Ok P cx (.seq x y) tm h nx df k := by
  obtain ⟨x1, tm1, h1, nx1, df1, ⟨hn1, hs1⟩, hk⟩ := hih _ _ _ _ _ _ _ hk
  have early : ∀ z : X, z = x1 → z ≠ .nrm → k z tm1 h1 nx1 df1 = true → Ok P cx (.seq x y) tm h nx df k := fun z hz hne hkz => by
    subst hz
    refine ⟨z, tm1, h1, nx1, df1, ⟨hn1, fun n0 e a w ro st ar rd fr Q hQ => ?_⟩, hkz⟩
    refine wpIn_seq (wpc_in (hs1 n0 e a w ro st ar rd fr _ fun e1 a1 w1 st1 ar1 => ?_))
    have := hQ e1 a1 w1 st1 ar1
    cases z <;> first | exact absurd rfl hne | exact this
  cases x1 with
  | nrm =>
    obtain ⟨x2, tm2, h2, nx2, df2, ⟨hn2, hs2⟩, hk⟩ := hih _ _ _ _ _ _ _ hk
    refine ⟨x2, tm2, h2, nx2, df2, ⟨Nat.le_trans hn1 hn2, fun n0 e a w ro st ar rd fr Q hQ => ?_⟩, hk⟩
    refine wpIn_seq (wpc_in (hs1 n0 e a w ro st ar rd (fr.left hn2) _ fun e1 a1 w1 st1 ar1 => ?_))
    exact wpc_in (hs2 n0 e1 a1 w1 ro st1.sat ar1 (rd.mono st1.le) (st1.fresh fr) Q fun e2 a2 w2 st2 ar2 => hQ e2 a2 w2 (st1.trans st2) ar2)
  | exit i => exact early _ rfl (fun hh => (by cases hh)) hk
  | goto i => exact early _ rfl (fun hh => (by cases hh)) hk
  | ret => exact early _ rfl (fun hh => (by cases hh)) hk
theorem cCond_ok (hih : IH P ih) {c : Operand} {x y : Code} (hk : cCond c x y P hd ih cx tm h nx df k = true) : Ok P cx (.cond c x y) tm h nx df k := by
  obtain ⟨v, hv, hk⟩ := ev_ok hk
  obtain ⟨t, rfl, hk⟩ := onBool_val hk
  have hc : ∀ e a, AR e cx.n tm df a → a.eval c = .bool t := fun e a ar => by
    have := hv e a (fun j _ => ar.tm j)
    simp only [den, Option.some.injEq] at this
    exact this.symm
  rcases br_cases hk with ⟨ht, hk⟩ | ⟨ht, hk⟩
  · subst ht
    obtain ⟨x1, tm1, h1, nx1, df1, ⟨hn1, hs1⟩, hk⟩ := hih _ _ _ _ _ _ _ hk
    exact ⟨x1, tm1, h1, nx1, df1, ⟨hn1, fun n0 e a w ro st ar rd fr Q hQ => wpIn_cond_true (hc e a ar) (wpc_in (hs1 n0 e a w ro st ar rd fr Q hQ))⟩, hk⟩
  · subst ht
    obtain ⟨x1, tm1, h1, nx1, df1, ⟨hn1, hs1⟩, hk⟩ := hih _ _ _ _ _ _ _ hk
    exact ⟨x1, tm1, h1, nx1, df1, ⟨hn1, fun n0 e a w ro st ar rd fr Q hQ => wpIn_cond_false (hc e a ar) (wpc_in (hs1 n0 e a w ro st ar rd fr Q hQ))⟩, hk⟩
theorem cBlock_ok (hih : IH P ih) {id : Nat} {b : Code} (hk : cBlock id b P hd ih cx tm h nx df k = true) : Ok P cx (.block id b) tm h nx df k := by
  obtain ⟨x1, tm1, h1, nx1, df1, ⟨hn1, hs1⟩, hk⟩ := hih _ _ _ _ _ _ _ hk
  have go : ∀ z : X, k z tm1 h1 nx1 df1 = true → (∀ (Q : Exit → Act → World → Prop) a w, Q z.den a w → Exit.inBlock id Q x1.den a w) → Ok P cx (.block id b) tm h nx df k := fun z hk hz =>
    ⟨z, tm1, h1, nx1, df1, ⟨hn1, fun n0 e a w ro st ar rd fr Q hQ => wpIn_block (wpc_in (hs1 n0 e a w ro st ar rd fr _ fun e1 a1 w1 st1 ar1 => hz Q a1 w1 (hQ e1 a1 w1 st1 ar1)))⟩, hk⟩
  cases x1 with
  | nrm => exact go .nrm hk fun Q a w h => h
  | exit i =>
    rcases br_cases hk with ⟨ht, hk⟩ | ⟨ht, hk⟩
    · have hi := Nat.eq_of_beq_eq_true ht
      exact go .nrm hk fun Q a w h => by simp only [X.den, Exit.inBlock, hi, if_true]; exact h
    · have hi := Nat.ne_of_beq_eq_false ht
      exact go (.exit i) hk fun Q a w h => by simp only [X.den, Exit.inBlock, hi, if_false]; exact h
  | goto i => exact go (.goto i) hk fun Q a w h => h
  | ret => exact go .ret hk fun Q a w h => h
theorem cLoop_ok (hih : IH P ih) {b : Code} (hk : cLoop b P hd ih cx tm h nx df k = true) : Ok P cx (.loop b) tm h nx df k := by
  obtain ⟨x1, tm1, h1, nx1, df1, ⟨hn1, hs1⟩, hk⟩ := hih _ _ _ _ _ _ _ hk
  have early : ∀ z : X, z = x1 → z ≠ .nrm → k z tm1 h1 nx1 df1 = true → Ok P cx (.loop b) tm h nx df k := fun z hz hne hkz => by
    subst hz
    refine ⟨z, tm1, h1, nx1, df1, ⟨hn1, fun n0 e a w ro st ar rd fr Q hQ => ?_⟩, hkz⟩
    refine loop_ok (wpc_in (hs1 n0 e a w ro st ar rd fr _ fun e1 a1 w1 st1 ar1 => ?_))
    have := hQ e1 a1 w1 st1 ar1
    cases z <;> first | exact absurd rfl hne | exact this
  cases x1 with
  | nrm =>
    obtain ⟨x2, tm2, h2, nx2, df2, ⟨hn2, hs2⟩, hk⟩ := hih _ _ _ _ _ _ _ hk
    refine ⟨x2, tm2, h2, nx2, df2, ⟨Nat.le_trans hn1 hn2, fun n0 e a w ro st ar rd fr Q hQ => ?_⟩, hk⟩
    refine loop_ok (wpc_in (hs1 n0 e a w ro st ar rd (fr.left hn2) _ fun e1 a1 w1 st1 ar1 => ?_))
    exact hs2 n0 e1 a1 w1 ro st1.sat ar1 (rd.mono st1.le) (st1.fresh fr) Q fun e2 a2 w2 st2 ar2 => hQ e2 a2 w2 (st1.trans st2) ar2
  | exit i => exact early _ rfl (fun hh => (by cases hh)) hk
  | goto i => exact early _ rfl (fun hh => (by cases hh)) hk
  | ret => exact early _ rfl (fun hh => (by cases hh)) hk
theorem cScope_ok (hih : IH P ih) {b : Code} (hk : cScope b P hd ih cx tm h nx df k = true) : Ok P cx (.scope b) tm h nx df k := by
  obtain ⟨x1, tm1, h1, nx1, df1, ⟨hn1, hs1⟩, hk⟩ := hih _ _ _ _ _ _ _ hk
  have go : ∀ z : X, k z tm1 h1 nx1 df1 = true → (∀ (ro : Option Nat) (Q : Exit → Act → World → Prop) a w, Q z.den a w → inSc ro P b Q x1.den a w) → Ok P cx (.scope b) tm h nx df k := fun z hk hz =>
    ⟨z, tm1, h1, nx1, df1, ⟨hn1, fun n0 e a w ro st ar rd fr Q hQ => scope_ok (wpc_in (hs1 n0 e a w ro st ar rd fr _ fun e1 a1 w1 st1 ar1 => hz ro Q a1 w1 (hQ e1 a1 w1 st1 ar1)))⟩, hk⟩
  cases x1 with
  | nrm => exact go .nrm hk fun ro Q a w h => h
  | exit i => exact go (.exit i) hk fun ro Q a w h => h
  | ret => exact go .ret hk fun ro Q a w h => h
  | goto l =>
    have hk : onO (findLabel b l) (k (.goto l) tm1 h1 nx1 df1) (fun rest => ih cx rest tm1 h1 nx1 df1 fun x tm h nx df =>
      X.rec (motive := fun _ => Bool) (k .nrm tm h nx df) (fun i => k (.exit i) tm h nx df) (fun _ => false) (k .ret tm h nx df) x) = true := hk
    cases hf : findLabel b l with
    | none =>
      rw [hf] at hk
      exact go (.goto l) hk fun ro Q a w h => by simp only [X.den, inSc, hf]; exact h
    | some rest =>
      rw [hf] at hk
      obtain ⟨x2, tm2, h2, nx2, df2, ⟨hn2, hs2⟩, hk⟩ := hih _ _ _ _ _ _ _ hk
      have fin : ∀ z : X, z = x2 → (∀ l, z ≠ .goto l) → k z tm2 h2 nx2 df2 = true → Ok P cx (.scope b) tm h nx df k := fun z hz hne hkz => by
        subst hz
        refine ⟨z, tm2, h2, nx2, df2, ⟨Nat.le_trans hn1 hn2, fun n0 e a w ro st ar rd fr Q hQ => ?_⟩, hkz⟩
        refine scope_ok (wpc_in (hs1 n0 e a w ro st ar rd (fr.left hn2) _ fun e1 a1 w1 st1 ar1 => ?_))
        simp only [X.den, inSc, hf]
        refine wpc_in (hs2 n0 e1 a1 w1 ro st1.sat ar1 (rd.mono st1.le) (st1.fresh fr) _ fun e2 a2 w2 st2 ar2 => ?_)
        have := hQ e2 a2 w2 (st1.trans st2) ar2
        cases z <;> first | exact absurd rfl (hne _) | exact this
      cases x2 with
      | nrm => exact fin _ rfl (fun l hh => (by cases hh)) hk
      | exit i => exact fin _ rfl (fun l hh => (by cases hh)) hk
      | ret => exact fin _ rfl (fun l hh => (by cases hh)) hk
      | goto i => exact absurd hk Bool.false_ne_true
theorem jumpK_ok {j : Option Code} {k : KS} (hk : jumpK j k tm h nx df = true) : ∃ x : X, k x tm h nx df = true ∧ ∀ (ro : Option Nat) (Q : Exit → Act → World → Prop) (a : Act) (w : World), Q x.den a w →
    (match (generalizing := false) j with | none => Q .normal a w | some c => c.wpIn (FW ro) 0 P Q a w) := by
  cases j with
  | none => exact ⟨.nrm, hk, fun ro Q a w h => h⟩
  | some c =>
    cases c <;> first
      | exact absurd hk Bool.false_ne_true
      | exact ⟨.exit _, hk, fun ro Q a w h => wpIn_exit h⟩
      | exact ⟨.goto _, hk, fun ro Q a w h => wpIn_goto h⟩
      | exact ⟨.ret, hk, fun ro Q a w h => wpIn_ret h⟩
theorem ls_busy {s : LoopState} (h : Nat.beq (lsNo s) 1 = false) : (s == LoopState.busy) = false := by
  cases s <;> first | rfl | exact absurd h (by decide)
/-- what the statement does once its record lies -/
theorem rfGo_ok (hih : IH P ih) (hho : HO P hd) {f : Operand} {ps : Array Tmp} {assign body : Code} {d : I} {dfN df0 : List I} (hk : rfGo' f ps assign body d dfN P hd ih cx tm h nx df0 k = true) :
    ∃ x h' nx', k x tm h' nx' dfN = true ∧ nx.nat ≤ nx'.nat ∧ nx.nat + 1 ≤ nx'.nat ∧ ∀ n0 e (a : Act) w ro (dq : Loc) (mark : List Deferred), Sat n0 e h w → AR e cx.n tm dfN { a with defers := mark ++ a.defers } → Fresh nx nx' e → e d = some dq → ∀ (Q : Exit → Act → World → Prop),
      (∀ e' a' w', Stp n0 e h w nx e' h' w' nx' → AR e' cx.n tm dfN a' → Q x.den a' w') →
      ∀ fn, ∃ (w₁ : World) (dd : Deferred) (w₁' : World) (g : FuncId) (args : Array Value) (w₂ : World),
        w₁ = w.alloc (.loop { state := .ready, pending := none, fn, tmps := a.tmps, params := ps, assign, body, defers := dq.blk }) ∧
        (resolve a.eval (rangeCall f w.heap.size) 0).run P w₁ = .ok dd w₁' ∧ (invoke dd.target dd.args).run P w₁' = .ok (.enter g args) w₂ ∧
        CallsIn (FW ro) (0 - 1) P g args w₂ (rangePost (FW ro) 0 P w.heap.size Q { a with defers := mark ++ a.defers }) := by
  obtain ⟨g, hg, hk⟩ := ev_ok hk
  rw [T.putK_eq] at hk
  obtain ⟨g, xs, ys, rfl, hk⟩ := onFnV_ok hk
  obtain ⟨v, h2, nx2, ⟨hn, hs⟩, hk, fi, hfi⟩ := callF_ok hih hho hk
  obtain ⟨p, hp, hk⟩ := onLp_ok hk
  rcases br_cases hk with ⟨_, hk⟩ | ⟨hst, hk⟩
  · exact absurd hk Bool.false_ne_true
  rw [T.putK_eq] at hk
  obtain ⟨x, hk, hx⟩ := jumpK_ok (P := P) hk
  rw [I.nat_inc] at hn
  refine ⟨x, _, nx2, hk, by omega, hn, fun n0 e a w ro dq mark st ar fr hdq Q hQ fn => ?_⟩
  have hnone : e nx = none := fr nx (Nat.le_refl _) (by omega)
  have hev := hg e a (fun j _ => ar.tm j)
  obtain ⟨xv, yv, hxv, hyv, hgv⟩ := den_func hev
  let q : Loc := ⟨w.heap.size, 0⟩
  have hle := Env.le_upd (q := q) hnone
  let w1 := w.alloc (.loop { state := .ready, pending := none, fn, tmps := a.tmps, params := ps, assign, body, defers := dq.blk })
  have st1 : Stp n0 e h w nx (Env.upd e nx q) (h.put nx (some (.loop .ready none cx.fn cx.n tm ps.toList assign body d))) w1 nx.inc := by
    refine Stp.new st hnone (New.alloc w _) rfl ⟨dq, a.tmps, fn, hle _ _ hdq, ?_, ar.size, ar.tm.mono hle⟩
    show w1.heap[w.heap.size]? = _
    exact heap_new _ _
  refine ⟨w1, { target := .fn (.func g) yv.toArray, args := xv.toArray ++ #[Value.func (.yield w.heap.size) #[] #[]] }, w1, g, (xv.toArray ++ #[Value.func (.yield w.heap.size) #[] #[]]) ++ yv.toArray, w1, rfl, ?_, ?_, (callsIn_fw _).2 ?_⟩
  · simp only [resolve, hgv, Deferred.ofValue, Sem.run_pure]
    simp [Act.eval]
  · simp only [invoke, run_callFunc hfi]
  · have hall := denL_append (denL_append (denL_mono hle _ _ hxv) (show denL (Env.upd e nx q) [.yld nx] = some [Value.func (.yield w.heap.size) #[] #[]] by
      simp [denL, den, Env.upd_same, q])) (denL_mono hle _ _ hyv)
    have harr : (xv.toArray ++ #[Value.func (.yield w.heap.size) #[] #[]]) ++ yv.toArray = ((xv ++ [Value.func (.yield w.heap.size) #[] #[]]) ++ yv).toArray := by
      apply Array.ext'
      simp
    rw [harr]
    refine hs n0 _ w1 _ st1.sat hall (st1.fresh fr) _ fun e2 y w2 _ st2 => ?_
    have hq2 : e2 nx = some q := st2.le _ _ (Env.upd_same _ _ _)
    obtain ⟨r, w3, k1, k2, k3, k4, k5⟩ := lp_set (P := P) st2.sat hp hq2 .exhausted p.pend nx2
    refine ⟨p.pend, w3, ?_, hx ro Q _ w3 (hQ e2 _ w3 ((st1.trans st2).trans k5) (ar.mono (st1.trans st2).le))⟩
    have hb := ls_busy hst
    rw [← k2] at hb
    rw [← k3] at k4
    have hr : ({ r with state := LoopState.exhausted } : Loop) = { r with state := .exhausted, pending := r.pending } := rfl
    show (Instr.endLoop q.blk).run P w2 = _
    simp only [Instr.endLoop, Sem.run_bind, run_getLoop (P := P) k1, Result.andThen_ok, hb, Bool.false_eq_true, if_false, Sem.run_pure]
    rw [hr, k4]
    simp only [Result.andThen_ok, k3]
theorem cRf_ok (hih : IH P ih) (hho : HO P hd) {f : Operand} {ps : Array Tmp} {assign body : Code} (hk : cRf' f ps assign body P hd ih cx tm h nx df k = true) : Ok P cx (.rangeFunc f ps assign body) tm h nx df k := by
  have hk : onO cx.rd (h.putK nx (some .defd) fun h => rfGo' f ps assign body nx (nx :: df) P hd ih cx tm h nx.inc df k) (fun l => onLp (h.get l) fun p => rfGo' f ps assign body p.df df P hd ih cx tm h nx df k) = true := hk
  cases hrd : cx.rd with
  | none =>
    rw [hrd] at hk
    have hk : h.putK nx (some .defd) (fun h => rfGo' f ps assign body nx (nx :: df) P hd ih cx tm h nx.inc df k) = true := hk
    rw [T.putK_eq] at hk
    obtain ⟨x, h', nx', hk, hn, hn1, hs⟩ := rfGo_ok hih hho hk
    rw [I.nat_inc] at hn hn1
    refine ⟨x, tm, h', nx', nx :: df, ⟨by omega, fun n0 e a w ro st ar rd fr Q hQ => wpIn_rangeFunc fun fn _ => ?_⟩, hk⟩
    have hro : ro = none := by
      cases ro with
      | none => rfl
      | some r => rw [hrd] at rd; exact rd.elim
    subst hro
    have hnone : e nx = none := fr nx (Nat.le_refl _) (by omega)
    let q : Loc := ⟨w.heap.size, 0⟩
    let w0 := w.alloc (.deferred (some []))
    have hle := Env.le_upd (q := q) hnone
    have st1 : Stp n0 e h w nx (Env.upd e nx q) (h.put nx (some .defd)) w0 nx.inc := by
      refine Stp.new st hnone (New.alloc w _) rfl ?_
      show w0.heap[w.heap.size]? = _
      exact heap_new _ _
    obtain ⟨w1, dd, w1', g, args, w2, h1, h2, h3, h4⟩ := hs n0 _ a w0 none q [{ target := .collected w.heap.size, args := #[] }] st1.sat ⟨ar.size, ar.tm.mono hle, ⟨⟨q, Env.upd_same _ _ _, rfl⟩, DfR.mono hle ar.df⟩⟩ (st1.fresh fr) (Env.upd_same _ _ _) Q
      (fun e' a' w' st' ar' => hQ e' a' w' (st1.trans st') ar') fn
    refine ⟨w0.heap.size, _, w1, dd, w1', g, args, w2, ?_, h2, fun _ _ => trivial, h3, fun hh => by simp [FW] at hh, h4⟩
    rw [h1]
    simp only [Instr.enterLoop, FW, Sem.run_bind, run_newObj, Result.andThen_ok, Sem.run_pure]
    rfl
  | some l =>
    rw [hrd] at hk
    obtain ⟨p, hp, hk⟩ := onLp_ok hk
    obtain ⟨x, h', nx', hk, hn, hn1, hs⟩ := rfGo_ok hih hho hk
    refine ⟨x, tm, h', nx', df, ⟨by omega, fun n0 e a w ro st ar rd fr Q hQ => wpIn_rangeFunc fun fn _ => ?_⟩, hk⟩
    have hro : ∃ r, ro = some r ∧ ∃ q, e l = some q ∧ q.blk = r := by
      cases ro with
      | none => rw [hrd] at rd; exact rd.elim
      | some r => rw [hrd] at rd; exact ⟨r, rfl, rd⟩
    obtain ⟨r, rfl, q, hq, rfl⟩ := hro
    obtain ⟨d, tmps, fn', g1, g2, g3, g4⟩ := lp_mem st.rd hp hq
    obtain ⟨w1, dd, w1', g, args, w2, h1, h2, h3, h4⟩ := hs n0 e a w (some q.blk) d [] st ar fr g1 Q hQ fn
    refine ⟨w.heap.size, [], w1, dd, w1', g, args, w2, ?_, h2, fun _ _ => trivial, h3, fun hh => by simp [FW] at hh, h4⟩
    rw [h1]
    simp only [Instr.enterLoop, FW, Sem.run_bind, run_getLoop (P := P) g2, run_newObj, Result.andThen_ok, Sem.run_pure]
    rfl
theorem stepC_ok (hih : IH P ih) (hho : HO P hd) {c : Code} (hk : stepC' c P hd ih cx tm h nx df k = true) : Ok P cx c tm h nx df k := by
  cases c with
  | skip => exact here hk fun ro Q a w h => wpIn_skip h
  | region id ops d => exact cReg_ok hih hho hk
  | seq x y => exact cSeq_ok (hd := hd) hih hk
  | cond c x y => exact cCond_ok (hd := hd) hih hk
  | block id b => exact cBlock_ok (hd := hd) hih hk
  | loop b => exact cLoop_ok (hd := hd) hih hk
  | rangeFunc f ps a b => exact cRf_ok hih hho hk
  | exit i => exact here hk fun ro Q a w h => wpIn_exit h
  | scope b => exact cScope_ok (hd := hd) hih hk
  | label l => exact here hk fun ro Q a w h => wpIn_label h
  | goto l => exact here hk fun ro Q a w h => wpIn_goto h
  | ret => exact here hk fun ro Q a w h => wpIn_ret h
  | refuse => exact absurd hk Bool.false_ne_true
/-- THE EXECUTOR IS RIGHT -/
theorem run_ok (hho : HO P hd) : ∀ n, IH P (run P hd n)
  | 0 => fun _cx _c _tm _h _nx _df _k hk => absurd hk Bool.false_ne_true
  | n + 1 => fun _cx _c _tm _h _nx _df _k hk => stepC_ok (run_ok hho n) hho hk
theorem eqB_true {v : V} (h : eqBv true v = true) : v = .bool true := by
  obtain ⟨b, rfl, h⟩ := onBool_val h
  cases b
  · exact absurd h Bool.false_ne_true
  · rfl
/-- A FUNCTION WITHOUT ARGUMENTS THAT ANSWERS TRUE, OUT OF A RUN OF THE EXECUTOR -/
theorem sanity_of_run (hho : HO P hd) {f : FuncId} {N : Nat} (h : callF P hd f (run P hd N) [] .lf .z (fun v _ _ => eqBv true v) = true) (w : World) : Calls P f #[] w fun en w' => en = .returned (.bool true) ∧ Below w.heap.size w w' := by
  obtain ⟨v, h', nx', ⟨hn, hs⟩, hk, _⟩ := callF_ok (run_ok hho N) hho h
  have hv := eqB_true hk
  subst hv
  have hget : ∀ b, (T.lf : H).get b = none := T.get_lf
  refine hs w.heap.size (fun _ => none) w [] ⟨fun b x hb => by rw [hget] at hb; exact absurd hb (by simp), Nat.le_refl _, fun b b' x x' q q' hb => by rw [hget] at hb; exact absurd hb (by simp)⟩ (by simp [denL]) (fun _ _ _ => rfl) _ fun e' x w' hx st => ?_
  simp only [den, Option.some.injEq] at hx
  refine ⟨by rw [hx], ?_⟩
  have hout : ∀ c, Out (fun _ => none) (T.lf : H) c := fun c b x q hb => by rw [hget] at hb; exact absurd hb (by simp)
  exact ⟨st.fr.os, st.fr.tape, st.fr.output, st.fr.size, fun c hc => st.fr.keep c hc (hout c)⟩
end
end Go.Sx
