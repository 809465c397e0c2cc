import Derived.Test.YteakajbedjdggaaGreatDoorSxI
import Derived.RangeFuncLeaves
/-
  Calls: what is asked of the code under a call; a function's contract out of its body; rounds of a range over a function.
-/
namespace Go.Sx
open Go Go.RowKit

def X.den : X → Exit
  | .nrm => .normal
  | .exit i => .exit i
  | .goto l => .goto l
  | .ret => .ret
def DfR (e : Env) : List I → List Deferred → Prop
  | [], [] => True
  | d :: r, x :: l => (∃ q, e d = some q ∧ x = { target := .collected q.blk, args := #[] }) ∧ DfR e r l
  | _, _ => False
theorem DfR.mono {e e' : Env} (h : e.le e') : ∀ {d : List I} {l : List Deferred}, DfR e d l → DfR e' d l
  | [], [], _ => trivial
  | _ :: _, _ :: _, ⟨⟨q, h1, h2⟩, h3⟩ => ⟨⟨q, h _ _ h1, h2⟩, DfR.mono h h3⟩
  | [], _ :: _, h => h.elim
  | _ :: _, [], h => h.elim
/-- the activation of a frame -/
structure AR (e : Env) (n : Nat) (tm : T V) (df : List I) (a : Act) : Prop where
  size : a.tmps.size = n
  tm : TmR e tm a.tmps
  df : DfR e df a.defers
theorem AR.mono {e e' : Env} (h : e.le e') {n : Nat} {tm : T V} {df : List I} {a : Act} (r : AR e n tm df a) : AR e' n tm df a := ⟨r.size, r.tm.mono h, r.df.mono h⟩
def RdR (e : Env) : Option I → Option Nat → Prop
  | none, none => True
  | some l, some r => ∃ q, e l = some q ∧ q.blk = r
  | _, _ => False
theorem RdR.mono {e e' : Env} (h : e.le e') {l : Option I} {r : Option Nat} (x : RdR e l r) : RdR e' l r := by
  cases l <;> cases r <;> first | exact x | (obtain ⟨q, h1, h2⟩ := x; exact ⟨q, h _ _ h1, h2⟩)
/-- a loop that has been entered -/
def LoopWP (ro : Option Nat) (P : Program) (c : Code) (Q : Exit → Act → World → Prop) (a : Act) (w : World) : Prop :=
  ∀ (b : Frame) (k : List Item) (cs : List Frame), b.roundOf = (FW ro).round →
    ∃ e a' w', Q e a' w' ∧ ArrivesIn (Machine.fenced P (FW ro)) P (lone (b.atR a (.code c :: .inLoop c :: k)) cs w) b k cs e a' w'
def WPc (ro : Option Nat) (P : Program) (c : Code) (Q : Exit → Act → World → Prop) (a : Act) (w : World) : Prop :=
  match c with
  | .loop b => LoopWP ro P b Q a w
  | c => c.wpIn (FW ro) 0 P Q a w
theorem fw_calm {ro : Option Nat} {P : Program} {b : Frame} {a : Act} {k : List Item} {cs : List Frame} {w : World} : (lone (b.atR a k) cs w).fenced P (FW ro) := by
  intro g _
  exact ⟨fun h => by simp [FW] at h, .inl trivial, fun _ _ => trivial, fw_room ro _⟩
theorem wpc_in {ro : Option Nat} {P : Program} {c : Code} {Q : Exit → Act → World → Prop} {a : Act} {w : World} (h : WPc ro P c Q a w) : c.wpIn (FW ro) 0 P Q a w := by
  cases c <;> first | exact h | skip
  rename_i c
  intro b k cs hro _ _
  obtain ⟨e, a', w', hq, harr⟩ := h b k cs hro
  exact ⟨e, a', w', hq, .of_steps (.one fw_calm stepR_loop) harr⟩
/-- what code does: from a state to a way out and a state -/
def SemC (P : Program) (cx : Cx) (c : Code) (tm : T V) (h : H) (nx : I) (df : List I) (x : X) (tm' : T V) (h' : H) (nx' : I) (df' : List I) : Prop :=
  nx.nat ≤ nx'.nat ∧ ∀ n0 e a w ro, Sat n0 e h w → AR e cx.n tm df a → RdR e cx.rd ro → Fresh nx nx' e → ∀ Q : Exit → Act → World → Prop,
    (∀ e' a' w', Stp n0 e h w nx e' h' w' nx' → AR e' cx.n tm' df' a' → Q x.den a' w') → WPc ro P c Q a w
def SemF (P : Program) (f : FuncId) (args : List V) (h : H) (nx : I) (v : V) (h' : H) (nx' : I) : Prop :=
  nx.nat ≤ nx'.nat ∧ ∀ n0 e w vs, Sat n0 e h w → denL e args = some vs → Fresh nx nx' e → ∀ R : Ending → World → Prop,
    (∀ e' x w', den e' v = some x → Stp n0 e h w nx e' h' w' nx' → R (.returned x) w') → Calls P f vs.toArray w R
def IH (P : Program) (ih : Run) : Prop := ∀ cx c tm h nx df k, ih cx c tm h nx df k = true → ∃ x tm' h' nx' df', SemC P cx c tm h nx df x tm' h' nx' df' ∧ k x tm' h' nx' df' = true
def HO (P : Program) (hd : Hand) : Prop := ∀ f g, hd f = some g → ∀ args h nx k, g args h nx k = true → ∃ v h' nx', SemF P f args h nx v h' nx' ∧ k v h' nx' = true
theorem callsIn_fw {ro : Option Nat} {P : Program} {f : FuncId} {args : Array Value} {w : World} {R : Ending → World → Prop} (n : Nat) : CallsIn (FW ro) n P f args w R ↔ Calls P f args w R :=
  (callsIn_wide (n := n))
section
variable {P : Program} {hd : Hand} {ih : Run}

/-! arguments and results -/
theorem argK_ok : ∀ {l : List V} {n : Nat} {t : T V} {k : T V → Bool}, argK l (I.of n) t k = true → ∃ t', k t' = true ∧ ∀ j : Nat, t'.get (I.of j) = if n ≤ j ∧ j < n + l.length then l[j - n]? else t.get (I.of j)
  | [], n, t, k, h => ⟨t, h, fun j => by simp; intro h1 h2; omega⟩
  | v :: l, n, t, k, h => by
    have h : (t.putK (I.of n) (some v) fun t => argK l (I.of (n + 1)) t k) = true := h
    rw [T.putK_eq] at h
    obtain ⟨t', hk, ht⟩ := argK_ok (l := l) (n := n + 1) h
    refine ⟨t', hk, fun j => ?_⟩
    rw [ht j]
    by_cases hj : j = n
    · subst hj
      rw [if_neg (by omega), if_pos (by simp), T.get_put_same]
      simp
    · have hne : I.of n ≠ I.of j := fun hh => hj (I.of_inj hh).symm
      rw [T.get_put_ne _ _ _ _ hne]
      by_cases hin : n + 1 ≤ j ∧ j < n + 1 + l.length
      · rw [if_pos hin, if_pos (by simp; omega)]
        have : j - n = (j - (n + 1)) + 1 := by omega
        rw [this, List.getElem?_cons_succ]
      · rw [if_neg hin, if_neg (by simp; omega)]
theorem args_tm {e : Env} {args : List V} {vs : List Value} (h : denL e args = some vs) {n : Nat} (hl : args.length ≤ n) {t : T V} (ht : ∀ j : Nat, t.get (I.of j) = if 0 ≤ j ∧ j < 0 + args.length then args[j - 0]? else (T.lf : T V).get (I.of j)) :
    (vs.toArray ++ Array.replicate (n - vs.toArray.size) undef).size = n ∧ TmR e t (vs.toArray ++ Array.replicate (n - vs.toArray.size) undef) := by
  have hlen := denL_len h
  refine ⟨by simp; omega, fun j => ?_⟩
  unfold tmV
  rw [ht j]
  by_cases hj : j < args.length
  · rw [if_pos (by omega), Nat.sub_zero]
    obtain ⟨x, hx, hxs⟩ := denL_get h (List.getElem?_eq_getElem hj)
    rw [List.getElem?_eq_getElem hj]
    simp only [Option.getD_some, hx]
    rw [Array.getD_eq_getD_getElem?, Array.getElem?_append_left (by simp; omega)]
    simp [hxs]
  · rw [if_neg (by omega), T.get_lf]
    simp only [Option.getD_none, den_un]
    rw [Array.getD_eq_getD_getElem?, Array.getElem?_append_right (by simp; omega)]
    by_cases hr : j - vs.toArray.size < n - vs.toArray.size
    · rw [Array.getElem?_replicate, if_pos hr]; rfl
    · rw [Array.getElem?_replicate, if_neg hr]; rfl
def resF (tmps : Array Value) : ResultVar → Sem Value
  | .tmp t => pure (tmps.getD t undef)
  | .cell a t => do loadVar t (← asAddr (tmps.getD a undef))
theorem resK_ok : ∀ {rs : List ResultVar} {tm : T V} {h : H} {k : List V → Bool}, resK P rs tm h k = true → ∃ l, k l = true ∧ ∀ n0 e w tmps, TmR e tm tmps → Rd n0 e h w → ∃ vs, denL e l = some vs ∧
    (rs.mapM (resF tmps)).run P w = .ok vs w
  | [], tm, h, k, hk => ⟨[], hk, fun n0 e w tmps _ _ => ⟨[], denL_nil.2 rfl, rfl⟩⟩
  | .tmp t :: rs, tm, h, k, hk => by
    have hk : evT (I.of t) tm (fun v => resK P rs tm h fun l => k (v :: l)) = true := hk
    obtain ⟨l, hl, hr⟩ := resK_ok (evT_ok hk)
    refine ⟨_, hl, fun n0 e w tmps tr rd => ?_⟩
    obtain ⟨vs, hv, hrun⟩ := hr n0 e w tmps tr rd
    refine ⟨tmps.getD t undef :: vs, denL_cons.2 ⟨_, _, tr t, hv, rfl⟩, ?_⟩
    rw [List.mapM_cons]
    simp only [resF, Sem.run_bind, Sem.run_pure, Result.andThen_ok, hrun]
  | .cell a t :: rs, tm, h, k, hk => by
    have hk : evT (I.of a) tm (fun v => onPtr v fun b o => loadK P t h b o fun v => resK P rs tm h fun l => k (v :: l)) = true := hk
    obtain ⟨b, o, hb, hk⟩ := onPtr_ok (evT_ok hk)
    obtain ⟨v, hk, hv⟩ := loadK_ok hk
    obtain ⟨l, hl, hr⟩ := resK_ok hk
    refine ⟨_, hl, fun n0 e w tmps tr rd => ?_⟩
    obtain ⟨vs, hvs, hrun⟩ := hr n0 e w tmps tr rd
    have hp := tr a
    rw [hb] at hp
    obtain ⟨q, hq, hpv⟩ := den_ptr hp
    obtain ⟨x, hx, hlr⟩ := hv n0 e w q rd hq
    refine ⟨x :: vs, denL_cons.2 ⟨_, _, hx, hvs, rfl⟩, ?_⟩
    rw [List.mapM_cons]
    simp only [resF, Sem.run_bind, hpv, asAddr, Sem.run_pure, Result.andThen_ok, hlr, hrun]
theorem oneK_ok {l : List V} {k : V → Bool} (hk : oneK l k = true) : ∃ v, k v = true ∧ ∀ e vs, denL e l = some vs → den e v = some (if h : vs.toArray.size = 1 then vs.toArray[0] else .tuple vs.toArray) := by
  match l, hk with
  | [], hk => exact ⟨_, hk, fun e vs hv => by rw [denL_nil.1 hv]; simp [den, denL]⟩
  | [v], hk => exact ⟨v, hk, fun e vs hv => by
      obtain ⟨x, r, hx, hr, rfl⟩ := denL_cons.1 hv
      rw [denL_nil.1 hr]
      simpa using hx⟩
  | v :: u :: r, hk => exact ⟨_, hk, fun e vs hv => by
      have hl := denL_len hv
      have : ¬ vs.toArray.size = 1 := by simp at hl ⊢; omega
      rw [dif_neg this]
      simp [den, hv]⟩
theorem results_run {fn : Func} {tmps : Array Value} {vs : List Value} {w : World} (h : (fn.results.toList.mapM (resF tmps)).run P w = .ok vs w) :
    (results fn tmps).run P w = .ok (if h : vs.toArray.size = 1 then vs.toArray[0] else .tuple vs.toArray) w := by
  have key : results fn tmps = (do let vs ← fn.results.mapM (resF tmps); pure (if h : vs.size = 1 then vs[0] else .tuple vs)) := rfl
  rw [key, Array.mapM_eq_mapM_toList]
  simp only [Sem.run_bind, Sem.run_map, h, Result.andThen_ok, Sem.run_pure]
theorem onDef_ok {o : Option B} {b : Bool} (h : onDef o b = true) : o = some .defd ∧ b = true := by
  cases o with
  | none => exact absurd h Bool.false_ne_true
  | some x => cases x <;> first | exact absurd h Bool.false_ne_true | exact ⟨rfl, h⟩
theorem takeDf_ok : ∀ {df : List I} {h : H} {k : H → Bool}, takeDf df h k = true → ∃ h', k h' = true ∧ ∀ (fn : Func) (tmps : Array Value) (n : Nat) n0 e w ds (nx : I) (R : Ending → World → Prop), Sat n0 e h w → DfR e df ds →
    (∀ w', Stp n0 e h w nx e h' w' nx → ∃ v, (results fn tmps).run P w' = .ok v w' ∧ R (.returned v) w') → LeavesInM (FW none) n P fn tmps R ds .returning w
  | [], h, k, hk => ⟨h, hk, fun fn tmps n n0 e w ds nx R st hd hR => by
      cases ds with
      | nil => exact hR w (Stp.refl st)
      | cons => exact hd.elim⟩
  | d :: df, h, k, hk => by
    obtain ⟨hb, hk⟩ := onDef_ok hk
    rw [T.putK_eq] at hk
    obtain ⟨h', hk', hf⟩ := takeDf_ok (df := df) hk
    refine ⟨h', hk', fun fn tmps n n0 e w ds nx R st hd hR => ?_⟩
    cases ds with
    | nil => exact hd.elim
    | cons x ds =>
      obtain ⟨⟨q, hq, rfl⟩, hd⟩ := hd
      obtain ⟨q', hq', _, hbr⟩ := st.rd d _ hb
      rw [hq] at hq'; cases hq'
      have hbr : w.heap[q.blk]? = some (.deferred (some [])) := hbr
      obtain ⟨w1, hs, hu, _⟩ := run_setObj (P := P) (o' := .deferred none) hbr (fun _ _ _ hh => (by cases hh))
      have hst := Stp.kill st hb hq hu nx
      rw [LeavesInM]
      refine ⟨(fun hh => (by cases hh)), .inl ⟨q.blk, w1, rfl, ?_, hf fn tmps n n0 e w1 ds nx R hst.sat hd fun w' hst' => hR w' (hst.trans hst')⟩⟩
      simp only [Instr.takeDeferred, Sem.run_bind, run_getObj (P := P) hbr (fun _ _ _ hh => (by cases hh)), Result.andThen_ok, hs, Sem.run_pure]
theorem fiOf_ok {f : FuncId} {fi : FI} (h : fiOf P f = some fi) : ∃ fn, P.funcs[f]? = some fn ∧ fn.name ≠ "runtime.NumGoroutine" ∧ fn.body = some fi.body ∧ fn.ntmps = fi.n ∧ fn.results.toList = fi.res := by
  unfold fiOf at h
  split at h
  · rename_i fn hfn
    split at h
    · cases h
    · rename_i hname
      split at h
      · rename_i c hc
        cases h
        exact ⟨fn, hfn, hname, hc, rfl, rfl⟩
      · cases h
  · cases h
/-- A FUNCTION's CONTRACT OUT OF ITS BODY -/
theorem callB_ok (hih : IH P ih) {f : FuncId} {fi : FI} (hfi : fiOf P f = some fi) {args : List V} {h : H} {nx : I} {k : KC} (hk : callB P fi ih f args h nx k = true) : ∃ v h' nx', SemF P f args h nx v h' nx' ∧ k v h' nx' = true := by
  obtain ⟨fn, hfn, hname, hbody, hn, hres⟩ := fiOf_ok hfi
  obtain ⟨hle, hk⟩ := gd_ok hk
  rw [lenL_eq] at hle
  have hle : args.length ≤ fi.n := by simpa using hle
  obtain ⟨tm, hk, htm⟩ := argK_ok (n := 0) hk
  obtain ⟨x, tm', h1, nx1, df1, ⟨hnx, hsem⟩, hk⟩ := hih _ _ _ _ _ _ _ hk
  have hx : (x = .nrm ∨ x = .ret) ∧ (takeDf df1 h1 fun h => resK P fi.res tm' h fun l => oneK l fun v => k v h nx1) = true := by
    cases x <;> first | exact absurd hk Bool.false_ne_true | exact ⟨.inl rfl, hk⟩ | exact ⟨.inr rfl, hk⟩
  obtain ⟨hx, hk⟩ := hx
  -- the deferred blocks are taken whatever the temporaries are
  obtain ⟨h2, hk2, htake⟩ := takeDf_ok (P := P) hk
  obtain ⟨l, hk3, hres'⟩ := resK_ok hk2
  obtain ⟨v, hk4, hone⟩ := oneK_ok hk3
  refine ⟨v, h2, nx1, ⟨hnx, fun n0 e w vs st hd fr R hR => ?_⟩, hk4⟩
  refine (callsIn_fw 0).1 (callsIn_of_wp_marks (F := FW none) (n := 0) hfn hbody trivial ?_)
  obtain ⟨hsz, htr⟩ := args_tm hd hle htm
  refine wpc_in (hsem n0 e ⟨vs.toArray ++ Array.replicate (fn.ntmps - vs.toArray.size) undef, []⟩ w none st ⟨?_, ?_, trivial⟩ trivial fr _ fun e' a' w' hst har => ?_)
  · rw [hn]; exact hsz
  · rw [hn]; exact htr
  have hleave : LeavesInM (FW none) 0 P fn a'.tmps R a'.defers .returning w' := by
    refine htake fn a'.tmps 0 n0 e' w' a'.defers nx1 R hst.sat har.df fun w'' hst' => ?_
    obtain ⟨vs', hv, hrun⟩ := hres' n0 e' w'' a'.tmps har.tm hst'.sat.rd
    rw [← hres] at hrun
    exact ⟨_, results_run hrun, hR e' _ w'' (hone e' vs' hv) (hst.trans hst')⟩
  rcases hx with rfl | rfl <;> exact hleave
end
end Go.Sx
