import Derived.Test.YteakajbedjdggaaGreatDoorSxB
import Derived.Deep.MidRow
/-
  The quiet operations of the symbolic executor answer as the model's operations do.
-/
namespace Go.Sx
open Go Go.RowKit

/-! list pieces -/
theorem br_cases {c t e : Bool} (h : br c t e = true) : (c = true ∧ t = true) ∨ (c = false ∧ e = true) := by
  cases c
  · exact .inr ⟨rfl, h⟩
  · exact .inl ⟨rfl, h⟩
theorem dropK_ok : ∀ (n : Nat) (l : List V) (k : List V → Bool), dropK n l k = true → n ≤ l.length ∧ k (l.drop n) = true
  | 0, _, _, h => ⟨Nat.zero_le _, h⟩
  | _ + 1, [], _, h => absurd h Bool.false_ne_true
  | n + 1, _ :: l, k, h => by
    obtain ⟨h1, h2⟩ := dropK_ok n l k h
    exact ⟨Nat.succ_le_succ h1, h2⟩
theorem takeK_ok : ∀ (n : Nat) (l : List V) (k : List V → Bool), takeK n l k = true → n ≤ l.length ∧ k (l.take n) = true
  | 0, _, _, h => ⟨Nat.zero_le _, h⟩
  | _ + 1, [], _, h => absurd h Bool.false_ne_true
  | n + 1, x :: l, k, h => by
    obtain ⟨h1, h2⟩ := takeK_ok n l _ h
    exact ⟨Nat.succ_le_succ h1, h2⟩
theorem cutK_ok {c : List V} {o n : Nat} {k : List V → Bool} (h : cutK c o n k = true) : o + n ≤ c.length ∧ k ((c.drop o).take n) = true := by
  obtain ⟨h1, h2⟩ := dropK_ok _ _ _ h
  obtain ⟨h3, h4⟩ := takeK_ok _ _ _ h2
  rw [List.length_drop] at h3
  exact ⟨by omega, h4⟩
theorem headK_ok {l : List V} {k : V → Bool} (h : headK l k = true) : ∃ x r, l = x :: r ∧ k x = true := by
  cases l with
  | nil => exact absurd h Bool.false_ne_true
  | cons x r => exact ⟨x, r, rfl, h⟩
theorem isC_ok {v : V} {b : Bool} (h : isC v b = true) : b = true ∧ ∀ e x, den e v = some x → x.oneCell' = true := by
  cases v <;> first
    | exact absurd h Bool.false_ne_true
    | (refine ⟨h, fun e x hx => ?_⟩
       simp only [den, Option.map_eq_some_iff, Option.bind_eq_some_iff, Option.some.injEq] at hx
       first
        | (subst hx; rfl)
        | (obtain ⟨_, _, rfl⟩ := hx; rfl)
        | (obtain ⟨_, _, _, _, rfl⟩ := hx; rfl))

/-! operands -/
def OpR (e : Env) (tm : T V) (tmps : Array Value) (x : Operand) : Prop := ∀ t, x = .tmp t → den e (tmV tm t) = some (tmps.getD t undef)
def TmO (o : Op) (e : Env) (tm : T V) (tmps : Array Value) : Prop := ∀ x ∈ o.operands, OpR e tm tmps x
theorem TmR.op {e : Env} {tm : T V} {tmps : Array Value} (r : TmR e tm tmps) (o : Op) : TmO o e tm tmps := fun _ _ t _ => r t
def EvS (x : Operand) (tm : T V) (v : V) : Prop := ∀ e (a : Act), OpR e tm a.tmps x → den e v = some (a.eval x)
theorem bts_nat (s : ByteArray) : bts (s.data.toList.map UInt8.toNat) = s := by
  unfold bts
  rw [List.map_map]
  have : (UInt8.ofNat ∘ UInt8.toNat) = id := by funext x; simp
  rw [this]
  simp
theorem ofC_ok {x : Value} {v : V} (h : ofC x = some v) (e : Env) : den e v = some x := by
  unfold ofC at h
  split at h <;> first
    | (cases h; done)
    | (cases h; simp [den, bts_nat])
theorem ofCs_ok : ∀ {l : List Value} {r : List V}, ofCs l = some r → ∀ e, denL e r = some l
  | [], r, h, e => by
    simp only [ofCs, Option.some.injEq] at h
    subst h
    simp [denL]
  | x :: l, r, h, e => by
    simp only [ofCs] at h
    split at h
    · rename_i v s hv hs
      cases h
      exact denL_cons.2 ⟨x, l, ofC_ok hv e, ofCs_ok hs e, rfl⟩
    · cases h
theorem ofV_ok {x : Value} {v : V} (h : ofV x = some v) (e : Env) : den e v = some x := by
  unfold ofV at h
  split at h
  · simp only [Option.map_eq_some_iff] at h
    obtain ⟨l, hl, rfl⟩ := h
    simp [den, ofCs_ok hl e]
  · cases h; simp [den, denL]
  · exact ofC_ok h e
theorem evT_ok {t : Nat} {tm : T V} {k : V → Bool} (h : evT (I.of t) tm k = true) : k (tmV tm t) = true := by
  unfold evT onTm at h
  unfold tmV
  cases hg : tm.get (I.of t) <;> (rw [hg] at h; exact h)
theorem ev_ok {x : Operand} {tm : T V} {k : V → Bool} (h : ev x tm k = true) : ∃ v, EvS x tm v ∧ k v = true := by
  cases x with
  | tmp t => exact ⟨tmV tm t, fun e a r => r t rfl, evT_ok h⟩
  | const c =>
    have h' : evC (ofV c) tm k = true := h
    unfold evC at h'
    cases hc : ofV c with
    | none => rw [hc] at h'; exact absurd h' Bool.false_ne_true
    | some v => rw [hc] at h'; exact ⟨v, fun e a _ => ofV_ok hc e, h'⟩
  | global g => exact absurd h Bool.false_ne_true
  | func f => exact ⟨.func f [] [], fun e a _ => by simp [den, denL, Act.eval], h⟩
def EvLS (l : List Operand) (tm : T V) (vs : List V) : Prop := ∀ e (a : Act), (∀ x ∈ l, OpR e tm a.tmps x) → denL e vs = some (l.map a.eval)
theorem evL_ok : ∀ {l : List Operand} {tm : T V} {k : List V → Bool}, evL l tm k = true → ∃ vs, EvLS l tm vs ∧ k vs = true
  | [], _, _, h => ⟨[], fun e a _ => by simp [denL], h⟩
  | x :: l, tm, k, h => by
    obtain ⟨v, hv, h⟩ := ev_ok (x := x) (tm := tm) h
    obtain ⟨vs, hvs, h⟩ := evL_ok h
    exact ⟨v :: vs, fun e a r => denL_cons.2 ⟨_, _, hv e a (r x (by simp)), hvs e a (fun y hy => r y (by simp [hy])), rfl⟩, h⟩
def EvOS : Option Operand → T V → Option V → Prop
  | none, _, none => True
  | some x, tm, some v => EvS x tm v
  | _, _, _ => False
theorem evO_ok {o : Option Operand} {tm : T V} {k : Option V → Bool} (h : evO o tm k = true) : ∃ v, EvOS o tm v ∧ k v = true := by
  cases o with
  | none => exact ⟨none, trivial, h⟩
  | some x =>
    obtain ⟨v, hv, h⟩ := ev_ok (x := x) (tm := tm) h
    exact ⟨some v, hv, h⟩
def EvPS : List (Nat × Operand) → T V → List (Nat × V) → Prop
  | [], _, [] => True
  | x :: l, tm, v :: r => x.1 = v.1 ∧ EvS x.2 tm v.2 ∧ EvPS l tm r
  | _, _, _ => False
theorem evP_ok : ∀ {l : List (Nat × Operand)} {tm : T V} {k : List (Nat × V) → Bool}, evP l tm k = true → ∃ vs, EvPS l tm vs ∧ k vs = true
  | [], _, _, h => ⟨[], trivial, h⟩
  | x :: l, tm, k, h => by
    obtain ⟨v, hv, h⟩ := ev_ok (x := x.2) (tm := tm) h
    obtain ⟨vs, hvs, h⟩ := evP_ok h
    exact ⟨(x.1, v) :: vs, ⟨rfl, hv, hvs⟩, h⟩

/-! what a quiet operation does -/
def QS (P : Program) (o : Op) (tm : T V) (h : H) (v : V) : Prop :=
  ∀ n0 e (a : Act) w (u : Oper), u.op = o → TmO o e tm a.tmps → Rd n0 e h w → ∃ x, den e v = some x ∧ (execOp a.eval u).run P w = .ok (.value x) w
theorem run_v {P : Program} {w w' : World} {s : Sem Value} {x : Value} (h : s.run P w = .ok x w') : (do pure (Next.value (← s)) : Sem Next).run P w = .ok (.value x) w' := by
  rw [Sem.run_bind, h]; rfl
theorem onCells_ok {o : Option B} {f : List V → TypeId → Nat → Bool} (h : onCells o f = true) : ∃ c t z, o = some (.cells c t z) ∧ f c t z = true := by
  cases o with
  | none => exact absurd h Bool.false_ne_true
  | some b => cases b with
    | cells c t z => exact ⟨c, t, z, rfl, h⟩
    | _ => exact absurd h Bool.false_ne_true
theorem onMp_ok {o : Option B} {f : List (V × V × Nat) → Nat → Bool} (h : onMp o f = true) : ∃ es ck, o = some (.map es ck) ∧ f es ck = true := by
  cases o with
  | none => exact absurd h Bool.false_ne_true
  | some b => cases b with
    | map c t => exact ⟨c, t, rfl, h⟩
    | _ => exact absurd h Bool.false_ne_true
theorem info_of {P : Program} {t : TypeId} {n : Nat} (h : szOf P t = some n) : ∃ i, P.info? t = some i ∧ i.size = n := by
  simpa [szOf] using h
theorem info_by {P : Program} {t : TypeId} {n : Nat} (h : byOf P t = some n) : ∃ i, P.info? t = some i ∧ i.bytes = n := by
  simpa [byOf] using h
theorem run_sz {P : Program} {t : TypeId} {n : Nat} (h : szOf P t = some n) (w : World) : (sizeOf t).run P w = .ok n w := by
  obtain ⟨i, hi, rfl⟩ := info_of h
  simp [sizeOf, typeInfo, hi]
/-- the cells of a known block, as memory has them -/
theorem CR.get {sz ext : Nat} {vs cs : List Value} (h : CR sz ext vs cs) {j : Nat} {x : Value} (hj : vs[j]? = some x) : cs[j]? = some x := by
  rcases h with ⟨_, rfl⟩ | ⟨_, r, rfl, _⟩
  · exact hj
  · rw [List.getElem?_append_left]
    · exact hj
    · rcases Nat.lt_or_ge j vs.length with h | h
      · exact h
      · rw [List.getElem?_eq_none h] at hj; cases hj
theorem CR.len {sz ext : Nat} {vs cs : List Value} (h : CR sz ext vs cs) : vs.length ≤ cs.length := by
  rcases h with ⟨_, rfl⟩ | ⟨_, r, rfl, _⟩
  · exact Nat.le_refl _
  · simp
theorem rd_range {n0 : Nat} {e : Env} {h : H} {w : World} (r : Rd n0 e h w) {b : I} {c : List V} {t : TypeId} {z : Nat} (hb : h.get b = some (.cells c t z)) {q : Loc} (hq : e b = some q) {o n : Nat}
    (_ : o + n ≤ c.length) : ∃ xs, denL e ((c.drop o).take n) = some xs ∧ w.rangeAt q.blk o xs ∧ (n = xs.length ∨ xs.length < n) := by
  obtain ⟨q', hq', _, cs, fz, vs, h1, _, h3, h4⟩ := r b _ hb
  rw [hq] at hq'
  cases hq'
  refine ⟨(vs.drop o).take n, denL_take _ (denL_drop _ h3), fun j v hj => ?_, ?_⟩
  · have hjn : j < n := by
      rcases Nat.lt_or_ge j n with h | h
      · exact h
      · rw [List.getElem?_eq_none (by simp; omega)] at hj; cases hj
    rw [List.getElem?_take_of_lt hjn, List.getElem?_drop] at hj
    have := h4.get hj
    simp only [World.cell?, h1]
    simpa using this
  · simp; omega
theorem denL_cut_len {e : Env} {c : List V} {o n : Nat} {xs : List Value} (h : denL e ((c.drop o).take n) = some xs) (hl : o + n ≤ c.length) : xs.length = n := by
  rw [denL_len h]; simp; omega
theorem partK_ok {n : Option Nat} {l : List V} {o : Nat} {k : V → Bool} (h : partK n l o k = true) :
    ∃ v, k v = true ∧ ((∃ m, n = some m ∧ o + m ≤ l.length ∧ v = .agg ((l.drop o).take m)) ∨ (n = none ∧ l[o]? = some v ∧ ∀ e x, den e v = some x → x.oneCell' = true)) := by
  cases n with
  | none =>
    obtain ⟨h1, h2⟩ := dropK_ok _ _ _ h
    obtain ⟨x, r, hx, h3⟩ := headK_ok h2
    obtain ⟨h4, h5⟩ := isC_ok h3
    refine ⟨x, h4, .inr ⟨rfl, ?_, h5⟩⟩
    have := congrArg List.head? hx
    simpa [List.head?_drop] using this
  | some m =>
    obtain ⟨h1, h2⟩ := cutK_ok h
    exact ⟨_, h2, .inl ⟨m, rfl, h1, rfl⟩⟩
/-- how a value of a type lies in memory, as the model asks -/
theorem ldOf_ok {P : Program} {t : TypeId} {n : Option Nat} (h : ldOf P t = some n) : ∃ d, P.underlying t = some d ∧
    ((∃ m, n = some m ∧ d.isRow = true ∧ szOf P t = some m) ∨ (n = none ∧ d.isRow = false)) := by
  unfold ldOf at h
  split at h
  · rename_i fs hu
    simp only [Option.map_eq_some_iff] at h
    obtain ⟨m, hm, rfl⟩ := h
    exact ⟨_, hu, .inl ⟨m, rfl, rfl, hm⟩⟩
  · rename_i fs hu
    simp only [Option.map_eq_some_iff] at h
    obtain ⟨m, hm, rfl⟩ := h
    exact ⟨_, hu, .inl ⟨m, rfl, rfl, hm⟩⟩
  · rename_i d h1 h2 hu
    cases h
    refine ⟨d, hu, .inr ⟨rfl, ?_⟩⟩
    cases d <;> first | rfl | exact (h1 _ rfl).elim | exact (h2 _ _ rfl).elim
  · cases h
theorem run_isAgg {P : Program} {t : TypeId} {d : TypeDesc} (h : P.underlying t = some d) (w : World) : (isAgg t).run P w = .ok d.isRow w := by
  unfold isAgg
  rw [Sem.run_bind, run_underlying h]
  cases d <;> rfl
theorem loadK_ok {P : Program} {t : TypeId} {h : H} {b : I} {o : Nat} {k : V → Bool} (hk : loadK P t h b o k = true) :
    ∃ v, k v = true ∧ ∀ n0 e w q, Rd n0 e h w → e b = some q → ∃ x, den e v = some x ∧ (loadVar t ⟨q.blk, o, none⟩).run P w = .ok x w := by
  obtain ⟨n, hn, hk⟩ := onS_ok hk
  obtain ⟨d, hu, hd⟩ := ldOf_ok hn
  rcases hd with ⟨m, rfl, hr, hs⟩ | ⟨rfl, hr⟩
  · obtain ⟨c, ty, z, hb, hk⟩ := onCells_ok hk
    obtain ⟨h1, h2⟩ := cutK_ok hk
    refine ⟨_, h2, fun n0 e w q r hq => ?_⟩
    obtain ⟨xs, hx, hra, _⟩ := rd_range r hb hq h1
    have hl := denL_cut_len hx h1
    refine ⟨.agg xs.toArray, by simp [den, hx], run_loadVar_mid w q.blk o t xs d hra hu hr ?_⟩
    rw [hl]; exact hs
  · obtain ⟨c, ty, z, hb, hk⟩ := onCells_ok hk
    obtain ⟨h1, h2⟩ := dropK_ok _ _ _ hk
    obtain ⟨v, r, hv, h3⟩ := headK_ok h2
    refine ⟨v, h3, fun n0 e w q rr hq => ?_⟩
    have ho : c[o]? = some v := by
      have := congrArg List.head? hv
      simpa [List.head?_drop] using this
    obtain ⟨q', hq', _, cs, fz, vs, g1, _, g3, g4⟩ := rr b _ hb
    rw [hq] at hq'
    cases hq'
    obtain ⟨x, hx, hxs⟩ := denL_get g3 ho
    have hc := g4.get hxs
    refine ⟨x, hx, ?_⟩
    have hcell : w.cell? ⟨q.blk, o, none⟩ = some x := by simp only [World.cell?, g1]; simpa using hc
    simp only [loadVar, Sem.run_bind, run_isAgg hu, hr, Result.andThen_ok, Bool.false_eq_true, if_false, run_load, hcell]

variable {P : Program} {tm : T V} {h : H} {k : V → Bool}
theorem exec_eq {u : Oper} {o : Op} (hu : u.op = o) : ∃ d t p af g, u = ⟨d, o, t, p, af, g⟩ := by
  obtain ⟨d, o', t, p, af, g⟩ := u
  cases hu
  exact ⟨d, t, p, af, g, rfl⟩
theorem qMove_ok {x : Operand} (hk : qMove x P tm h k = true) : ∃ v, k v = true ∧ QS P (.move x) tm h v ∧ QS P (.assign x) tm h v := by
  obtain ⟨v, hv, hk⟩ := ev_ok hk
  refine ⟨v, hk, fun n0 e a w u hu r _ => ?_, fun n0 e a w u hu r _ => ?_⟩ <;>
    (obtain ⟨d, t, p, af, g, rfl⟩ := exec_eq hu; exact ⟨_, hv e a (r _ (by simp [Op.operands])), rfl⟩)
theorem qPick_ok {c x y : Operand} (hk : qPick c x y P tm h k = true) : ∃ v, k v = true ∧ QS P (.pick c x y) tm h v := by
  obtain ⟨b, hb, hk⟩ := ev_ok hk
  obtain ⟨t, rfl, hk⟩ := onBool_ok hk
  rcases br_cases hk with ⟨rfl, hk⟩ | ⟨rfl, hk⟩ <;>
    (obtain ⟨v, hv, hk⟩ := ev_ok hk
     refine ⟨v, hk, fun n0 e a w u hu r _ => ?_⟩
     obtain ⟨d, t, p, af, g, rfl⟩ := exec_eq hu
     have := den_bool (hb e a (r _ (by simp [Op.operands])))
     refine ⟨_, hv e a (r _ (by simp [Op.operands])), ?_⟩
     simp [execOp, this, asBool])
theorem qLoad_ok {t : TypeId} {x : Operand} (hk : qLoad t x P tm h k = true) : ∃ v, k v = true ∧ QS P (.load t x) tm h v := by
  obtain ⟨b, hb, hk⟩ := ev_ok hk
  obtain ⟨b, o, rfl, hk⟩ := onPtr_ok hk
  obtain ⟨v, hk, hv⟩ := loadK_ok hk
  refine ⟨v, hk, fun n0 e a w u hu r rd => ?_⟩
  obtain ⟨d, ty, p, af, g, rfl⟩ := exec_eq hu
  obtain ⟨q, hq, hx⟩ := den_ptr (hb e a (r _ (by simp [Op.operands])))
  obtain ⟨y, hy, hrun⟩ := hv n0 e w q rd hq
  refine ⟨y, hy, ?_⟩
  simp [execOp, hx, Instr.loadAt, Instr.sureAddr, hrun]
theorem isPF_ok {v : V} {b : Bool} (hv : isPF v b = true) : b = true ∧ ((∃ c o, v = .ptr c o) ∨ ∃ f x y, v = .func f x y) := by
  cases v <;> first
    | exact absurd hv Bool.false_ne_true
    | exact ⟨hv, .inl ⟨_, _, rfl⟩⟩
    | exact ⟨hv, .inr ⟨_, _, _, rfl⟩⟩
theorem qNil_ok {x : Operand} (hk : qNil x P tm h k = true) : ∃ v, k v = true ∧ QS P (.nilCheck x) tm h v := by
  obtain ⟨v, hv, hk⟩ := ev_ok hk
  obtain ⟨hk, hs⟩ := isPF_ok hk
  refine ⟨v, hk, fun n0 e a w u hu r _ => ?_⟩
  obtain ⟨d, ty, p, af, g, rfl⟩ := exec_eq hu
  refine ⟨_, hv e a (r _ (by simp [Op.operands])), ?_⟩
  rcases hs with ⟨c, o, rfl⟩ | ⟨f, xs, ys, rfl⟩
  · obtain ⟨q, _, hx⟩ := den_ptr (hv e a (r _ (by simp [Op.operands])))
    simp [execOp, hx]
  · obtain ⟨_, _, _, _, hx⟩ := den_func (hv e a (r _ (by simp [Op.operands])))
    simp [execOp, hx]
theorem fnK_ok {f : Fn} {k : FuncId → Bool} (h : fnK f k = true) : ∃ g, f = .func g ∧ k g = true := by
  cases f <;> first | exact absurd h Bool.false_ne_true | exact ⟨_, rfl, h⟩
theorem qFunc_ok {f : Fn} {x y : Array Operand} (hk : qFunc f x y P tm h k = true) : ∃ v, k v = true ∧ QS P (.makeFunc f x y) tm h v := by
  obtain ⟨g, rfl, hk⟩ := fnK_ok hk
  obtain ⟨xs, hx, hk⟩ := evL_ok hk
  obtain ⟨ys, hy, hk⟩ := evL_ok hk
  refine ⟨_, hk, fun n0 e a w u hu r _ => ?_⟩
  obtain ⟨d, ty, p, af, gg, rfl⟩ := exec_eq hu
  refine ⟨.func (.func g) (x.map a.eval) (y.map a.eval), ?_, ?_⟩
  · simp [den, hx e a (fun z hz => r z (by simp_all [Op.operands])), hy e a (fun z hz => r z (by simp_all [Op.operands])), ← Array.toList_map]
  · simp [execOp, Instr.makeFunc]
theorem qFa_ok {s : TypeId} {x : Operand} {f : Nat} (hk : qFa s x f P tm h k = true) : ∃ v, k v = true ∧ QS P (.fieldAddr s x f) tm h v := by
  obtain ⟨off, hf, hk⟩ := onS_ok hk
  obtain ⟨v, hv, hk⟩ := ev_ok hk
  obtain ⟨b, o, rfl, hk⟩ := onPtr_ok hk
  refine ⟨_, hk, fun n0 e a w u hu r _ => ?_⟩
  obtain ⟨d, ty, p, af, gg, rfl⟩ := exec_eq hu
  obtain ⟨q, hq, hx⟩ := den_ptr (hv e a (r _ (by simp [Op.operands])))
  unfold faOf at hf
  split at hf
  · rename_i fs hus
    split at hf
    · rename_i fd hfd
      split at hf
      · rename_i m hm
        cases hf
        refine ⟨.pointer (some ⟨q.blk, o + fd.offset, none⟩), by simp [den, hq], ?_⟩
        simp [execOp, hx, Instr.fieldAt, run_underlying hus, hfd, Instr.sureAddr, fieldPlace, run_sz hm, Addr.add_mid]
      · cases hf
    · cases hf
  · cases hf
theorem fdOf_ok {s : TypeId} {f : Nat} {d : Option Nat × Nat} (h : fdOf P s f = some d) : ∃ fs fd, P.underlying s = some (.struct fs) ∧ fs[f]? = some fd ∧ ldOf P fd.type = some d.1 ∧ d.2 = fd.offset := by
  unfold fdOf at h
  split at h
  · rename_i fs hus
    split at h
    · rename_i fd hfd
      simp only [Option.map_eq_some_iff] at h
      obtain ⟨m, hm, rfl⟩ := h
      exact ⟨fs, fd, hus, hfd, hm, rfl⟩
    · cases h
  · cases h
theorem part_ok {t : TypeId} {n : Option Nat} (hn : ldOf P t = some n) {e : Env} {l : List V} {xs : List Value} (hl : denL e l = some xs) {o : Nat} {v : V}
    (hv : (∃ m, n = some m ∧ o + m ≤ l.length ∧ v = .agg ((l.drop o).take m)) ∨ (n = none ∧ l[o]? = some v ∧ ∀ e x, den e v = some x → x.oneCell' = true)) (w : World) :
    ∃ x, den e v = some x ∧ (part t xs.toArray o).run P w = .ok x w := by
  obtain ⟨d, hu, hd⟩ := ldOf_ok hn
  rcases hv with ⟨m, rfl, hm, rfl⟩ | ⟨rfl, hv, _⟩
  · rcases hd with ⟨m', h1, hr, hs⟩ | ⟨h1, _⟩
    · cases h1
      refine ⟨.agg ((xs.drop o).take m).toArray, by simp [den, denL_take _ (denL_drop o hl)], ?_⟩
      simp [part, run_isAgg hu, hr, run_sz hs, List.extract_eq_take_drop]
    · cases h1
  · rcases hd with ⟨m', h1, hr, hs⟩ | ⟨_, hr⟩
    · cases h1
    · obtain ⟨x, hx, hxs⟩ := denL_get hl hv
      refine ⟨x, hx, ?_⟩
      simp [part, run_isAgg hu, hr, hxs]
theorem qFd_ok {s : TypeId} {x : Operand} {f : Nat} (hk : qFd s x f P tm h k = true) : ∃ v, k v = true ∧ QS P (.field s x f) tm h v := by
  obtain ⟨off, hf, hk⟩ := onS_ok hk
  obtain ⟨v, hv, hk⟩ := ev_ok hk
  obtain ⟨l, rfl, hk⟩ := onAgg_ok hk
  obtain ⟨v, hk, hp⟩ := partK_ok hk
  refine ⟨_, hk, fun n0 e a w u hu r _ => ?_⟩
  obtain ⟨d, ty, p, af, gg, rfl⟩ := exec_eq hu
  obtain ⟨xs, hxs, hx⟩ := den_agg (hv e a (r _ (by simp [Op.operands])))
  obtain ⟨fs, fd, hus, hfd, hl, ho⟩ := fdOf_ok hf
  obtain ⟨y, hy, hrun⟩ := part_ok hl hxs hp w
  rw [ho] at hrun
  refine ⟨y, hy, ?_⟩
  simp [execOp, hx, Instr.field, run_underlying hus, hfd, asAgg, hrun]
theorem skOf_ok {t : TypeId} {s : SK} (h : skOf P t = some s) :
    (s = .str ∧ P.underlying t = some .string) ∨ (∃ e z, s = .sl z ∧ P.underlying t = some (.slice e) ∧ szOf P e = some z) ∨ (∃ n e z, s = .arr n z ∧ P.underlying t = some (.array n e) ∧ szOf P e = some z) := by
  unfold skOf at h
  split at h
  · cases h; rename_i hu; exact .inl ⟨rfl, hu⟩
  · rename_i e hu
    simp only [Option.map_eq_some_iff] at h
    obtain ⟨z, hz, rfl⟩ := h
    exact .inr (.inl ⟨e, z, rfl, hu, hz⟩)
  · rename_i n e hu
    simp only [Option.map_eq_some_iff] at h
    obtain ⟨z, hz, rfl⟩ := h
    exact .inr (.inr ⟨n, e, z, rfl, hu, hz⟩)
  · cases h
theorem blt_ok {a b : Nat} (h : Nat.blt a b = true) : a < b := by simpa [Nat.blt_eq] using h
theorem qIa_ok {t : TypeId} {x i : Operand} (hk : qIa t x i P tm h k = true) : ∃ v, k v = true ∧ QS P (.indexAddr t x i) tm h v := by
  obtain ⟨s, hs, hk⟩ := onS_ok hk
  obtain ⟨v, hv, hk⟩ := ev_ok hk
  obtain ⟨j, hj, hk⟩ := ev_ok hk
  obtain ⟨ik, n, rfl, hk⟩ := onInt_ok hk
  obtain ⟨m, rfl, hk⟩ := onNat_ok hk
  rcases skOf_ok hs with ⟨rfl, _⟩ | ⟨el, z, rfl, hut, hz⟩ | ⟨nn, el, z, rfl, hut, hz⟩
  · exact absurd hk Bool.false_ne_true
  · obtain ⟨b, o, len, c, p, rfl, hk⟩ := onSl_ok hk
    obtain ⟨hlt, hk⟩ := gd_ok hk
    have hlt := blt_ok hlt
    refine ⟨_, hk, fun n0 e a w u hu r _ => ?_⟩
    obtain ⟨d, ty, p, af, gg, rfl⟩ := exec_eq hu
    obtain ⟨q, hq, hx⟩ := den_slice (hv e a (r _ (by simp [Op.operands])))
    have hi := den_int (hj e a (r _ (by simp [Op.operands])))
    refine ⟨.pointer (some ⟨q.blk, o + m * z, none⟩), by simp [den, hq], ?_⟩
    simp [execOp, hx, hi, Instr.indexAt, asIntOf, run_underlying hut, run_sz hz, Addr.add_mid, hlt]
  · obtain ⟨b, o, rfl, hk⟩ := onPtr_ok hk
    obtain ⟨hlt, hk⟩ := gd_ok hk
    have hlt := blt_ok hlt
    refine ⟨_, hk, fun n0 e a w u hu r _ => ?_⟩
    obtain ⟨d, ty, p, af, gg, rfl⟩ := exec_eq hu
    obtain ⟨q, hq, hx⟩ := den_ptr (hv e a (r _ (by simp [Op.operands])))
    have hi := den_int (hj e a (r _ (by simp [Op.operands])))
    refine ⟨.pointer (some ⟨q.blk, o + m * z, none⟩), by simp [den, hq], ?_⟩
    simp [execOp, hx, hi, Instr.indexAt, asIntOf, run_underlying hut, run_sz hz, Addr.add_mid, hlt, Instr.sureAddr]
theorem nthK_ok : ∀ {n : Nat} {l : List Nat} {k : Nat → Bool}, nthK n l k = true → ∃ x, l[n]? = some x ∧ k x = true
  | 0, [], _, h => absurd h Bool.false_ne_true
  | 0, x :: _, _, h => ⟨x, rfl, h⟩
  | _ + 1, [], _, h => absurd h Bool.false_ne_true
  | n + 1, _ :: l, _, h => by
    obtain ⟨x, hx, hk⟩ := nthK_ok (n := n) (l := l) h
    exact ⟨x, by simpa using hx, hk⟩
theorem bts_size (l : List Nat) : (bts l).size = l.length := by simp [bts, ByteArray.size]
theorem bts_get {l : List Nat} {n x : Nat} (h : l[n]? = some x) : (bts l)[n]? = some (UInt8.ofNat x) := by
  have hn : n < l.length := by
    rcases Nat.lt_or_ge n l.length with g | g
    · exact g
    · rw [List.getElem?_eq_none g] at h; cases h
  have hx : l[n] = x := by rw [List.getElem?_eq_getElem hn] at h; exact Option.some.inj h
  rw [getElem?_pos _ _ (by rw [bts_size]; exact hn)]
  simp [bts, ByteArray.getElem_eq_getElem_data, hx]
theorem qIx_ok {t : TypeId} {x i : Operand} (hk : qIx t x i P tm h k = true) : ∃ v, k v = true ∧ QS P (.index t x i) tm h v := by
  obtain ⟨s, hs, hk⟩ := onS_ok hk
  obtain ⟨v, hv, hk⟩ := ev_ok hk
  obtain ⟨j, hj, hk⟩ := ev_ok hk
  obtain ⟨ik, n, rfl, hk⟩ := onInt_ok hk
  obtain ⟨m, rfl, hk⟩ := onNat_ok hk
  rcases skOf_ok hs with ⟨rfl, hut⟩ | ⟨el, z, rfl, hut, hz⟩ | ⟨nn, el, z, rfl, hut, hz⟩
  · obtain ⟨l, rfl, hk⟩ := onStr_ok hk
    obtain ⟨b, hb, hk⟩ := nthK_ok hk
    refine ⟨_, hk, fun n0 e a w u hu r _ => ?_⟩
    obtain ⟨d, ty, p, af, gg, rfl⟩ := exec_eq hu
    have hx := den_str (hv e a (r _ (by simp [Op.operands])))
    have hi := den_int (hj e a (r _ (by simp [Op.operands])))
    refine ⟨_, by simp [den]; rfl, ?_⟩
    simp [execOp, hx, hi, Instr.index, asIntOf, run_underlying hut, bts_get hb]
  · exact absurd hk Bool.false_ne_true
  · exact absurd hk Bool.false_ne_true
theorem onTup_get {l : List V} {i : Nat} {k : V → Bool} (hk : dropK i l (fun l => headK l k) = true) : ∃ v, l[i]? = some v ∧ k v = true := by
  obtain ⟨h1, h2⟩ := dropK_ok _ _ _ hk
  obtain ⟨x, r, hx, h3⟩ := headK_ok h2
  refine ⟨x, ?_, h3⟩
  have := congrArg List.head? hx
  simpa [List.head?_drop] using this
theorem qExt_ok {x : Operand} {i : Nat} (hk : qExt x i P tm h k = true) : ∃ v, k v = true ∧ QS P (.extract x i) tm h v := by
  obtain ⟨v, hv, hk⟩ := ev_ok hk
  obtain ⟨l, rfl, hk⟩ := onTup_ok hk
  obtain ⟨v, hl, hk⟩ := onTup_get hk
  refine ⟨v, hk, fun n0 e a w u hu r _ => ?_⟩
  obtain ⟨d, ty, p, af, gg, rfl⟩ := exec_eq hu
  obtain ⟨xs, hxs, hx⟩ := den_tup (hv e a (r _ (by simp [Op.operands])))
  obtain ⟨y, hy, hg⟩ := denL_get hxs hl
  refine ⟨y, hy, ?_⟩
  simp [execOp, hx, Instr.extract, hg]
end Go.Sx
