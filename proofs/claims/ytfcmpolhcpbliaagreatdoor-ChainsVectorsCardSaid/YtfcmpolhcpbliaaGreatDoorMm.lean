/- What operations of the laws of chains yield, as kinds; calls by kinds. -/
import Derived.Great.BuildSlice
import Derived.Test.YtfcmpolhcpbliaaGreatDoorMl

namespace Go.Proofs.YtfcmpolhcpbliaaGreatDoor
open Go.RowKit Go.Cx

/-- A kind of thing an operation yields. -/
inductive Fk
  | any
  | tt
  | val (v : Value)
  | cx (K : List Cl)
  | ints (l : List (Int × Int))
  | ch (L : List (Int × Int))
  | cf (f : Int → Int) (N S : Nat)
  | wd (l : List Int)
  | tup (l : List Int)
  | own (b : Nat) (L : List (Int × Int))
/-- A value is of a kind. -/
def Fk.holds : Fk → Value → World → Prop
  | .any, _, _ => True
  | .tt, v, _ => v = .bool true
  | .val x, v, _ => v = x
  | .cx K, v, w => ∃ u l, v = .agg #[u] ∧ SlC w u l ∧ l.map Ce.cl = K
  | .ints l, v, w => Sl w 1 v (pv l)
  | .ch L, v, w => Sl w 3 v (tv (ctm L))
  | .cf f N S, v, w => ∃ L, Cn L ∧ (∀ c, co L c = f c) ∧ L.length ≤ N ∧ TOk S (ctm L) ∧ Sl w 3 v (tv (ctm L))
  | .wd l, v, w => Sl w 2 v (wvs l)
  | .own b L, v, w => b ≤ w.heap.size ∧ w.ownsRow b 63 3 v L.length (tv (ctm L))
  | .tup l, v, w => ∃ r, v = .tuple #[r, .bool true] ∧ Sl w 2 r (wvs l)
theorem Fk.keep {k : Fk} {v : Value} {w w' : World} (h : k.holds v w) (hb : Below w.heap.size w w') : k.holds v w' := by
  cases k with
  | any => trivial
  | tt => exact h
  | val x => exact h
  | cx K => obtain ⟨u, l, h1, h2, h3⟩ := h; exact ⟨u, l, h1, h2.mono fun p u hc => Cx.keep hb hc, h3⟩
  | ints l => exact Sl.keep h hb
  | ch L => exact Sl.keep h hb
  | cf f N S => obtain ⟨L, h1, h2, h3, h4, h5⟩ := h; exact ⟨L, h1, h2, h3, h4, h5.keep hb⟩
  | wd l => exact Sl.keep h hb
  | own b L => exact ⟨Nat.le_trans h.1 hb.size, ownsRow_below h.2 hb⟩
  | tup l => obtain ⟨r, h1, h2⟩ := h; exact ⟨r, h1, h2.keep hb⟩
/-- What a call yields. -/
def Gives (k : Fk) (w : World) (e : Ending) (w' : World) : Prop := ∃ r, e = .returned r ∧ k.holds r w' ∧ Below w.heap.size w w'

theorem build_run {P : Program} (w : World) (t e : TypeId) (len : Nat) (parts : Array (Nat × Value)) (cells : Array Value) (z : Value) (s b : Nat) (hu : P.underlying t = some (.slice e))
    (hi : (P.info? e).map (fun i => (i.zero, i.size, i.bytes)) = some (some z, s, b)) (hsmall : ¬ len * s > 2 ^ 24) (hpos : ¬ len * s = 0)
    (hf : Instr.fill (fun i => some (i * s, s)) ((Array.range (len * s)).map (z.cells[· % z.cells.size]!)) parts.toList = some cells) :
    (Instr.buildSlice t len parts).run P w = .ok (.slice (some ⟨w.heap.size, 0, none⟩) len len) (w.alloc (.cells cells e)) := by
  cases hie : P.info? e with
  | none => rw [hie] at hi; simp at hi
  | some ie =>
    rw [hie] at hi
    simp only [Option.map_some, Option.some.injEq, Prod.mk.injEq] at hi
    obtain ⟨h1, h2, _⟩ := hi
    subst h2
    exact run_buildSlice w t e len parts cells ie z hu hie h1 hsmall hpos hf

theorem co_none {L : List (Int × Int)} {c : Int} (h : ∀ p ∈ L, p.1 ≠ c) : co L c = 0 := co_zero L c h
/-- Equal at their own cells: equal everywhere. -/
theorem co_all {L M : List (Int × Int)} (h : ∀ p ∈ L ++ M, co L p.1 = co M p.1) (c : Int) : co L c = co M c := by
  rcases Classical.em (∃ p ∈ L ++ M, p.1 = c) with ⟨p, hp, rfl⟩ | hn
  · exact h p hp
  · rw [co_none (fun p hp e => hn ⟨p, List.mem_append.2 (.inl hp), e⟩), co_none (fun p hp e => hn ⟨p, List.mem_append.2 (.inr hp), e⟩)]

/-- The sides of cells, each with its cell's number. -/
def rawsK (K : List Cl) : List (Int × Sd) := K.flatMap fun x => x.s.map fun y => (x.id, y)
theorem raws_cl (l : List Ce) : raws l = rawsK (l.map Ce.cl) := by
  induction l with
  | nil => rfl
  | cons x l ih => show _ ++ raws l = _; rw [ih]; rfl
/-- Cells in the bounds. -/
def KOk (K : List Cl) : Prop := ∀ x ∈ K, (I64 x.id ∧ I64 x.dim) ∧ x.s.length ≤ 1099511627776 ∧ ∀ s ∈ x.s, I64 s.c ∧ I64 s.g
theorem KOk.cok {K : List Cl} {l : List Ce} (h : KOk K) (hl : l.map Ce.cl = K) : COk l := fun x hx => by
  have := h x.cl (by rw [← hl]; exact List.mem_map.2 ⟨x, hx, rfl⟩)
  exact this
/-- Numbers in the bounds, of at most S bytes. -/
def LOk (S : Nat) (L : List (Int × Int)) : Prop := ∀ p ∈ L, I64 p.1 ∧ nb p.2 ≤ S
theorem LOk.tok {S : Nat} {L : List (Int × Int)} (h : LOk S L) : TOk S (ctm L) := fun t ht => by
  obtain ⟨p, hp, rfl⟩ := List.mem_map.1 ht
  exact ⟨(h p hp).1.1, (h p hp).1.2, by show (mg p.2).size ≤ S; rw [mg_size]; exact (h p hp).2⟩

section
variable {P : Program} {Q : Exit → Act → World → Prop} {o : Oper} {a : Act} {w : World} {K : Act → World → Prop}
theorem do_extract (x : Operand) (i : Nat) (hop : o.op = .extract x i) (vs : Array Value) (hx : a.eval x = .tuple vs) (v : Value) (hv : vs[i]? = some v) (h : K (a.put o.dst v) w) : Oper.wp P o a w K Q := by
  unfold Oper.wp
  simp [execOp, hop, hx, Instr.extract, hv]
  exact h
/-- Steps by kinds: what is left to show of an operation. -/
def Stp (P : Program) (Q : Exit → Act → World → Prop) (k : Fk) (o : Oper) (a : Act) (w : World) : Prop := Oper.wp P o a w (fun a' w'' => ∃ v, a' = a.put o.dst v ∧ k.holds v w'' ∧ Below w.heap.size w w'') Q
variable {k : Fk}
theorem stp_move (x : Operand) (hop : o.op = .move x ∨ o.op = .assign x) (h : k.holds (a.eval x) w) : Stp P Q k o a w := do_move x hop ⟨_, rfl, h, Below.refl _ _⟩
theorem stp_pick (c x y : Operand) (hop : o.op = .pick c x y) (hc : a.eval c = .bool true) (h : k.holds (a.eval x) w) : Stp P Q k o a w := do_pick c x y hop hc ⟨_, rfl, h, Below.refl _ _⟩
theorem stp_call (f : Nat) (xs : Array Operand) (ts : Array TypeId) (hop : o.op = .call { callee := .value (.func f), args := xs, argTypes := ts }) (ef : ∀ args w, (callFunc f args).run P w = .ok (.enter f args) w)
    (vs : Array Value) (hv : xs.map a.eval = vs) (h : Calls P f vs w (Gives k w)) : Stp P Q k o a w :=
  do_call f xs ts hop ef vs hv (h.mono fun _ _ ⟨r, he, hk, hb⟩ => ⟨r, he, r, rfl, hk, hb⟩)
theorem stp_extract (x : Operand) (i : Nat) (hop : o.op = .extract x i) (vs : Array Value) (hx : a.eval x = .tuple vs) (v : Value) (hv : vs[i]? = some v) (h : k.holds v w) : Stp P Q k o a w := do_extract x i hop vs hx v hv ⟨_, rfl, h, Below.refl _ _⟩
theorem stp_load (t : Nat) (x : Operand) (hop : o.op = .load t x) (v1 : Value) (h1 : a.eval x = v1) (v : Value) (hrun : (Instr.loadAt t v1).run P w = .ok v w) (h : k.holds v w) : Stp P Q k o a w := do_load t x hop v1 h1 v hrun ⟨_, rfl, h, Below.refl _ _⟩
theorem stp_build (t : Nat) (parts : Array (Nat × Operand)) (hop : o.op = .build t parts) (vals : Array (Nat × Value)) (hp : parts.map (fun p => (p.1, a.eval p.2)) = vals) (v : Value)
    (hrun : (Instr.build t vals).run P w = .ok v w) (h : k.holds v w) : Stp P Q k o a w := do_build t parts hop vals hp v hrun ⟨_, rfl, h, Below.refl _ _⟩
theorem stp_bin (op : BinOp) (t t2 : Nat) (x y : Operand) (hop : o.op = .binOp op t x y t2) (v1 v2 : Value) (h1 : a.eval x = v1) (h2 : a.eval y = v2) (v : Value) (he : (eqGuard op t x y v1 v2).run P w = .ok () w) (hrun : (Go.binOp op t v1 v2).run P w = .ok v w) (h : k.holds v w) : Stp P Q k o a w :=
  do_bin op t t2 x y hop v1 v2 h1 h2 v he hrun ⟨_, rfl, h, Below.refl _ _⟩
theorem stp_slice (t n : Nat) (parts : Array (Nat × Operand)) (hop : o.op = .buildSlice t n parts) (vals : Array (Nat × Value)) (hp : parts.map (fun p => (p.1, a.eval p.2)) = vals) (cells : Array Value) (e : TypeId)
    (hrun : (Instr.buildSlice t n vals).run P w = .ok (.slice (some ⟨w.heap.size, 0, none⟩) n n) (w.alloc (.cells cells e))) (h : k.holds (.slice (some ⟨w.heap.size, 0, none⟩) n n) (w.alloc (.cells cells e))) : Stp P Q k o a w :=
  do_slice t n parts hop vals hp _ _ hrun ⟨_, rfl, h, (Below.refl _ _).alloc (Nat.le_refl _) _⟩
theorem wanted_tt {ops : Array Oper} (j d : Nat) (hg : o.guard = some (j, true)) (hj : (ops[j]?).bind (·.dst) = some d) (hs : d < a.tmps.size) (h : a.tmps.getD d undef = .bool true) : Region.wanted o (yielded ops a.tmps) = true := by
  have h1 : a.tmps[d]? = some (.bool true) := by
    rw [Array.getD_eq_getD_getElem?, Array.getElem?_eq_getElem hs] at h
    rw [Array.getElem?_eq_getElem hs]
    exact congrArg some h
  unfold Region.wanted
  rw [hg]
  show (yielded ops a.tmps j == some true) = true
  unfold yielded
  rw [hj]
  show ((match a.tmps[d]? with | some (.bool b) => some b | _ => none) == some true) = true
  rw [h1]; rfl
/-- No operation writes to a slot. -/
def noDst (ops : Array Oper) (s : Nat) : Bool := (List.range ops.size).all fun i => (ops[i]?).bind (·.dst) != some s
theorem noDst_spec {ops : Array Oper} {s : Nat} (h : noDst ops s = true) (i : Nat) (o : Oper) (ho : ops[i]? = some o) : o.dst ≠ some s := fun e => by
  have h1 := List.all_eq_true.1 h i (List.mem_range.2 (Array.getElem?_eq_some_iff.1 ho).1)
  rw [ho] at h1
  simp [e] at h1
end
theorem enter_fn {P : Program} {f : Nat} {fn : Func} (hf : P.funcs[f]? = some fn) (h1 : (fn.name == "runtime.NumGoroutine") = false) (h2 : fn.body.isNone = false) (args : Array Value) (w : World) : (callFunc f args).run P w = .ok (.enter f args) w := by
  have h3 : ¬ fn.name = "runtime.NumGoroutine" := by simpa using h1
  have h4 : ¬ fn.body = none := fun e => by rw [e] at h2; cases h2
  simp [callFunc, hf, h3, h4, go_sem]
theorem ilit (w : World) (t : TypeId) (l : List (Int × Int)) (n : Nat) (h : (pv l).length = n) (hn : n ≤ 1099511627776) : (Fk.ints l).holds (.slice (some ⟨w.heap.size, 0, none⟩) n n) (w.alloc (.cells (pv l).toArray t)) := slLit2 w t 1 (pv l) n (by omega) (by unfold maxLen; omega)
theorem hin_of {K : List Cl} {d : Int} {L : List (Int × Int)} (h : ∀ p ∈ L, ∃ x ∈ K, x.id = p.1 ∧ x.dim = d) (c : Int) (hc : co L c ≠ 0) : ∃ x ∈ K, x.id = c ∧ x.dim = d := by
  rcases Classical.em (∃ p ∈ L, p.1 = c) with ⟨p, hp, rfl⟩ | hn
  · exact h p hp
  · exact absurd (co_none fun p hp e => hn ⟨p, hp, e⟩) hc
theorem lok {L : List (Int × Int)} (h : ∀ p ∈ L, (0 ≤ p.1 ∧ p.1 ≤ 100) ∧ p.2.natAbs < 256) : LOk 100 L := fun p hp => ⟨by have := h p hp; unfold I64; omega, Nat.le_trans (nb_le p.2 1 (by have := (h p hp).2; omega)) (by omega)⟩


theorem ef_law07_terms : ∀ args w, (callFunc 48 args).run Tryz.prog w = .ok (.enter 48 args) w := enter_fn Tryz.func48 (by kernel_rfl) (by kernel_rfl)
theorem ef_chains_Vector : ∀ args w, (callFunc 16 args).run Tryz.prog w = .ok (.enter 16 args) w := enter_fn Tryz.func16 (by kernel_rfl) (by kernel_rfl)
theorem ef_chains_Boundary : ∀ args w, (callFunc 19 args).run Tryz.prog w = .ok (.enter 19 args) w := enter_fn Tryz.func19 (by kernel_rfl) (by kernel_rfl)
theorem ef_chains_Coboundary : ∀ args w, (callFunc 21 args).run Tryz.prog w = .ok (.enter 21 args) w := enter_fn Tryz.func21 (by kernel_rfl) (by kernel_rfl)
theorem ef_ref07_Same : ∀ args w, (callFunc 18 args).run Tryz.prog w = .ok (.enter 18 args) w := enter_fn Tryz.func18 (by kernel_rfl) (by kernel_rfl)
theorem ef_chains_Pair : ∀ args w, (callFunc 27 args).run Tryz.prog w = .ok (.enter 27 args) w := enter_fn Tryz.func27 (by kernel_rfl) (by kernel_rfl)
theorem ef_ref01_From : ∀ args w, (callFunc 39 args).run Tryz.prog w = .ok (.enter 39 args) w := enter_fn Tryz.func39 (by kernel_rfl) (by kernel_rfl)
theorem ef_ref04_Lists : ∀ args w, (callFunc 25 args).run Tryz.prog w = .ok (.enter 25 args) w := enter_fn Tryz.func25 (by kernel_rfl) (by kernel_rfl)
theorem ef_chains_Canon : ∀ args w, (callFunc 31 args).run Tryz.prog w = .ok (.enter 31 args) w := enter_fn Tryz.func31 (by kernel_rfl) (by kernel_rfl)
theorem laTerms' (v : Value) (l : List (Int × Int)) (w : World) (h : (Fk.ints l).holds v w) (hl0 : l.length ≤ 1099511627776) (hr : ∀ p ∈ l, I64 p.1 ∧ I64 p.2) :
    Calls Tryz.prog 48 #[v] w (Gives (.ch l) w) :=
  (laTerms v l w h hl0 hr).mono fun _ _ ⟨r, he, hr, hb⟩ => ⟨r, he, Sl.of_ownsRow hr, hb⟩

theorem cres_ch {w w' : World} {r : Value} {f : Int → Int} {N : Nat} (h : CRes w w' r f N) {M : List (Int × Int)} (hM : Cn M) (hf : ∀ c, f c = co M c) : (Fk.ch M).holds r w' := by
  obtain ⟨⟨L, h1, h2, h3, h4⟩, _⟩ := h
  have : L = M := Cn.uniq h1 hM fun c => (h2 c).trans (hf c)
  subst this
  exact Sl.of_ownsRow h4

theorem chBoundary' (v u : Value) (K : List Cl) (L M : List (Int × Int)) (w : World) (h : (Fk.cx K).holds v w) (k : (Fk.ch L).holds u w) (hK : KOk K) (hL : LOk 100 L) (hb : L.length + (rawsK K).length ≤ 1000) (hM : Cn M) (hf : ∀ c, co (bdL (co L) (rawsK K)) c = co M c) :
    Calls Tryz.prog 19 #[v, u] w (Gives (.ch M) w) := by
  obtain ⟨x, l, rfl, h1, h2⟩ := h
  refine (chBoundary x l u (ctm L) 100 w h1 (hK.cok h2) k hL.tok (by rw [ctm_len, raws_cl, h2]; omega)).mono fun e w' ⟨r, he, hc⟩ => ⟨r, he, cres_ch hc hM fun c => ?_, hc.below⟩
  rw [prs_ctm, raws_cl, h2]; exact hf c
theorem chCoboundary' (v u : Value) (K : List Cl) (L M : List (Int × Int)) (w : World) (h : (Fk.cx K).holds v w) (k : (Fk.ch L).holds u w) (hK : KOk K) (hL : LOk 100 L) (hb : L.length + (rawsK K).length ≤ 1000) (hM : Cn M) (hf : ∀ c, co (cbL (co L) (rawsK K)) c = co M c) :
    Calls Tryz.prog 21 #[v, u] w (Gives (.ch M) w) := by
  obtain ⟨x, l, rfl, h1, h2⟩ := h
  refine (chCoboundary x l u (ctm L) 100 w h1 (hK.cok h2) k hL.tok (by rw [ctm_len, raws_cl, h2]; omega)).mono fun e w' ⟨r, he, hc⟩ => ⟨r, he, cres_ch hc hM fun c => ?_, hc.below⟩
  rw [prs_ctm, raws_cl, h2]; exact hf c
theorem svSame' (v u : Value) (L : List (Int × Int)) (w : World) (h : (Fk.ch L).holds v w) (k : (Fk.ch L).holds u w) :
    Calls Tryz.prog 18 #[v, u] w (Gives .tt w) :=
  (svSame v u _ _ w h k).mono fun e w' ⟨q, he, hq, hb⟩ => ⟨_, he, by show Value.bool q = _; rw [hq.2 rfl], hb⟩
theorem chPair' (v u : Value) (L M : List (Int × Int)) (z : Int) (w : World) (h : (Fk.ch L).holds v w) (k : (Fk.ch M).holds u w) (hL : LOk 100 L) (hM : LOk 100 M) (hb : L.length + 2 * M.length ≤ 1000) (hz : pg (co L) M = z) :
    Calls Tryz.prog 27 #[v, u] w (Gives (.val (wv z)) w) :=
  (chPair v u _ _ 100 w h k hL.tok hM.tok (by rw [ctm_len, ctm_len]; omega)).mono fun e w' ⟨he, hb⟩ => ⟨_, he, by rw [prs_ctm, prs_ctm, hz]; rfl, hb⟩
theorem chCanon' (v : Value) (L M : List (Int × Int)) (w : World) (h : (Fk.ch L).holds v w) (hL : LOk 100 L) (hb : L.length ≤ 1000) (hM : Cn M) (hf : ∀ c, co L c = co M c) :
    Calls Tryz.prog 31 #[v] w (Gives (.ch M) w) :=
  (chCanon v (ctm L) 100 w h hL.tok (by rw [ctm_len]; omega)).mono fun e w' ⟨r, he, hc⟩ => ⟨r, he, cres_ch hc hM fun c => by rw [prs_ctm]; exact hf c, hc.below⟩
theorem chVector' (v u : Value) (d : Int) (K : List Cl) (L : List (Int × Int)) (vs : List Int) (w : World) (h : (Fk.cx K).holds v w) (k : (Fk.ch L).holds u w) (hK : KOk K) (hL : LOk 100 L) (hb : L.length ≤ 1000) (hKl : K.length ≤ 1000) (hin : ∀ c, co L c ≠ 0 → ∃ x ∈ K, x.id = c ∧ x.dim = d) (hvs : (idsOf K d).map (co L) = vs) :
    Calls Tryz.prog 16 #[v, .int .i64 d, u] w (Gives (.tup vs) w) := by
  obtain ⟨x, l, rfl, h1, h2⟩ := h
  refine (chVector x l d u (ctm L) 100 w h1 (by rw [← h2, List.length_map] at hKl; omega) (hK.cok h2) k hL.tok (by rw [ctm_len]; omega)).mono fun e w' ⟨r, q, he, hq, hr, _, hb⟩ => ?_
  have hq1 : q = true := hq.2 fun c hc => by
    rw [prs_ctm] at hc
    obtain ⟨y, hy, h3, h4⟩ := hin c hc
    rw [← h2] at hy
    obtain ⟨z, hz, rfl⟩ := List.mem_map.1 hy
    exact ⟨z, hz, h3, h4⟩
  subst hq1
  refine ⟨_, he, ⟨r, rfl, ?_⟩, hb⟩
  have := Sl.of_ownsRow (hr rfl)
  rw [h2, prs_ctm, hvs] at this
  exact this
theorem refLists' (v u : Value) (l : List Int) (w : World) (h : (Fk.wd l).holds v w) (k : (Fk.wd l).holds u w) (hb : ∀ x ∈ l, nb x ≤ 1000) :
    Calls Tryz.prog 25 #[v, u] w (Gives .tt w) := by
  have hs : ∀ x ∈ l.map (fun x => (decide (x < 0), mg x)), x.2.size ≤ 1099511627775 := fun x hx => by
    obtain ⟨y, hy, rfl⟩ := List.mem_map.1 hx
    have := hb y hy
    show (mg y).size ≤ _
    rw [mg_size]; omega
  exact (refLists v u _ _ w (wvs_bws l ▸ h) (wvs_bws l ▸ k) hs hs).mono fun e w' ⟨q, he, hq, hb⟩ => ⟨_, he, by show Value.bool q = _; rw [hq.2 rfl], hb⟩
theorem refFrom' (x : Int) (w : World) (h : I64 x) : Calls Tryz.prog 39 #[.int .i64 x] w (Gives (.val (wv x)) w) :=
  (refFrom x w h.1 h.2).mono fun _ _ ⟨he, hb⟩ => ⟨_, he, rfl, hb⟩
theorem laTriangle' (w : World) : Calls Tryz.prog 47 #[] w (Gives (.cx [⟨1, 0, []⟩, ⟨2, 0, []⟩, ⟨3, 0, []⟩, ⟨4, 1, [⟨1, -1⟩, ⟨2, 1⟩]⟩, ⟨5, 1, [⟨1, -1⟩, ⟨3, 1⟩]⟩, ⟨6, 1, [⟨2, -1⟩, ⟨3, 1⟩]⟩, ⟨7, 2, [⟨4, 1⟩, ⟨5, -1⟩, ⟨6, 1⟩]⟩]) w) :=
  (laTriangle w).mono fun _ _ ⟨v, l, he, h1, h2, hb⟩ => ⟨_, he, ⟨v, l, rfl, h1, h2⟩, hb⟩

end Go.Proofs.YtfcmpolhcpbliaaGreatDoor
