/- A region that draws its order, whose operations only lay new blocks: each yields what is told of it, in whatever order. No program. As region_facts, where an operation may kill facts (an append that writes in place). No program. cocyclelaw07: terms, triangle; cocycleref01.Cmp; cocycleref04.Lists. cocyclelaw07: triangle. cocycleref04.Lists. -/
import Derived.OrdersHeld
import Derived.Test.YtfcmpolhcpbliaaGreatDoorMh
import Derived.Test.YtfcmpolhcpbliaaGreatDoorMk

namespace Go.Cx
open Go.RowKit
variable {P : Program} {ops : Array Oper} {Q : Exit → Act → World → Prop} {md : Region.Mode}

/-- Operation i waits for operation j. -/
def dep (md : Region.Mode) (ops : Array Oper) (i j : Nat) : Bool := ((ops[i]?).map fun o => o.after.any fun e => Region.binds md e && e.on == j).getD false
/-- Every operation has a place of its own for what it yields. -/
def ownDst (ops : Array Oper) (n : Nat) : Bool := (List.range ops.size).all fun i => ((ops[i]?).bind (·.dst)).isSome && decide ((((ops[i]?).bind (·.dst)).getD 0) < n) && (List.range i).all fun j => (ops[j]?).bind (·.dst) != (ops[i]?).bind (·.dst)
theorem ownDst_spec {n : Nat} (h : ownDst ops n = true) : ∀ (i : Nat) (o : Oper), ops[i]? = some o → ∃ d, o.dst = some d ∧ d < n ∧ ∀ (j : Nat) (oj : Oper), ops[j]? = some oj → j ≠ i → oj.dst ≠ some d := by
  have key : ∀ (i : Nat) (o : Oper), ops[i]? = some o → (∃ d, o.dst = some d ∧ d < n) ∧ ∀ (j : Nat) (oj : Oper), ops[j]? = some oj → j < i → oj.dst ≠ o.dst := fun i o ho => by
    have hi := (Array.getElem?_eq_some_iff.1 ho).1
    have h1 := List.all_eq_true.1 h i (List.mem_range.2 hi)
    simp only [Bool.and_eq_true, ho, Option.bind_some, decide_eq_true_eq] at h1
    obtain ⟨⟨h2, h3⟩, h4⟩ := h1
    obtain ⟨d, hd⟩ := Option.isSome_iff_exists.1 h2
    refine ⟨⟨d, hd, by rw [hd] at h3; exact h3⟩, fun j oj hj hlt => ?_⟩
    have := List.all_eq_true.1 h4 j (List.mem_range.2 hlt)
    rw [hj] at this
    simpa using this
  intro i o ho
  obtain ⟨⟨d, hd, hn⟩, h1⟩ := key i o ho
  refine ⟨d, hd, hn, fun j oj hj hne e => ?_⟩
  rcases Nat.lt_or_ge j i with hlt | hge
  · exact h1 j oj hj hlt (e.trans hd.symm)
  · exact (key j oj hj).2 i o ho (by omega) (hd.trans e.symm)

/-- Every operation waits for earlier ones alone. -/
def lexOk (md : Region.Mode) (ops : Array Oper) : Bool := (List.range ops.size).all fun i => ((ops[i]?).map fun o => o.after.all fun e => !(Region.binds md e) || decide (e.on < i)).getD true

/-- What holds when some have come up. -/
structure St (ops : Array Oper) (F : Nat → Value → World → Prop) (a0 : Act) (w0 : World) (listed : Array Bool) (a : Act) (w : World) : Prop where
  sz : a.tmps.size = a0.tmps.size
  df : a.defers = a0.defers
  fact : ∀ (i : Nat) (o : Oper) (d : Nat), ops[i]? = some o → o.dst = some d → listed.getD i false = true → F i (a.tmps.getD d undef) w
  base : ∀ s, (∀ (i : Nat) (o : Oper), ops[i]? = some o → o.dst ≠ some s) → a.tmps.getD s undef = a0.tmps.getD s undef
  below : Below w0.heap.size w0 w

/-- How many have not come up. -/
def unl (ops : Array Oper) (listed : Array Bool) : Nat := ((List.range ops.size).filter fun i => !listed.getD i false).length
theorem unl_set {listed : Array Bool} (hl : listed.size = ops.size) {i : Nat} (hi : i < ops.size) (hf : listed.getD i false = false) : unl ops (listed.setIfInBounds i true) < unl ops listed := by
  unfold unl
  have hsub : ∀ j, (listed.setIfInBounds i true).getD j false = (listed.getD j false || (i == j)) := fun j => by
    by_cases hj : i = j
    · subst hj; simp [hl, hi]
    · have : (i == j) = false := by simpa using hj
      rw [this, Bool.or_false]
      simp [hj]
  have h1 : ((List.range ops.size).filter fun j => !(listed.setIfInBounds i true).getD j false) = ((List.range ops.size).filter fun j => !listed.getD j false).filter (fun j => !(i == j)) := by
    rw [List.filter_filter]
    refine List.filter_congr fun j _ => ?_
    rw [hsub]; cases listed.getD j false <;> cases (i == j) <;> rfl
  rw [h1]
  refine List.length_filter_lt_length_iff_exists.2 ⟨i, List.mem_filter.2 ⟨List.mem_range.2 hi, by rw [hf]; rfl⟩, by simp⟩

theorem put_getD (a : Act) (d s : Nat) (v : Value) : (a.put (some d) v).tmps.getD s undef = if d = s ∧ d < a.tmps.size then v else a.tmps.getD s undef := by
  show (a.tmps.setIfInBounds d v).getD s undef = _
  by_cases h : d = s
  · subst h
    by_cases hd : d < a.tmps.size
    · rw [if_pos ⟨rfl, hd⟩]; simp [hd]
    · rw [if_neg (fun h => hd h.2)]; simp [hd]
  · rw [if_neg (fun h' => h h'.1)]
    simp [h]

theorem region_facts {id : Nat} {a0 : Act} {w : World} (hm : P.follows .mixedOrders = true) (F : Nat → Value → World → Prop) (n : Nat) (hn : a0.tmps.size = n) (hd : ownDst ops n = true) (hlx : lexOk .any ops = true)
    (hF : ∀ i v w w', F i v w → Below w.heap.size w w' → F i v w')
    (hstep : ∀ (i : Nat) (o : Oper), ops[i]? = some o → ∀ (a : Act) (w' : World), Below w.heap.size w w' → (∀ (j : Nat) (oj : Oper) (dj : Nat), ops[j]? = some oj → oj.dst = some dj → dep .any ops i j = true → F j (a.tmps.getD dj undef) w') →
      (∀ s, (∀ (i : Nat) (o : Oper), ops[i]? = some o → o.dst ≠ some s) → a.tmps.getD s undef = a0.tmps.getD s undef) → a.tmps.size = n →
      Region.wanted o (yielded ops a.tmps) = true ∧ Oper.wp P o a w' (fun a' w'' => ∃ v, a' = a.put o.dst v ∧ F i v w'' ∧ Below w'.heap.size w' w'') Q)
    (hdone : ∀ (a : Act) (w' : World), a.tmps.size = n → a.defers = a0.defers → (∀ (i : Nat) (o : Oper) (d : Nat), ops[i]? = some o → o.dst = some d → F i (a.tmps.getD d undef) w') →
      (∀ s, (∀ (i : Nat) (o : Oper), ops[i]? = some o → o.dst ≠ some s) → a.tmps.getD s undef = a0.tmps.getD s undef) → Below w.heap.size w w' → Q .normal a w') :
    (Code.region id ops true).wp P Q a0 w := by
  have hsp := ownDst_spec hd
  have main : ∀ (fuel : Nat) (listed : Array Bool) (a : Act) (w' : World), listed.size = ops.size → unl ops listed ≤ fuel → St ops F a0 w listed a w' → wpAny P .any ops Q fuel listed a w' := by
    intro fuel
    have fin : ∀ (listed : Array Bool) (a : Act) (w' : World), listed.size = ops.size → St ops F a0 w listed a w' → (∀ i : Nat, i < ops.size → listed.getD i false = true) → Q .normal a w' := fun listed a w' _ h hall =>
      hdone a w' (h.sz.trans hn) h.df (fun i o d ho hd' => h.fact i o d ho hd' (hall i (Array.getElem?_eq_some_iff.1 ho).1)) h.base h.below
    have allOf : ∀ (listed : Array Bool), unl ops listed = 0 → ∀ i : Nat, i < ops.size → listed.getD i false = true := fun listed h0 i hi => by
      cases hc : listed.getD i false with
      | true => rfl
      | false =>
        have : i ∈ (List.range ops.size).filter fun i => !listed.getD i false := List.mem_filter.2 ⟨List.mem_range.2 hi, by rw [hc]; rfl⟩
        rw [List.eq_nil_of_length_eq_zero h0] at this; cases this
    induction fuel with
    | zero =>
      intro listed a w' hl hu h
      have hall := allOf listed (by omega)
      refine ⟨?_, fin listed a w' hl h hall⟩
      rw [List.eq_nil_iff_forall_not_mem]
      intro j hj
      obtain ⟨h1, o, ho, _⟩ := mem_ready.1 hj
      have hjl := (Array.getElem?_eq_some_iff.1 ho).1
      have h2 := hall j hjl
      simp [hl, hjl] at h1 h2
      rw [h1] at h2; cases h2
    | succ fuel ih =>
      intro listed a w' hl hu h
      refine ⟨fun hnil => ?_, fun i hi => ?_⟩
      · refine fin listed a w' hl h fun i hi => ?_
        induction i using Nat.strongRecOn with
        | _ i ihi =>
          cases hc : listed.getD i false with
          | true => rfl
          | false =>
            exfalso
            obtain ⟨o, ho⟩ : ∃ o, ops[i]? = some o := ⟨_, Array.getElem?_eq_getElem hi⟩
            have hmem : i ∈ Region.ready .any ops listed := mem_ready.2 ⟨by simpa [hl, hi] using hc, o, ho, fun e he hb => by
              have h1 := List.all_eq_true.1 hlx i (List.mem_range.2 hi)
              rw [ho] at h1
              simp only [Option.map_some, Option.getD_some, Array.all_eq_true] at h1
              obtain ⟨k, hk, rfl⟩ := Array.getElem_of_mem he
              have h2 := h1 k hk
              rw [hb] at h2
              have h3 : (o.after[k]).on < i := by simpa using h2
              exact ihi _ h3 (by omega)⟩
            rw [hnil] at hmem; cases hmem
      · obtain ⟨h1, o, ho, hall⟩ := mem_ready.1 hi
        have hil := (Array.getElem?_eq_some_iff.1 ho).1
        have h1' : listed.getD i false = false := by simpa [hl, hil] using h1
        obtain ⟨d, hd1, hd2, hd3⟩ := hsp i o ho
        obtain ⟨hw, hwp⟩ := hstep i o ho a w' h.below (fun j oj dj hj hdj hdep => h.fact j oj dj hj hdj (by
          unfold dep at hdep
          rw [ho] at hdep
          simp only [Option.map_some, Option.getD_some, Array.any_eq_true] at hdep
          obtain ⟨k, hk, hb⟩ := hdep
          simp only [Bool.and_eq_true, beq_iff_eq] at hb
          have := hall _ (Array.getElem_mem hk) hb.1
          rwa [hb.2] at this)) h.base (h.sz.trans hn)
        unfold wpOp
        rw [ho]; dsimp only; rw [if_pos hw]
        refine .inl (Oper.wp_mono (fun a' w'' hx => ?_) hwp)
        obtain ⟨v, rfl, hv, hb⟩ := hx
        have hlt := unl_set hl hil h1'
        refine ih _ _ _ (by simpa using hl) (by omega) ⟨?_, ?_, fun j oj dj hj hdj hlj => ?_, fun s hs => ?_, h.below.trans (hb.mono h.below.size)⟩
        · rw [hd1]; show (a.tmps.setIfInBounds d v).size = _; simpa using h.sz
        · rw [hd1]; exact h.df
        · rw [hd1, put_getD]
          by_cases hji : j = i
          · subst hji
            rw [ho] at hj; injection hj with hj; subst hj
            rw [hd1] at hdj; injection hdj with hdj; subst hdj
            rw [if_pos ⟨rfl, by rw [h.sz, hn]; exact hd2⟩]; exact hv
          · rw [if_neg (fun e => hd3 j oj hj hji (by rw [hdj, e.1]))]
            refine hF _ _ _ _ (h.fact j oj dj hj hdj ?_) hb
            simp only [Array.getD_eq_getD_getElem?, Array.getElem?_setIfInBounds, Ne.symm hji, if_false] at hlj
            simpa using hlj
        · rw [hd1, put_getD, if_neg (fun e => hs i o ho (by rw [hd1, e.1]))]
          exact h.base s hs
  refine wp_region_any hm (main _ _ _ _ (by simp) ?_ ⟨rfl, rfl, fun i o d _ _ hlj => ?_, fun _ _ => rfl, (below_draws (Below.refl _ w) 1)⟩)
  · unfold unl
    exact Nat.le_trans (List.length_filter_le _ _) (by simp)
  · exfalso
    simp only [Array.getD_eq_getD_getElem?, Array.getElem?_replicate] at hlj
    split at hlj <;> simp at hlj

section
variable {o : Oper} {a : Act} {w : World} {K : Act → World → Prop}
theorem do_move (x : Operand) (hop : o.op = .move x ∨ o.op = .assign x) (h : K (a.put o.dst (a.eval x)) w) : Oper.wp P o a w K Q := by
  unfold Oper.wp
  rcases hop with hop | hop <;> simp [execOp, hop] <;> exact h
theorem do_pick (c x y : Operand) (hop : o.op = .pick c x y) (hc : a.eval c = .bool true) (h : K (a.put o.dst (a.eval x)) w) : Oper.wp P o a w K Q := by
  unfold Oper.wp
  simp [execOp, hop, hc, asBool]
  exact h
theorem do_call (f : Nat) (xs : Array Operand) (ts : Array TypeId) (hop : o.op = .call { callee := .value (.func f), args := xs, argTypes := ts }) (ef : ∀ args w, (callFunc f args).run P w = .ok (.enter f args) w)
    (vs : Array Value) (hv : xs.map a.eval = vs) (h : Calls P f vs w fun e w' => ∃ v, e = .returned v ∧ K (a.put o.dst v) w') : Oper.wp P o a w K Q := by
  subst hv
  have key : (execOp a.eval o).run P w = .ok (.enter f (xs.map a.eval)) w := by
    have h0 : a.eval (.func f) = .func (.func f) #[] #[] := rfl
    generalize a.eval = ρ at h0
    simp [execOp, hop, resolve, invoke, h0, ef, Deferred.ofValue]
  unfold Oper.wp
  rw [key]
  exact h.mono fun e w' ⟨v, he, hk⟩ => by subst he; exact hk
theorem do_slice (t n : Nat) (parts : Array (Nat × Operand)) (hop : o.op = .buildSlice t n parts) (vals : Array (Nat × Value)) (hp : parts.map (fun p => (p.1, a.eval p.2)) = vals) (v : Value) (w2 : World)
    (hrun : (Instr.buildSlice t n vals).run P w = .ok v w2) (h : K (a.put o.dst v) w2) : Oper.wp P o a w K Q := by
  subst hp
  unfold Oper.wp
  simp [execOp, hop, hrun, Result.andThen]
  exact h
theorem do_build (t : Nat) (parts : Array (Nat × Operand)) (hop : o.op = .build t parts) (vals : Array (Nat × Value)) (hp : parts.map (fun p => (p.1, a.eval p.2)) = vals) (v : Value)
    (hrun : (Instr.build t vals).run P w = .ok v w) (h : K (a.put o.dst v) w) : Oper.wp P o a w K Q := by
  subst hp
  unfold Oper.wp
  simp [execOp, hop, hrun, Result.andThen]
  exact h
theorem do_load (t : Nat) (x : Operand) (hop : o.op = .load t x) (v1 : Value) (h1 : a.eval x = v1) (v : Value) (hrun : (Instr.loadAt t v1).run P w = .ok v w) (h : K (a.put o.dst v) w) : Oper.wp P o a w K Q := by
  subst h1
  unfold Oper.wp
  simp [execOp, hop, hrun, Result.andThen]
  exact h
theorem do_unop (op : UnOp) (t : Nat) (x : Operand) (hop : o.op = .unOp op t x) (v1 : Value) (h1 : a.eval x = v1) (v : Value) (hrun : (Op.unary op v1).run P w = .ok v w) (h : K (a.put o.dst v) w) : Oper.wp P o a w K Q := by
  subst h1
  unfold Oper.wp
  simp [execOp, hop, hrun, Result.andThen]
  exact h
theorem do_bin (op : BinOp) (t t2 : Nat) (x y : Operand) (hop : o.op = .binOp op t x y t2) (v1 v2 : Value) (h1 : a.eval x = v1) (h2 : a.eval y = v2) (v : Value) (he : (eqGuard op t x y v1 v2).run P w = .ok () w) (hrun : (Go.binOp op t v1 v2).run P w = .ok v w) (h : K (a.put o.dst v) w) : Oper.wp P o a w K Q := by
  subst h1 h2
  unfold Oper.wp
  simp [execOp, hop, he, hrun, Result.andThen]
  exact h
end

end Go.Cx

namespace Go.Cx
open Go.RowKit
variable {P : Program} {ops : Array Oper} {Q : Exit → Act → World → Prop} {md : Region.Mode}

/-- k comes after i, along given edges. -/
def rch (md : Region.Mode) (ops : Array Oper) (pv : List Nat) : Nat → Nat → Nat → Bool
  | 0, _, _ => false
  | f + 1, k, i => dep md ops k i || (dep md ops k (pv.getD k 0) && rch md ops pv f (pv.getD k 0) i)
/-- What holds when some have come up; what one operation kills no longer holds once it has come up. -/
structure St2 (md : Region.Mode) (ops : Array Oper) (kil : Nat → Nat → Bool) (F : Nat → Value → World → Prop) (a0 : Act) (w0 : World) (listed : Array Bool) (a : Act) (w : World) : Prop where
  sz : a.tmps.size = a0.tmps.size
  df : a.defers = a0.defers
  fact : ∀ (i : Nat) (o : Oper) (d : Nat), ops[i]? = some o → o.dst = some d → listed.getD i false = true → (∀ k, listed.getD k false = true → kil k i = false) → F i (a.tmps.getD d undef) w
  base : ∀ s, (∀ (i : Nat) (o : Oper), ops[i]? = some o → o.dst ≠ some s) → a.tmps.getD s undef = a0.tmps.getD s undef
  below : Below w0.heap.size w0 w
  closed : ∀ i, listed.getD i false = true → ∀ j, dep md ops i j = true → listed.getD j false = true
theorem rch_listed {listed : Array Bool} {pv : List Nat} (hc : ∀ i, listed.getD i false = true → ∀ j, dep md ops i j = true → listed.getD j false = true) : ∀ (f k i : Nat), rch md ops pv f k i = true → listed.getD k false = true → listed.getD i false = true := by
  intro f
  induction f with
  | zero => intro k i h; cases h
  | succ f ih =>
    intro k i h hk
    unfold rch at h
    rw [Bool.or_eq_true, Bool.and_eq_true] at h
    rcases h with h | ⟨h1, h2⟩
    · exact hc k hk i h
    · exact ih _ _ h2 (hc k hk _ h1)
/-- Where an operation needs what another kills, the other waits for it. -/
def kilOk (md : Region.Mode) (ops : Array Oper) (kil need : Nat → Nat → Bool) (pv : List Nat) (f : Nat) : Bool :=
  (List.range ops.size).all fun i => (List.range ops.size).all fun j => !(dep md ops i j && need i j) || (List.range ops.size).all fun k => !kil k j || i == k || rch md ops pv f k i

/-- What is late for k comes after k. -/
def lateOk (md : Region.Mode) (ops : Array Oper) (late : Nat → Nat → Bool) (pv : List Nat) (f : Nat) : Bool :=
  (List.range ops.size).all fun k => (List.range ops.size).all fun i => !late k i || rch md ops pv f i k

theorem region_facts2 {id : Nat} {a0 : Act} {w : World} (hm : P.follows .mixedOrders = true) (F : Nat → Value → World → Prop) (kil need late : Nat → Nat → Bool) (Rl : Nat → World → World → Prop) (pv : List Nat) (fu : Nat) (hko : kilOk .any ops kil need pv fu = true) (hlt : lateOk .any ops late pv fu = true) (hks : ∀ k j, kil k j = true → k < ops.size) (n : Nat) (hn : a0.tmps.size = n) (hd : ownDst ops n = true) (hlx : lexOk .any ops = true)
    (hF : ∀ k i v w w', kil k i = false → i ≠ k → late k i = false → F i v w → Rl k w w' → F i v w')
    (hR : ∀ k w' w'', Below w.heap.size w w' → Rl k w' w'' → Below w.heap.size w' w'')
    (hstep : ∀ (i : Nat) (o : Oper), ops[i]? = some o → ∀ (a : Act) (w' : World), Below w.heap.size w w' → (∀ (j : Nat) (oj : Oper) (dj : Nat), ops[j]? = some oj → oj.dst = some dj → (dep .any ops i j && need i j) = true → F j (a.tmps.getD dj undef) w') →
      (∀ s, (∀ (i : Nat) (o : Oper), ops[i]? = some o → o.dst ≠ some s) → a.tmps.getD s undef = a0.tmps.getD s undef) → a.tmps.size = n →
      Region.wanted o (yielded ops a.tmps) = true ∧ Oper.wp P o a w' (fun a' w'' => ∃ v, a' = a.put o.dst v ∧ F i v w'' ∧ Rl i w' w'') Q)
    (hdone : ∀ (a : Act) (w' : World), a.tmps.size = n → a.defers = a0.defers → (∀ (i : Nat) (o : Oper) (d : Nat), ops[i]? = some o → o.dst = some d → (∀ k, kil k i = false) → F i (a.tmps.getD d undef) w') →
      (∀ s, (∀ (i : Nat) (o : Oper), ops[i]? = some o → o.dst ≠ some s) → a.tmps.getD s undef = a0.tmps.getD s undef) → Below w.heap.size w w' → Q .normal a w') :
    (Code.region id ops true).wp P Q a0 w := by
  have hsp := ownDst_spec hd
  have main : ∀ (fuel : Nat) (listed : Array Bool) (a : Act) (w' : World), listed.size = ops.size → unl ops listed ≤ fuel → St2 .any ops kil F a0 w listed a w' → wpAny P .any ops Q fuel listed a w' := by
    intro fuel
    have fin : ∀ (listed : Array Bool) (a : Act) (w' : World), listed.size = ops.size → St2 .any ops kil F a0 w listed a w' → (∀ i : Nat, i < ops.size → listed.getD i false = true) → Q .normal a w' := fun listed a w' _ h hall =>
      hdone a w' (h.sz.trans hn) h.df (fun i o d ho hd' hnk => h.fact i o d ho hd' (hall i (Array.getElem?_eq_some_iff.1 ho).1) (fun k _ => hnk k)) h.base h.below
    have allOf : ∀ (listed : Array Bool), unl ops listed = 0 → ∀ i : Nat, i < ops.size → listed.getD i false = true := fun listed h0 i hi => by
      cases hc : listed.getD i false with
      | true => rfl
      | false =>
        have : i ∈ (List.range ops.size).filter fun i => !listed.getD i false := List.mem_filter.2 ⟨List.mem_range.2 hi, by rw [hc]; rfl⟩
        rw [List.eq_nil_of_length_eq_zero h0] at this; cases this
    induction fuel with
    | zero =>
      intro listed a w' hl hu h
      have hall := allOf listed (by omega)
      refine ⟨?_, fin listed a w' hl h hall⟩
      rw [List.eq_nil_iff_forall_not_mem]
      intro j hj
      obtain ⟨h1, o, ho, _⟩ := mem_ready.1 hj
      have hjl := (Array.getElem?_eq_some_iff.1 ho).1
      have h2 := hall j hjl
      simp [hl, hjl] at h1 h2
      rw [h1] at h2; cases h2
    | succ fuel ih =>
      intro listed a w' hl hu h
      refine ⟨fun hnil => ?_, fun i hi => ?_⟩
      · refine fin listed a w' hl h fun i hi => ?_
        induction i using Nat.strongRecOn with
        | _ i ihi =>
          cases hc : listed.getD i false with
          | true => rfl
          | false =>
            exfalso
            obtain ⟨o, ho⟩ : ∃ o, ops[i]? = some o := ⟨_, Array.getElem?_eq_getElem hi⟩
            have hmem : i ∈ Region.ready .any ops listed := mem_ready.2 ⟨by simpa [hl, hi] using hc, o, ho, fun e he hb => by
              have h1 := List.all_eq_true.1 hlx i (List.mem_range.2 hi)
              rw [ho] at h1
              simp only [Option.map_some, Option.getD_some, Array.all_eq_true] at h1
              obtain ⟨k, hk, rfl⟩ := Array.getElem_of_mem he
              have h2 := h1 k hk
              rw [hb] at h2
              have h3 : (o.after[k]).on < i := by simpa using h2
              exact ihi _ h3 (by omega)⟩
            rw [hnil] at hmem; cases hmem
      · obtain ⟨h1, o, ho, hall⟩ := mem_ready.1 hi
        have hil := (Array.getElem?_eq_some_iff.1 ho).1
        have h1' : listed.getD i false = false := by simpa [hl, hil] using h1
        obtain ⟨d, hd1, hd2, hd3⟩ := hsp i o ho
        have hdl : ∀ j, dep .any ops i j = true → listed.getD j false = true := fun j hdep => by
          unfold dep at hdep
          rw [ho] at hdep
          simp only [Option.map_some, Option.getD_some, Array.any_eq_true] at hdep
          obtain ⟨k, hk, hb⟩ := hdep
          simp only [Bool.and_eq_true, beq_iff_eq] at hb
          have := hall _ (Array.getElem_mem hk) hb.1
          rwa [hb.2] at this
        have hnk : ∀ j (oj : Oper), ops[j]? = some oj → (dep .any ops i j && need i j) = true → ∀ k, listed.getD k false = true → kil k j = false := fun j oj hj hdep k hk => by
          cases hc : kil k j with
          | false => rfl
          | true =>
            exfalso
            have hkl := hks k j hc
            have hjl := (Array.getElem?_eq_some_iff.1 hj).1
            have e1 := List.all_eq_true.1 (List.all_eq_true.1 hko i (List.mem_range.2 hil)) j (List.mem_range.2 hjl)
            rw [hdep, Bool.not_true, Bool.false_or] at e1
            have e2 := List.all_eq_true.1 e1 k (List.mem_range.2 hkl)
            rw [hc, Bool.not_true, Bool.false_or, Bool.or_eq_true, beq_iff_eq] at e2
            rcases e2 with e2 | e2
            · subst e2; rw [h1'] at hk; cases hk
            · have := rch_listed h.closed fu k i e2 hk
              rw [h1'] at this; cases this
        obtain ⟨hw, hwp⟩ := hstep i o ho a w' h.below (fun j oj dj hj hdj hdep => h.fact j oj dj hj hdj (hdl j (Bool.and_eq_true_iff.1 hdep).1) (hnk j oj hj hdep)) h.base (h.sz.trans hn)
        have hset : ∀ j, (listed.setIfInBounds i true).getD j false = true ↔ (j = i ∨ listed.getD j false = true) := fun j => by
          by_cases hj : i = j
          · subst hj; simp [hl, hil]
          · have hj' : ¬ j = i := fun e => hj e.symm
            simp [hj, hj']
        unfold wpOp
        rw [ho]; dsimp only; rw [if_pos hw]
        refine .inl (Oper.wp_mono (fun a' w'' hx => ?_) hwp)
        obtain ⟨v, rfl, hv, hb⟩ := hx
        have hul := unl_set hl hil h1'
        refine ih _ _ _ (by simpa using hl) (by omega) ⟨?_, ?_, fun j oj dj hj hdj hlj hnk' => ?_, fun s hs => ?_, h.below.trans (hR i _ _ h.below hb), fun m hm j hmj => ?_⟩
        · rw [hd1]; show (a.tmps.setIfInBounds d v).size = _; simpa using h.sz
        · rw [hd1]; exact h.df
        · rw [hd1, put_getD]
          by_cases hji : j = i
          · subst hji
            rw [ho] at hj; injection hj with hj; subst hj
            rw [hd1] at hdj; injection hdj with hdj; subst hdj
            rw [if_pos ⟨rfl, by rw [h.sz, hn]; exact hd2⟩]; exact hv
          · rw [if_neg (fun e => hd3 j oj hj hji (by rw [hdj, e.1]))]
            have hjl : listed.getD j false = true := by
              rcases (hset j).1 hlj with e | e
              · exact absurd e hji
              · exact e
            have hla : late i j = false := by
              cases hc : late i j with
              | false => rfl
              | true =>
                exfalso
                have e1 := List.all_eq_true.1 (List.all_eq_true.1 hlt i (List.mem_range.2 hil)) j (List.mem_range.2 (Array.getElem?_eq_some_iff.1 hj).1)
                rw [hc, Bool.not_true, Bool.false_or] at e1
                have := rch_listed h.closed fu j i e1 hjl
                rw [h1'] at this; cases this
            refine hF i _ _ _ _ (hnk' i ((hset i).2 (.inl rfl))) hji hla (h.fact j oj dj hj hdj ?_ fun k hk => hnk' k ((hset k).2 (.inr hk))) hb
            rcases (hset j).1 hlj with e | e
            · exact absurd e hji
            · exact e
        · rw [hd1, put_getD, if_neg (fun e => hs i o ho (by rw [hd1, e.1]))]
          exact h.base s hs
        · rcases (hset m).1 hm with e | e
          · subst e; exact (hset j).2 (.inr (hdl j hmj))
          · exact (hset j).2 (.inr (h.closed m e j hmj))
  refine wp_region_any hm (main _ _ _ _ (by simp) ?_ ⟨rfl, rfl, fun i o d _ _ hlj _ => ?_, fun _ _ => rfl, (below_draws (Below.refl _ w) 1), fun i hlj => ?_⟩)
  · unfold unl
    exact Nat.le_trans (List.length_filter_le _ _) (by simp)
  all_goals
    exfalso
    simp only [Array.getD_eq_getD_getElem?, Array.getElem?_replicate] at hlj
    split at hlj <;> simp at hlj


end Go.Cx

namespace Go.Proofs.YtfcmpolhcpbliaaGreatDoor
open Go.RowKit Go.Cx
attribute [local go_sem ↓] Go.wp_at_zero Go.wp_at_succ

theorem add_succ' (a : Addr) (n : Nat) : a.add (n + 1) = ⟨a.block, a.off + (n + 1), none⟩ := by unfold Addr.add; simp

set_option maxRecDepth 100000 in
set_option maxHeartbeats 2000000 in
theorem laTerms (v : Value) (l : List (Int × Int)) (w : World) (h : Sl w 1 v (pv l)) (hl0 : l.length ≤ 1099511627776) (hr : ∀ p ∈ l, I64 p.1 ∧ I64 p.2) :
    Calls Tryz.prog 48 #[v] w fun e w' => ∃ r, e = .returned r ∧ w'.ownsRow w.heap.size 63 3 r l.length (tv (ctm l)) ∧ Below w.heap.size w w' := by
  obtain ⟨a, len2, cap, rfl, h1, h2, h3, h4, h5⟩ := h
  unfold maxLen at h2
  rw [pv_len, Nat.mul_one] at h3
  have Hl : Hid (len2 = l.length * 2) := by show _ = _; omega
  have hl3 : len2 ≤ 2199023255552 := by omega
  have hl0' : l.length ≤ 1099511627776 := hl0
  have HL0 := Lib.hid hl0'
  clear h3 hl0 hl0'
  have H4 := Lib.hid h4; clear h4
  have H5 := Lib.hid h5; clear h5
  have HR := Lib.hid hr; clear hr
  go_enter Tryz.func48, Tryz.ntmps48
  go_wp2
  go_loopw [3, 4] (fun o i wr => ∃ k m : Nat, i = .int .i64 ((m : Int) + 1) ∧ Hid (m = k * 2) ∧ m ≤ len2 ∧ Hid (wr.ownsRow w.heap.size 63 3 o k (tv (ctm (l.take k)))) ∧ Below w.heap.size w wr) (fun _ i _ => len2 + 2 - (vI i).toNat)
  case atStart => exact ⟨0, 0, rfl, (show Hid _ from rfl), Nat.zero_le _, (show Hid _ from World.ownsRow_nil _ _ _ _), Below.refl _ _⟩
  case round =>
    obtain ⟨k, m, rfl, HM, hm, HO, hB⟩ := hrel
    by_cases hlt : m < len2
    · have hlt1 : m + 1 < len2 := by have := HM.out; have := Hl.out; omega
      obtain ⟨ad, rfl⟩ : ∃ ad, a = some ad := by
        cases a with
        | none => have := H4.out rfl; omega
        | some ad => exact ⟨ad, rfl⟩
      obtain ⟨⟨tc, tx⟩, ht⟩ : ∃ t, l[k]? = some t := ⟨_, List.getElem?_eq_getElem (by have := HM.out; have := Hl.out; omega)⟩
      obtain ⟨e0, e1⟩ := pv_get l k _ ht
      rw [← HM.out] at e0 e1
      have W0 := Lib.hid (H5.out ad rfl _ _ e0)
      have W1 := Lib.hid (show w.cell? ⟨ad.block, ad.off + (m + 1), none⟩ = some (.int .i64 tx) by rw [← add_succ']; exact H5.out ad rfl _ _ e1)
      have d0 : wr.cell? (ad.add m) = some (.int .i64 tc) := keep hB W0.out
      have d1 : wr.cell? ⟨ad.block, ad.off + (m + 1), none⟩ = some (.int .i64 tx) := keep hB W1.out
      clear e0 e1
      obtain ⟨r1, r2⟩ := HR.out _ (List.mem_of_getElem? ht)
      obtain ⟨x1, x2⟩ := r2
      dsimp only at x1 x2
      have Ht := Lib.hid ht; clear ht r1
      obtain ⟨i0, hi, hz0, hz1, hz2⟩ := info_parts Tryz.infoTerm
      have hst : w.heap.size ≤ wr.heap.size := hB.size
      have hkb : k ≤ 1099511627776 := by have := HM.out; omega
      have p1 : (m : Int) < (len2 : Int) := by omega
      have p3 : (m : Int) + 1 < (len2 : Int) := by omega
      have n1 : ((m : Int) + 1).toNat = m + 1 := by omega
      have p2 : (0 : Int) ≤ (m : Int) + 1 := by omega
      have pm : (0 : Int) ≤ (m : Int) := by omega
      have hmb : m ≤ 2199023255552 := by omega
      have hwp : IntKind.i64.wrap (m : Int) = (m : Int) := by rw [IntKind.wrap_i64]; omega
      have hown := HO.out
      go_wp2_with fail
      go_region_held3 (fun w' => w'.cell? (ad.add m) = some (.int .i64 tc) ∧ w'.cell? ⟨ad.block, ad.off + (m + 1), none⟩ = some (.int .i64 tx))
        (first | exact ⟨by assumption, by assumption⟩ | exact ⟨keepAl (by assumption) _, keepAl (by assumption) _⟩)
        (first
          | (go_at_call 39; refine (refFrom _ _ x1 x2).mono ?_; rintro e w3 ⟨rfl, hb3⟩; have hB3 : Below wr.heap.size wr w3 := below_drew (hb3.mono (by simp)); have a1 := keep hB3 d0; have a2 := keep hB3 d1; have hown3 := ownsRow_below hown hB3)
          | (refine step_append_lies _ rfl _ _ 30 rfl w.heap.size 63 i0 _ 3 32 Tryz.underlying30 hi hz0 hz1 hz2 rfl (by decide) _ k (tv (ctm (l.take k))) rfl (hown3.alloc _) ⟨w3.heap.size, 0, none⟩ 1 1 [.int .i64 tc, .bool (decide (tx < 0)), .string (mg tx)] rfl rfl (news3 _ _ _) (one3 _ _ _) (by decide) (by unfold maxLen; omega) (by omega) (by have := hB3.size; simp; omega) _ rfl ?_; intro g cg w5 hown5 hgrow5 hat5 hlt5; have hB5 : Below w.heap.size wr w5 := ((hB3.mono hst).alloc (by have := hB3.size; omega) _).grown hgrow5 (by have := hB3.size; simp; omega) (fun k hk => (hown3.lt k hk).1); have a5 := keep (hB.trans hB5) W0.out; have a6 := keep (hB.trans hB5) W1.out))
      go_wp2
      go_roundw
      case measure => simp [vI]; omega
      case rel =>
        refine ⟨k + 1, m + 2, i64_eq (by omega), (show Hid _ from by show _ = _; have := HM.out; omega), by omega, (show Hid _ from ?_), hB.trans hB5⟩
        rw [List.take_add_one, Ht.out]
        show w5.ownsRow _ _ _ _ _ (tv (ctm (l.take k ++ [(tc, tx)])))
        rw [ctm_append, tv_append]
        exact hown5
    · have hkl : m = len2 := by omega
      have HKL := Lib.hid hkl; clear hkl
      have p4 : ¬ (m : Int) + 1 < (len2 : Int) := by omega
      go_wp2
      go_ret
      refine ⟨_, rfl, ?_, hB⟩
      have hk : k = l.length := by have := HKL.out; have := HM.out; have := Hl.out; omega
      have hown := HO.out
      rw [hk, List.take_length] at hown
      exact hown

end Go.Proofs.YtfcmpolhcpbliaaGreatDoor

namespace Go.Proofs.YtfcmpolhcpbliaaGreatDoor
open Go.RowKit Go.Cx
attribute [local go_sem ↓] Go.wp_at_zero Go.wp_at_succ

theorem slLit2 (w : World) (t : TypeId) (st : Nat) (xs : List Value) (n : Nat) (h : xs.length = n * st) (hn : n ≤ maxLen) : Sl (w.alloc (.cells xs.toArray t)) st (.slice (some ⟨w.heap.size, 0, none⟩) n n) xs :=
  ⟨_, n, n, rfl, Nat.le_refl _, hn, h, (fun e => by cases e), fun ad ha j u hj => by cases ha; exact news3 w t xs j u hj⟩

set_option maxRecDepth 100000 in
set_option maxHeartbeats 1000000 in
theorem laEdge (id a b : Int) (w : World) :
    Calls Tryz.prog 79 #[.int .i64 id, .int .i64 a, .int .i64 b] w fun e w' => ∃ g, e = .returned (.agg #[.int .i64 id, .int .i64 1, .slice (some ⟨g, 0, none⟩) 2 2]) ∧ Sl w' 2 (.slice (some ⟨g, 0, none⟩) 2 2) (cat Sd.enc [⟨a, -1⟩, ⟨b, 1⟩]) ∧ w.heap.size ≤ g ∧ Below w.heap.size w w' := by
  go_enter Tryz.func79, Tryz.ntmps79
  go_wp2
  have hs := slLit2 (w.alloc (.cells #[.int .i64 id, .int .i64 1, .slice (some ⟨w.heap.size + 1, 0, none⟩) 2 2] 93)) 88 2 [.int .i64 a, .int .i64 (-1), .int .i64 b, .int .i64 1] 2 rfl (by unfold maxLen; omega)
  rw [World.size_alloc] at hs
  have k0 := cell_new w #[.int .i64 id, .int .i64 1, .slice (some ⟨w.heap.size + 1, 0, none⟩) 2 2] 93 (0, 0) 0
  have k1 := cell_new w #[.int .i64 id, .int .i64 1, .slice (some ⟨w.heap.size + 1, 0, none⟩) 2 2] 93 (0, 0) 1
  have k2 := cell_new w #[.int .i64 id, .int .i64 1, .slice (some ⟨w.heap.size + 1, 0, none⟩) 2 2] 93 (0, 0) 2
  have l0 := keepAl k0 (.cells #[.int .i64 a, .int .i64 (-1), .int .i64 b, .int .i64 1] 88)
  have l1 := keepAl k1 (.cells #[.int .i64 a, .int .i64 (-1), .int .i64 b, .int .i64 1] 88)
  have l2 := keepAl k2 (.cells #[.int .i64 a, .int .i64 (-1), .int .i64 b, .int .i64 1] 88)
  refine bodyPost_ret (v := .agg #[.int .i64 id, .int .i64 1, .slice (some ⟨w.heap.size + 1, 0, none⟩) 2 2]) (by simp [results, Tryz.results79, go_sem, l0, l1, l2]) rfl ⟨_, rfl, hs, by omega, ((Below.refl _ w).alloc (Nat.le_refl _) _).alloc (by simp) _⟩

set_option maxRecDepth 100000 in
set_option maxHeartbeats 4000000 in
theorem laTriangle (w : World) :
    Calls Tryz.prog 47 #[] w fun e w' => ∃ v l, e = .returned (.agg #[v]) ∧ SlC w' v l ∧ l.map Ce.cl = [⟨1, 0, []⟩, ⟨2, 0, []⟩, ⟨3, 0, []⟩, ⟨4, 1, [⟨1, -1⟩, ⟨2, 1⟩]⟩, ⟨5, 1, [⟨1, -1⟩, ⟨3, 1⟩]⟩, ⟨6, 1, [⟨2, -1⟩, ⟨3, 1⟩]⟩, ⟨7, 2, [⟨4, 1⟩, ⟨5, -1⟩, ⟨6, 1⟩]⟩] ∧ Below w.heap.size w w' := by
  go_enter Tryz.func47, Tryz.ntmps47
  go_wp2_with fail
  refine (laEdge 4 1 2 _).mono ?_
  rintro e w1 ⟨g1, rfl, h1, n1, hb1⟩
  go_wp2_with fail
  refine (laEdge 5 1 3 _).mono ?_
  rintro e w2 ⟨g2, rfl, h2, n2, hb2⟩
  go_wp2_with fail
  refine (laEdge 6 2 3 _).mono ?_
  rintro e w3 ⟨g3, rfl, h3, n3, hb3⟩
  have hz1 : w.heap.size < w1.heap.size := by have := hb1.size; simp at this; omega
  have b1 : Bv w1 w.heap.size (.slice none 0 0) := (Bv.new w (.slice none 0 0) 27).keep hb1
  have b3 := (b1.keep hb2).keep hb3
  have b5 := (b3.alloc (.cells #[.int .i64 4, .int .i64 1, .int .i64 5, .int .i64 (-1), .int .i64 6, .int .i64 1] 88)).alloc (.cells #[.int .i64 1, .int .i64 0, .slice none 0 0, .int .i64 2, .int .i64 0, .slice none 0 0, .int .i64 3, .int .i64 0, .slice none 0 0, .int .i64 4, .int .i64 1, .slice (some ⟨g1, 0, none⟩) 2 2, .int .i64 5, .int .i64 1, .slice (some ⟨g2, 0, none⟩) 2 2, .int .i64 6, .int .i64 1, .slice (some ⟨g3, 0, none⟩) 2 2, .int .i64 7, .int .i64 2, .slice (some ⟨w3.heap.size, 0, none⟩) 3 3] 93)
  obtain ⟨r0, r1⟩ := b5
  have hB3 : Below w.heap.size w w3 := ((((Below.refl _ w).alloc (Nat.le_refl _) _).trans (hb1.mono (by simp))).trans (hb2.mono (by omega))).trans (hb3.mono (by have := hb2.size; omega))
  have hw3 : w.heap.size < w3.heap.size := by have := hb2.size; have := hb3.size; omega
  obtain ⟨l, hl⟩ : ∃ l : List Ce, l = [⟨1, 0, none, 0, 0, []⟩, ⟨2, 0, none, 0, 0, []⟩, ⟨3, 0, none, 0, 0, []⟩, ⟨4, 1, some ⟨g1, 0, none⟩, 2, 2, [⟨1, -1⟩, ⟨2, 1⟩]⟩, ⟨5, 1, some ⟨g2, 0, none⟩, 2, 2, [⟨1, -1⟩, ⟨3, 1⟩]⟩, ⟨6, 1, some ⟨g3, 0, none⟩, 2, 2, [⟨2, -1⟩, ⟨3, 1⟩]⟩, ⟨7, 2, some ⟨w3.heap.size, 0, none⟩, 3, 3, [⟨4, 1⟩, ⟨5, -1⟩, ⟨6, 1⟩]⟩] := ⟨_, rfl⟩
  have fr : ∀ (v : Value) (W : World) (xs : List Value) (st : Nat) (u : Value), Sl W st v xs → (∀ ad n c, v = .slice (some ad) n c → w.heap.size < ad.block) → Sl (W.setCell ⟨w.heap.size, 0, none⟩ u) st v xs := fun v W xs st u h hb =>
    h.frame w.heap.size hb (fun p hp q hq => cell_set hq (by show p.block ≠ w.heap.size; omega))
  have FR := Lib.hid fr; clear fr
  have hm1 : w.heap.size < g1 := by have := n1; simp at this; omega
  have hm2 : w.heap.size < g2 := by omega
  have hm3 : w.heap.size < g3 := by have := hb2.size; omega
  obtain ⟨V3, hV3⟩ : ∃ V3 : World, V3 = w3.setCell ⟨w.heap.size, 0, none⟩ (.slice (some ⟨w3.heap.size + 1, 0, none⟩) 7 7) := ⟨_, rfl⟩
  have bV : Bv V3 w.heap.size (.slice (some ⟨w3.heap.size + 1, 0, none⟩) 7 7) := by rw [hV3]; exact b3.put _
  have hzV : V3.heap.size = w3.heap.size := by rw [hV3]; simp [World.setCell]
  have hs := slLit2 V3 88 2 [.int .i64 4, .int .i64 1, .int .i64 5, .int .i64 (-1), .int .i64 6, .int .i64 1] 3 rfl (by unfold maxLen; omega)
  rw [hzV] at hs
  have hc := slLit2 (V3.alloc (.cells #[.int .i64 4, .int .i64 1, .int .i64 5, .int .i64 (-1), .int .i64 6, .int .i64 1] 88)) 93 3 [.int .i64 1, .int .i64 0, .slice none 0 0, .int .i64 2, .int .i64 0, .slice none 0 0, .int .i64 3, .int .i64 0, .slice none 0 0, .int .i64 4, .int .i64 1, .slice (some ⟨g1, 0, none⟩) 2 2, .int .i64 5, .int .i64 1, .slice (some ⟨g2, 0, none⟩) 2 2, .int .i64 6, .int .i64 1, .slice (some ⟨g3, 0, none⟩) 2 2, .int .i64 7, .int .i64 2, .slice (some ⟨w3.heap.size, 0, none⟩) 3 3] 7 rfl (by unfold maxLen; omega)
  rw [World.size_alloc, hzV] at hc
  have s1 : Sl V3 2 (.slice (some ⟨g1, 0, none⟩) 2 2) (cat Sd.enc [⟨1, -1⟩, ⟨2, 1⟩]) := by rw [hV3]; exact FR.out _ _ _ _ _ ((h1.keep hb2).keep hb3) (fun ad n c e => by cases e; exact hm1)
  have s2 : Sl V3 2 (.slice (some ⟨g2, 0, none⟩) 2 2) (cat Sd.enc [⟨1, -1⟩, ⟨3, 1⟩]) := by rw [hV3]; exact FR.out _ _ _ _ _ (h2.keep hb3) (fun ad n c e => by cases e; exact hm2)
  have s3 : Sl V3 2 (.slice (some ⟨g3, 0, none⟩) 2 2) (cat Sd.enc [⟨2, -1⟩, ⟨3, 1⟩]) := by rw [hV3]; exact FR.out _ _ _ _ _ h3 (fun ad n c e => by cases e; exact hm3)
  have hBV : Below w.heap.size w V3 := by rw [hV3]; exact hB3.setCell (Nat.le_refl _) _
  have HV := Lib.hid hV3
  have HH := Lib.hid (And.intro s1 (And.intro s2 (And.intro s3 (And.intro hs hc))))
  have bw := (bV.alloc (.cells #[.int .i64 4, .int .i64 1, .int .i64 5, .int .i64 (-1), .int .i64 6, .int .i64 1] 88)).alloc (.cells #[.int .i64 1, .int .i64 0, .slice none 0 0, .int .i64 2, .int .i64 0, .slice none 0 0, .int .i64 3, .int .i64 0, .slice none 0 0, .int .i64 4, .int .i64 1, .slice (some ⟨g1, 0, none⟩) 2 2, .int .i64 5, .int .i64 1, .slice (some ⟨g2, 0, none⟩) 2 2, .int .i64 6, .int .i64 1, .slice (some ⟨g3, 0, none⟩) 2 2, .int .i64 7, .int .i64 2, .slice (some ⟨w3.heap.size, 0, none⟩) 3 3] 93)
  have HBW := Lib.hid (And.intro bw hBV)
  clear hs hc h1 h2 h3 hb1 hb2 hb3 hB3 n1 n2 n3 hV3 bV bw s1 s2 s3 hBV hzV
  go_wp2_with fail
  rw [← HV.out]
  obtain ⟨bw, hBV⟩ := HBW.out
  obtain ⟨s1, s2, s3, hs, hc⟩ := HH.out
  refine bodyPost_ret (v := .agg #[.slice (some ⟨w3.heap.size + 1, 0, none⟩) 7 7]) (by simp [results, Tryz.results47, go_sem, bw.1]) rfl ⟨_, l, rfl, ?_, by rw [hl]; rfl, ?_⟩
  · rw [hl]
    refine ⟨hc, fun x hx => ?_⟩
    simp only [List.mem_cons, List.not_mem_nil, or_false] at hx
    rcases hx with rfl | rfl | rfl | rfl | rfl | rfl | rfl
    · exact Sl.nil _ _
    · exact Sl.nil _ _
    · exact Sl.nil _ _
    · exact (s1.alloc _).alloc _
    · exact (s2.alloc _).alloc _
    · exact (s3.alloc _).alloc _
    · exact hs.alloc _
  · exact (hBV.alloc hBV.size _).alloc (by have := hBV.size; simp; omega) _

end Go.Proofs.YtfcmpolhcpbliaaGreatDoor

namespace Go.Cx
open Go.RowKit

/-- Wides as cells. -/
def bws (l : List (Bool × ByteArray)) : List Value := l.flatMap fun x => [.bool x.1, .string x.2]
theorem bws_len (l : List (Bool × ByteArray)) : (bws l).length = l.length * 2 := by
  induction l with
  | nil => rfl
  | cons x l ih => show ([Value.bool x.1, .string x.2] ++ bws l).length = _; rw [List.length_append, ih]; simp; omega
theorem bws_get (l : List (Bool × ByteArray)) (i : Nat) (x : Bool × ByteArray) (h : l[i]? = some x) : (bws l)[i * 2]? = some (.bool x.1) ∧ (bws l)[i * 2 + 1]? = some (.string x.2) := by
  induction l generalizing i with
  | nil => simp at h
  | cons u l ih =>
    have e : bws (u :: l) = .bool u.1 :: .string u.2 :: bws l := rfl
    rw [e]
    cases i with
    | zero => simp at h; subst h; simp
    | succ i =>
      have := ih i (by simpa using h)
      rw [show (i + 1) * 2 = i * 2 + 1 + 1 by omega, show i * 2 + 1 + 1 + 1 = (i * 2 + 1) + 1 + 1 by omega]
      simpa using this
theorem wvs_bws (l : List Int) : wvs l = bws (l.map fun x => (decide (x < 0), mg x)) := by
  induction l with
  | nil => rfl
  | cons x l ih => show Value.bool _ :: .string _ :: wvs l = _; rw [ih]; rfl
theorem bws_iv (l : List Int) : (l.map fun x => (decide (x < 0), mg x)).map (fun x => iv x.1 x.2) = l := by
  induction l with
  | nil => rfl
  | cons x l ih => simp only [List.map_cons, ih, iv_mg]

end Go.Cx
namespace Go.Proofs.YtfcmpolhcpbliaaGreatDoor
open Go.RowKit Go.Cx
attribute [local go_sem ↓] Go.wp_at_zero Go.wp_at_succ

theorem sgn_ne {x y : Int} {q : Bool} (h : decide (x = y) = q) : (sgnI (x - y) == 0) = q := by
  subst h
  by_cases e : x = y
  · subst e; simp [sgnI]
  · have h1 : x - y ≠ 0 := by omega
    unfold sgnI
    rw [if_neg h1]
    split <;> simp [e]

set_option maxRecDepth 100000 in
set_option maxHeartbeats 2000000 in
theorem refLists (v u : Value) (l m : List (Bool × ByteArray)) (w : World) (h : Sl w 2 v (bws l)) (k : Sl w 2 u (bws m)) (hl0 : ∀ x ∈ l, x.2.size ≤ 1099511627775) (hm0 : ∀ x ∈ m, x.2.size ≤ 1099511627775) :
    Calls Tryz.prog 25 #[v, u] w fun e w' => ∃ q : Bool, e = .returned (.bool q) ∧ (q = true ↔ l.map (fun x => iv x.1 x.2) = m.map (fun x => iv x.1 x.2)) ∧ Below w.heap.size w w' := by
  obtain ⟨a, len, cap, rfl, h1, h2, h3, h4, h5⟩ := h
  obtain ⟨b, len', cap', rfl, k1, k2, k3, k4, k5⟩ := k
  unfold maxLen at h2 k2
  rw [bws_len] at h3 k3
  have hl : l.length = len := by omega
  have kl : m.length = len' := by omega
  clear h3 k3
  have Hl := Lib.hid hl; clear hl
  have Kl := Lib.hid kl; clear kl
  have H4 := Lib.hid h4; clear h4
  have H5 := Lib.hid h5; clear h5
  have K4 := Lib.hid k4; clear k4
  have K5 := Lib.hid k5; clear k5
  have HL := Lib.hid hl0; clear hl0
  have HM := Lib.hid hm0; clear hm0
  by_cases hll : len = len'
  · subst hll
    go_enter Tryz.func25, Tryz.ntmps25
    go_wp2_with fail
    go_loopw [5] (fun i wr => ∃ k : Nat, i = .int .i64 k ∧ k ≤ len ∧ (l.take k).map (fun x => iv x.1 x.2) = (m.take k).map (fun x => iv x.1 x.2) ∧ Below w.heap.size w wr) (fun i _ => len - (vI i).toNat)
    case atStart => exact ⟨0, rfl, Nat.zero_le _, rfl, Below.refl _ _⟩
    case round =>
      obtain ⟨k, rfl, hk, he, hB⟩ := hrel
      have He := Lib.hid he; clear he
      by_cases hlt : k < len
      · obtain ⟨ad, rfl⟩ : ∃ ad, a = some ad := by
          cases a with
          | none => have := H4.out rfl; omega
          | some ad => exact ⟨ad, rfl⟩
        obtain ⟨bd, rfl⟩ : ∃ ad, b = some ad := by
          cases b with
          | none => have := K4.out rfl; omega
          | some ad => exact ⟨ad, rfl⟩
        obtain ⟨⟨tn, tm⟩, ht⟩ : ∃ t, l[k]? = some t := ⟨_, List.getElem?_eq_getElem (by rw [Hl.out]; exact hlt)⟩
        obtain ⟨⟨un, um⟩, hu⟩ : ∃ t, m[k]? = some t := ⟨_, List.getElem?_eq_getElem (by rw [Kl.out]; exact hlt)⟩
        obtain ⟨e1, e2⟩ := bws_get l k _ ht
        obtain ⟨e4, e5⟩ := bws_get m k _ hu
        have d1 : wr.cell? (ad.add (k * 2)) = some (.bool tn) := keep hB (H5.out ad rfl _ _ e1)
        have d2 : wr.cell? ⟨(ad.add (k * 2)).block, (ad.add (k * 2)).off + 1, none⟩ = some (.string tm) := by rw [add_part _ _ _ (by omega)]; exact keep hB (H5.out ad rfl _ _ e2)
        have d4 : wr.cell? (bd.add (k * 2)) = some (.bool un) := keep hB (K5.out bd rfl _ _ e4)
        have d5 : wr.cell? ⟨(bd.add (k * 2)).block, (bd.add (k * 2)).off + 1, none⟩ = some (.string um) := by rw [add_part _ _ _ (by omega)]; exact keep hB (K5.out bd rfl _ _ e5)
        have z1 : tm.size ≤ 1099511627775 := HL.out _ (List.mem_of_getElem? ht)
        have z2 : um.size ≤ 1099511627775 := HM.out _ (List.mem_of_getElem? hu)
        clear e1 e2 e4 e5
        have Ht := Lib.hid ht; clear ht
        have Hu := Lib.hid hu; clear hu
        obtain ⟨q, hq⟩ : ∃ q, decide (iv tn tm = iv un um) = q := ⟨_, rfl⟩
        have hne := sgn_ne hq
        have Hq := Lib.hid hq; clear hq
        obtain ⟨sg, hsg⟩ : ∃ s, s = sgnI (iv tn tm - iv un um) := ⟨_, rfl⟩
        rw [← hsg] at hne
        have Hsg := Lib.hid hsg; clear hsg
        go_wp2_with fail
        go_region_held3 (fun w' => w'.cell? (ad.add (k * 2)) = some (.bool tn) ∧ w'.cell? ⟨(ad.add (k * 2)).block, (ad.add (k * 2)).off + 1, none⟩ = some (.string tm) ∧ w'.cell? (bd.add (k * 2)) = some (.bool un) ∧ w'.cell? ⟨(bd.add (k * 2)).block, (bd.add (k * 2)).off + 1, none⟩ = some (.string um))
          (first | exact ⟨by assumption, by assumption, by assumption, by assumption⟩ | fail)
          (first
            | (go_at_call 61; refine (refCmp _ _ _ _ _ z1 z2).mono ?_; rintro e w3 ⟨rfl, hb3⟩; rw [← Hsg.out]; have hB3 : Below wr.heap.size wr w3 := below_drew (hb3.mono (by simp)); have f1 := keep hB3 d1; have f2 := keep hB3 d2; have f4 := keep hB3 d4; have f5 := keep hB3 d5))
        have hst : w.heap.size ≤ wr.heap.size := hB.size
        cases q with
        | false =>
          go_wp2_with fail
          go_ret
          refine ⟨false, rfl, ⟨fun h => (by cases h), fun h => ?_⟩, hB.trans (hB3.mono hst)⟩
          exfalso
          have e1 : (l.map (fun x => iv x.1 x.2))[k]? = (m.map (fun x => iv x.1 x.2))[k]? := by rw [h]
          rw [List.getElem?_map, List.getElem?_map, Ht.out, Hu.out] at e1
          have := Hq.out
          simp at this e1
          exact this e1
        | true =>
          go_wp2_with fail
          go_roundw
          case measure => simp [vI]; omega
          case rel =>
            refine ⟨k + 1, i64_eq (by omega), by omega, ?_, hB.trans (hB3.mono hst)⟩
            rw [List.take_add_one, List.take_add_one, Ht.out, Hu.out, List.map_append, List.map_append, He.out]
            have := Hq.out
            simp at this
            simp [this]
      · have hke : k = len := by omega
        have Hke := Lib.hid hke; clear hke
        go_wp2_with fail
        go_ret
        refine ⟨true, rfl, ⟨fun _ => ?_, fun _ => rfl⟩, hB⟩
        have := He.out
        rwa [Hke.out, List.take_of_length_le (Nat.le_of_eq Hl.out), List.take_of_length_le (Nat.le_of_eq Kl.out)] at this
  · have hneq : ((len : Int) == len') = false := by simp; omega
    have Hll := Lib.hid hll; clear hll
    go_enter Tryz.func25, Tryz.ntmps25
    go_wp2_with fail
    go_ret
    refine ⟨false, rfl, ⟨fun h => (by cases h), fun h => ?_⟩, Below.refl _ _⟩
    have := congrArg List.length h
    rw [List.length_map, List.length_map, Hl.out, Kl.out] at this
    exact absurd this Hll.out

end Go.Proofs.YtfcmpolhcpbliaaGreatDoor
