/- A region that draws its order, by an invariant; and one that lays boxes of two cells (a Wide) and fills them. No program. cocyclelaw07.ChainsLinear. -/
import Derived.Deep.CutRange
import Derived.Deep.DeepCutAuto
import Derived.Test.YtfcmpolhcpbliaaGreatDoorMl
import Derived.Test.YtfcmpolhcpbliaaGreatDoorMf
import Derived.Test.YtfcmpolhcpbliaaGreatDoorOi

namespace Go.Cx
open Go.RowKit
variable {P : Program} {ops : Array Oper} {Q : Exit → Act → World → Prop}

theorem region_inv {id : Nat} {a0 : Act} {w : World} (hm : P.follows .mixedOrders = true) (hlx : lexOk .any ops = true) (I : (Nat → Bool) → Act → World → Prop)
    (h0 : I (fun _ => false) a0 { w with drawn := w.drawn + 1 })
    (hstep : ∀ (i : Nat) (o : Oper), ops[i]? = some o → ∀ (l : Nat → Bool) (a : Act) (w' : World), l i = false → (∀ j, dep .any ops i j = true → l j = true) → I l a w' →
      Region.wanted o (yielded ops a.tmps) = true ∧ Oper.wp P o a w' (fun a' w'' => I (fun j => j == i || l j) a' w'') Q)
    (hdone : ∀ (l : Nat → Bool) (a : Act) (w' : World), (∀ i, i < ops.size → l i = true) → I l a w' → Q .normal a w') :
    (Code.region id ops true).wp P Q a0 w := by
  have main : ∀ (fuel : Nat) (listed : Array Bool) (a : Act) (w' : World), listed.size = ops.size → unl ops listed ≤ fuel → I (fun i => listed.getD i false) a w' → wpAny P .any ops Q fuel listed a w' := by
    intro fuel
    have allOf : ∀ (listed : Array Bool), unl ops listed = 0 → ∀ i : Nat, i < ops.size → listed.getD i false = true := fun listed h0 i hi => by
      cases hc : listed.getD i false with
      | true => rfl
      | false =>
        have : i ∈ (List.range ops.size).filter fun i => !listed.getD i false := List.mem_filter.2 ⟨List.mem_range.2 hi, by rw [hc]; rfl⟩
        rw [List.eq_nil_of_length_eq_zero h0] at this; cases this
    induction fuel with
    | zero =>
      intro listed a w' hl hu h
      have hall := allOf listed (by omega)
      refine ⟨?_, hdone _ a w' hall h⟩
      rw [List.eq_nil_iff_forall_not_mem]
      intro j hj
      obtain ⟨h1, o, ho, _⟩ := mem_ready.1 hj
      have hjl := (Array.getElem?_eq_some_iff.1 ho).1
      have h2 := hall j hjl
      simp [hl, hjl] at h1 h2
      rw [h1] at h2; cases h2
    | succ fuel ih =>
      intro listed a w' hl hu h
      refine ⟨fun hnil => ?_, fun i hi => ?_⟩
      · refine hdone _ a w' (fun i hi => ?_) h
        show listed.getD i false = true
        induction i using Nat.strongRecOn with
        | _ i ihi =>
          cases hc : listed.getD i false with
          | true => rfl
          | false =>
            exfalso
            obtain ⟨o, ho⟩ : ∃ o, ops[i]? = some o := ⟨_, Array.getElem?_eq_getElem hi⟩
            have hmem : i ∈ Region.ready .any ops listed := mem_ready.2 ⟨by simpa [hl, hi] using hc, o, ho, fun e he hb => by
              have h1 := List.all_eq_true.1 hlx i (List.mem_range.2 hi)
              rw [ho] at h1
              simp only [Option.map_some, Option.getD_some, Array.all_eq_true] at h1
              obtain ⟨k, hk, rfl⟩ := Array.getElem_of_mem he
              have h2 := h1 k hk
              rw [hb] at h2
              have h3 : (o.after[k]).on < i := by simpa using h2
              exact ihi _ h3 (by omega)⟩
            rw [hnil] at hmem; cases hmem
      · obtain ⟨h1, o, ho, hall⟩ := mem_ready.1 hi
        have hil := (Array.getElem?_eq_some_iff.1 ho).1
        have h1' : listed.getD i false = false := by simpa [hl, hil] using h1
        obtain ⟨hw, hwp⟩ := hstep i o ho (fun i => listed.getD i false) a w' h1' (fun j hdep => by
          unfold dep at hdep
          rw [ho] at hdep
          simp only [Option.map_some, Option.getD_some, Array.any_eq_true] at hdep
          obtain ⟨k, hk, hb⟩ := hdep
          simp only [Bool.and_eq_true, beq_iff_eq] at hb
          have := hall _ (Array.getElem_mem hk) hb.1
          rwa [hb.2] at this) h
        unfold wpOp
        rw [ho]; dsimp only; rw [if_pos hw]
        refine .inl (Oper.wp_mono (fun a' w'' hx => ?_) hwp)
        have hlt := unl_set hl hil h1'
        refine ih _ _ _ (by simpa using hl) (by omega) ?_
        have e : (fun j => (listed.setIfInBounds i true).getD j false) = fun j => j == i || listed.getD j false := funext fun j => by
          by_cases hj : i = j
          · subst hj; simp [hl, hil]
          · have : (j == i) = false := by simpa using fun e => hj e.symm
            rw [this, Bool.false_or]
            simp [hj]
        rw [e]; exact hx
  refine wp_region_any hm (main _ _ _ _ (by simp) ?_ ?_)
  · unfold unl
    exact Nat.le_trans (List.length_filter_le _ _) (by simp)
  · have e : (fun i => (Array.replicate ops.size false).getD i false) = fun _ => false := funext fun i => by
      simp only [Array.getD_eq_getD_getElem?, Array.getElem?_replicate]
      split <;> rfl
    rw [e]; exact h0

/-- Every operation that yields has a place of its own. -/
def ownDstO (ops : Array Oper) (n : Nat) : Bool := (List.range ops.size).all fun i => match (ops[i]?).bind (·.dst) with
  | none => true
  | some d => decide (d < n) && (List.range i).all fun j => (ops[j]?).bind (·.dst) != some d
theorem ownDstO_spec {n : Nat} (h : ownDstO ops n = true) : ∀ (i : Nat) (o : Oper) (d : Nat), ops[i]? = some o → o.dst = some d → d < n ∧ ∀ (j : Nat) (oj : Oper), ops[j]? = some oj → j ≠ i → oj.dst ≠ some d := by
  have key : ∀ (i : Nat) (o : Oper) (d : Nat), ops[i]? = some o → o.dst = some d → d < n ∧ ∀ (j : Nat) (oj : Oper), ops[j]? = some oj → j < i → oj.dst ≠ some d := fun i o d ho hd => by
    have hi := (Array.getElem?_eq_some_iff.1 ho).1
    have h1 := List.all_eq_true.1 h i (List.mem_range.2 hi)
    simp only [ho, Option.bind_some, hd, Bool.and_eq_true, decide_eq_true_eq] at h1
    obtain ⟨h3, h4⟩ := h1
    refine ⟨h3, fun j oj hj hlt => ?_⟩
    have := List.all_eq_true.1 h4 j (List.mem_range.2 hlt)
    rw [hj] at this
    simpa using this
  intro i o d ho hd
  obtain ⟨h0, h1⟩ := key i o d ho hd
  refine ⟨h0, fun j oj hj hne e => ?_⟩
  rcases Nat.lt_or_ge j i with hlt | hge
  · exact h1 j oj hj hlt e
  · exact (key j oj d hj e).2 i o ho (by omega) hd

end Go.Cx
namespace Go.Proofs.YtfcmpolhcpbliaaGreatDoor
open Go.RowKit Go.Cx
variable {P : Program} {ops : Array Oper} {Q : Exit → Act → World → Prop}

/-- A box of the region: the operation that lays it, the one that fills it, its slot, the type, what is laid into it. -/
structure BxO where
  j : Nat
  k : Nat
  d : Nat
  t : TypeId
  n : Bool
  s : ByteArray

/-- What holds when some have come up. -/
structure StB (ops : Array Oper) (F : Nat → Value → World → Prop) (bo : List BxO) (a0 : Act) (w0 : World) (l : Nat → Bool) (a : Act) (w : World) : Prop where
  sz : a.tmps.size = a0.tmps.size
  df : a.defers = a0.defers
  fact : ∀ (i : Nat) (o : Oper) (d : Nat), ops[i]? = some o → o.dst = some d → l i = true → F i (a.tmps.getD d undef) w
  base : ∀ s, (∀ (i : Nat) (o : Oper), ops[i]? = some o → o.dst ≠ some s) → a.tmps.getD s undef = a0.tmps.getD s undef
  below : Below w0.heap.size w0 w
  box : ∀ b ∈ bo, l b.j = true → ∃ p, a.tmps.getD b.d undef = .pointer (some ⟨p, 0, none⟩) ∧ w0.heap.size ≤ p ∧ p < w.heap.size ∧ (∃ n s, Bx w p n s) ∧ (l b.k = true → Bx w p b.n b.s)
  apart : ∀ b ∈ bo, ∀ c ∈ bo, l b.j = true → l c.j = true → b.j ≠ c.j → a.tmps.getD b.d undef ≠ a.tmps.getD c.d undef
  ord : ∀ b ∈ bo, l b.k = true → l b.j = true

theorem Bx.set {w : World} {b p : Nat} {n : Bool} {s : ByteArray} (h : Bx w b n s) (hne : b ≠ p) (x y : Value) : Bx ((w.setCell ⟨p, 0, none⟩ x).setCell ⟨p, 1, none⟩ y) b n s :=
  ⟨cell_set (cell_set h.1 hne) hne, cell_set (cell_set h.2.1 hne) hne, by simpa using h.2.2.1, by simpa using h.2.2.2⟩
theorem below_setBoth {B p : Nat} {w w' : World} (h : Below B w w') (hp : B ≤ p) (x y : Value) : Below B w ((w'.setCell ⟨p, 0, none⟩ x).setCell ⟨p, 1, none⟩ y) :=
  (h.setCell hp x).setCell hp y

theorem region_boxes {id : Nat} {a0 : Act} {w : World} (hm : P.follows .mixedOrders = true) (F : Nat → Value → World → Prop) (bo : List BxO) (n : Nat) (hn : a0.tmps.size = n) (hd : ownDstO ops n = true) (hlx : lexOk .any ops = true)
    (hF : ∀ i v w' w'', F i v w' → Below w.heap.size w w' → Below w.heap.size w w'' → w'.heap.size ≤ w''.heap.size → F i v w'')
    (hFb : ∀ b ∈ bo, ∀ v w', F b.j v w')
    (hal : ∀ b ∈ bo, ∃ o, ops[b.j]? = some o ∧ o.op = .alloc b.t ∧ o.dst = some b.d ∧ o.guard = none)
    (hru : ∀ b ∈ bo, ∀ w : World, (Instr.alloc b.t true (.tuple #[])).run P w = .ok (.pointer (some ⟨w.heap.size, 0, none⟩)) (w.alloc (.cells #[.bool false, .string ⟨#[]⟩] b.t)))
    (hst : ∀ b ∈ bo, ∃ o x, ops[b.k]? = some o ∧ o.op = .store b.t (.tmp b.d) x ∧ o.dst = none ∧ o.guard = none ∧ dep .any ops b.k b.j = true ∧
      ∀ (a : Act) (w' : World), (∀ (j : Nat) (oj : Oper) (dj : Nat), ops[j]? = some oj → oj.dst = some dj → dep .any ops b.k j = true → F j (a.tmps.getD dj undef) w') → a.eval x = .agg #[.bool b.n, .string b.s])
    (hrs : ∀ b ∈ bo, ∀ (w : World) (p : Nat) (n' : Bool) (s' : ByteArray), Bx w p n' s' → (Instr.storeAt b.t (.pointer (some ⟨p, 0, none⟩)) (.agg #[.bool b.n, .string b.s])).run P w = .ok () ((w.setCell ⟨p, 0, none⟩ (.bool b.n)).setCell ⟨p, 1, none⟩ (.string b.s)))
    (huk : ∀ b ∈ bo, ∀ c ∈ bo, b.k = c.k → b = c) (hud : ∀ b ∈ bo, ∀ c ∈ bo, b.j = c.j → b = c) (huj : ∀ b ∈ bo, ∀ c ∈ bo, b.j ≠ c.k)
    (hstep : ∀ (i : Nat) (o : Oper), ops[i]? = some o → (∀ b ∈ bo, i ≠ b.j ∧ i ≠ b.k) → ∀ (a : Act) (w' : World), Below w.heap.size w w' → (∀ (j : Nat) (oj : Oper) (dj : Nat), ops[j]? = some oj → oj.dst = some dj → dep .any ops i j = true → F j (a.tmps.getD dj undef) w') →
      (∀ s, (∀ (i : Nat) (o : Oper), ops[i]? = some o → o.dst ≠ some s) → a.tmps.getD s undef = a0.tmps.getD s undef) → a.tmps.size = n →
      Region.wanted o (yielded ops a.tmps) = true ∧ o.dst ≠ none ∧ Oper.wp P o a w' (fun a' w'' => ∃ v, a' = a.put o.dst v ∧ F i v w'' ∧ Below w'.heap.size w' w'') Q)
    (hdone : ∀ (a : Act) (w' : World), a.tmps.size = n → a.defers = a0.defers → (∀ (i : Nat) (o : Oper) (d : Nat), ops[i]? = some o → o.dst = some d → F i (a.tmps.getD d undef) w') →
      (∀ s, (∀ (i : Nat) (o : Oper), ops[i]? = some o → o.dst ≠ some s) → a.tmps.getD s undef = a0.tmps.getD s undef) → Below w.heap.size w w' →
      (∀ b ∈ bo, ∃ p, a.tmps.getD b.d undef = .pointer (some ⟨p, 0, none⟩) ∧ w.heap.size ≤ p ∧ p < w'.heap.size ∧ Bx w' p b.n b.s) → Q .normal a w') :
    (Code.region id ops true).wp P Q a0 w := by
  have hsp := ownDstO_spec hd
  -- what a new value at a place of one's own leaves
  have putF : ∀ (i : Nat) (o : Oper) (d : Nat) (v : Value) (l : Nat → Bool) (a : Act) (w' w'' : World), ops[i]? = some o → o.dst = some d → l i = false → StB ops F bo a0 w l a w' → F i v w'' → Below w'.heap.size w' w'' →
      (∀ j (oj : Oper) dj, ops[j]? = some oj → oj.dst = some dj → (j == i || l j) = true → F j ((a.put (some d) v).tmps.getD dj undef) w'') := fun i o d v l a w' w'' ho hdo hli h hv hb j oj dj hj hdj hlj => by
    obtain ⟨hd2, hd3⟩ := hsp i o d ho hdo
    rw [put_getD]
    by_cases hji : j = i
    · subst hji
      rw [ho] at hj; injection hj with hj; subst hj
      rw [hdo] at hdj; injection hdj with hdj; subst hdj
      rw [if_pos ⟨rfl, by rw [h.sz, hn]; exact hd2⟩]; exact hv
    · rw [if_neg (fun e => hd3 j oj hj hji (by rw [hdj, e.1]))]
      have : (j == i) = false := by simpa using hji
      rw [this, Bool.false_or] at hlj
      exact hF _ _ _ _ (h.fact j oj dj hj hdj hlj) h.below (h.below.trans (hb.mono h.below.size)) hb.size
  refine region_inv hm hlx (fun l a w' => StB ops F bo a0 w l a w') { sz := rfl, df := rfl, fact := (fun _ _ _ _ _ h => absurd h Bool.false_ne_true), base := (fun _ _ => rfl), below := below_draws (Below.refl _ w) 1, box := (fun _ _ h => absurd h Bool.false_ne_true), apart := (fun _ _ _ _ h => absurd h Bool.false_ne_true), ord := (fun _ _ h => absurd h Bool.false_ne_true) } ?_ ?_
  · intro i o ho l a w' hli hdep h
    have hbelow : ∀ {w'' : World}, Below w'.heap.size w' w'' → Below w.heap.size w w'' := fun hb => h.below.trans (hb.mono h.below.size)
    have hfd : ∀ (j : Nat) (oj : Oper) (dj : Nat), ops[j]? = some oj → oj.dst = some dj → dep .any ops i j = true → F j (a.tmps.getD dj undef) w' := fun j oj dj hj hdj hdp => h.fact j oj dj hj hdj (hdep j hdp)
    by_cases hbj : ∃ b ∈ bo, i = b.j
    · obtain ⟨b, hb, rfl⟩ := hbj
      obtain ⟨o', ho', hop, hdo, hg⟩ := hal b hb
      rw [ho] at ho'; injection ho' with ho'; subst ho'
      refine ⟨by unfold Region.wanted; rw [hg], ?_⟩
      unfold Oper.wp
      simp only [execOp, hop]
      have hrun : (do let x ← Instr.alloc b.t true (.tuple #[]); pure (Next.value x) : Sem Next).run P w' = .ok (.value (.pointer (some ⟨w'.heap.size, 0, none⟩))) (w'.alloc (.cells #[.bool false, .string ⟨#[]⟩] b.t)) := by
        simp [hru b hb w', Result.andThen]
      rw [hrun]
      show StB ops F bo a0 w _ (a.put o.dst _) _
      have hgr : Below w'.heap.size w' (w'.alloc (.cells #[.bool false, .string ⟨#[]⟩] b.t)) := (Below.refl _ w').alloc (Nat.le_refl _) _
      have hpj := putF b.j o b.d (.pointer (some ⟨w'.heap.size, 0, none⟩)) l a w' _ ho hdo hli h (hFb b hb _ _) hgr
      obtain ⟨hd2, hd3⟩ := hsp b.j o b.d ho hdo
      rw [hdo]
      have hself : (a.put (some b.d) (.pointer (some ⟨w'.heap.size, 0, none⟩))).tmps.getD b.d undef = .pointer (some ⟨w'.heap.size, 0, none⟩) := by
        rw [put_getD, if_pos ⟨rfl, by rw [h.sz, hn]; exact hd2⟩]
      have hoth : ∀ c ∈ bo, b.j ≠ c.j → (a.put (some b.d) (.pointer (some ⟨w'.heap.size, 0, none⟩))).tmps.getD c.d undef = a.tmps.getD c.d undef ∧ b.d ≠ c.d := fun c hc hne => by
        obtain ⟨oc, hoc, _, hdc, _⟩ := hal c hc
        have : b.d ≠ c.d := fun e => hd3 c.j oc hoc (fun e => hne e.symm) (by rw [hdc, e])
        exact ⟨by rw [put_getD, if_neg (fun e => this e.1)], this⟩
      have hlc : ∀ c ∈ bo, b.j ≠ c.j → (c.j == b.j || l c.j) = true → l c.j = true := fun c _ hne hx => by
        have : (c.j == b.j) = false := by simpa using fun e => hne e.symm
        rwa [this, Bool.false_or] at hx
      refine ⟨by show (a.tmps.setIfInBounds b.d _).size = _; simpa using h.sz, h.df, hpj, fun s hs => ?_, hbelow hgr, fun c hc hlj => ?_, fun c hc e he hlc' hle hne => ?_, fun c hc hk => ?_⟩
      · rw [put_getD, if_neg (fun e => hs b.j o ho (by rw [hdo, e.1]))]; exact h.base s hs
      · by_cases hcj : b.j = c.j
        · refine ⟨w'.heap.size, ?_, h.below.size, by simp, ⟨_, _, Bx.new w' false ⟨#[]⟩ b.t⟩, fun hk => ?_⟩
          · have hdd : b.d = c.d := by
              obtain ⟨oc, hoc, _, hdc, _⟩ := hal c hc
              rw [← hcj, ho] at hoc; injection hoc with hoc; subst hoc
              rw [hdo] at hdc; injection hdc
            rw [← hdd]; exact hself
          · exfalso
            have : (c.k == b.j) = false := by simpa using fun e => huj b hb c hc e.symm
            rw [this, Bool.false_or] at hk
            have h1 := h.ord c hc hk
            rw [← hcj, hli] at h1; cases h1
        · obtain ⟨p, h1, h2, h3, ⟨n', s', h4⟩, h5⟩ := h.box c hc (hlc c hc hcj hlj)
          refine ⟨p, (hoth c hc hcj).1.trans h1, h2, by simp; omega, ⟨n', s', h4.keep hgr h3⟩, fun hk => (h5 ?_).keep hgr h3⟩
          have : (c.k == b.j) = false := by simpa using fun e => huj b hb c hc e.symm
          rwa [this, Bool.false_or] at hk
      · by_cases hcj : b.j = c.j
        · have hej : b.j ≠ e.j := fun x => hne (hcj.symm.trans x)
          obtain ⟨q, h1, h2, h3, _⟩ := h.box e he (hlc e he hej hle)
          obtain rfl := hud b hb c hc hcj
          rw [hself, (hoth e he hej).1, h1]
          intro x; injection x with x; injection x with x; injection x with x; omega
        · obtain ⟨q, h1, h2, h3, _⟩ := h.box c hc (hlc c hc hcj hlc')
          rw [(hoth c hc hcj).1]
          by_cases hej : b.j = e.j
          · obtain rfl := hud b hb e he hej
            rw [hself, h1]
            intro x; injection x with x; injection x with x; injection x with x; omega
          · rw [(hoth e he hej).1]
            exact h.apart c hc e he (hlc c hc hcj hlc') (hlc e he hej hle) hne
      · have : (c.k == b.j) = false := by simpa using fun e => huj b hb c hc e.symm
        rw [this, Bool.false_or] at hk
        rw [h.ord c hc hk, Bool.or_true]
    · by_cases hbk : ∃ b ∈ bo, i = b.k
      · obtain ⟨b, hb, rfl⟩ := hbk
        obtain ⟨o', x, ho', hop, hdo, hg, hdj, hev⟩ := hst b hb
        rw [ho] at ho'; injection ho' with ho'; subst ho'
        refine ⟨by unfold Region.wanted; rw [hg], ?_⟩
        obtain ⟨p, h1, h2, h3, ⟨n', s', h4⟩, _⟩ := h.box b hb (hdep _ hdj)
        unfold Oper.wp
        simp only [execOp, hop, hev a w' hfd, show a.eval (.tmp b.d) = a.tmps.getD b.d undef from rfl, h1]
        have hrun : (do Instr.storeAt b.t (.pointer (some ⟨p, 0, none⟩)) (.agg #[.bool b.n, .string b.s]); pure Next.skip : Sem Next).run P w' = .ok .skip ((w'.setCell ⟨p, 0, none⟩ (.bool b.n)).setCell ⟨p, 1, none⟩ (.string b.s)) := by
          simp [hrs b hb w' p n' s' h4, Result.andThen]
        rw [hrun]
        show StB ops F bo a0 w _ (a.put o.dst _) _
        rw [hdo]
        show StB ops F bo a0 w _ a _
        have hlj : ∀ c ∈ bo, (c.j == b.k || l c.j) = true → l c.j = true := fun c hc hx => by
          have : (c.j == b.k) = false := by simpa using huj c hc b hb
          rwa [this, Bool.false_or] at hx
        have hsz : ((w'.setCell ⟨p, 0, none⟩ (.bool b.n)).setCell ⟨p, 1, none⟩ (.string b.s)).heap.size = w'.heap.size := by simp
        refine ⟨h.sz, h.df, fun j oj dj hj hdj hl => ?_, h.base, below_setBoth h.below h2 _ _, fun c hc hl => ?_, fun c hc e he hl1 hl2 hne => h.apart c hc e he (hlj c hc hl1) (hlj e he hl2) hne, fun c hc hk => ?_⟩
        · have hne : (j == b.k) = false := by
            cases hc : j == b.k with
            | false => rfl
            | true =>
              rw [beq_iff_eq] at hc; subst hc
              rw [ho] at hj; injection hj with hj; subst hj
              rw [hdo] at hdj; cases hdj
          rw [hne, Bool.false_or] at hl
          exact hF _ _ _ _ (h.fact j oj dj hj hdj hl) h.below (below_setBoth h.below h2 _ _) (Nat.le_of_eq hsz.symm)
        · by_cases hcb : c = b
          · subst hcb
            exact ⟨p, h1, h2, by rw [hsz]; exact h3, ⟨_, _, h4.put _ _⟩, fun _ => h4.put _ _⟩
          · obtain ⟨q, g1, g2, g3, ⟨n2, s2, g4⟩, g5⟩ := h.box c hc (hlj c hc hl)
            have hqp : q ≠ p := fun e => h.apart c hc b hb (hlj c hc hl) (hdep _ hdj) (fun e => hcb (hud c hc b hb e)) (by rw [g1, h1, e])
            refine ⟨q, g1, g2, by rw [hsz]; exact g3, ⟨n2, s2, g4.set hqp _ _⟩, fun hk => (g5 ?_).set hqp _ _⟩
            have : (c.k == b.k) = false := by simpa using fun e => hcb (huk c hc b hb e)
            rwa [this, Bool.false_or] at hk
        · by_cases hcb : c = b
          · subst hcb; rw [hdep _ hdj, Bool.or_true]
          · have : (c.k == b.k) = false := by simpa using fun e => hcb (huk c hc b hb e)
            rw [this, Bool.false_or] at hk
            rw [h.ord c hc hk, Bool.or_true]
      · have hnb : ∀ b ∈ bo, i ≠ b.j ∧ i ≠ b.k := fun b hb => ⟨fun e => hbj ⟨b, hb, e⟩, fun e => hbk ⟨b, hb, e⟩⟩
        obtain ⟨hw, hdn, hwp⟩ := hstep i o ho hnb a w' h.below hfd h.base (h.sz.trans hn)
        refine ⟨hw, Oper.wp_mono (fun a' w'' hx => ?_) hwp⟩
        obtain ⟨v, rfl, hv, hgr⟩ := hx
        obtain ⟨d, hdo⟩ := Option.ne_none_iff_exists'.1 hdn
        obtain ⟨hd2, hd3⟩ := hsp i o d ho hdo
        rw [hdo]
        have hoth : ∀ c ∈ bo, (a.put (some d) v).tmps.getD c.d undef = a.tmps.getD c.d undef := fun c hc => by
          obtain ⟨oc, hoc, _, hdc, _⟩ := hal c hc
          have : d ≠ c.d := fun e => hd3 c.j oc hoc (fun e => (hnb c hc).1 e.symm) (by rw [hdc, e])
          rw [put_getD, if_neg (fun e => this e.1)]
        have hlj : ∀ c ∈ bo, (c.j == i || l c.j) = true → l c.j = true := fun c hc hx => by
          have : (c.j == i) = false := by simpa using fun e => (hnb c hc).1 e.symm
          rwa [this, Bool.false_or] at hx
        have hlk : ∀ c ∈ bo, (c.k == i || l c.k) = true → l c.k = true := fun c hc hx => by
          have : (c.k == i) = false := by simpa using fun e => (hnb c hc).2 e.symm
          rwa [this, Bool.false_or] at hx
        refine ⟨by show (a.tmps.setIfInBounds d v).size = _; simpa using h.sz, h.df, putF i o d v l a w' _ ho hdo hli h hv hgr, fun s hs => ?_, hbelow hgr, fun c hc hl => ?_, fun c hc e he hl1 hl2 hne => ?_, fun c hc hk => ?_⟩
        · rw [put_getD, if_neg (fun e => hs i o ho (by rw [hdo, e.1]))]; exact h.base s hs
        · obtain ⟨q, g1, g2, g3, ⟨n2, s2, g4⟩, g5⟩ := h.box c hc (hlj c hc hl)
          exact ⟨q, (hoth c hc).trans g1, g2, Nat.lt_of_lt_of_le g3 hgr.size, ⟨n2, s2, g4.keep hgr g3⟩, fun hk => (g5 (hlk c hc hk)).keep hgr g3⟩
        · rw [hoth c hc, hoth e he]
          exact h.apart c hc e he (hlj c hc hl1) (hlj e he hl2) hne
        · rw [h.ord c hc (hlk c hc hk), Bool.or_true]
  · intro l a w' hall h
    refine hdone a w' (h.sz.trans hn) h.df (fun i o d ho hdo => h.fact i o d ho hdo (hall i (Array.getElem?_eq_some_iff.1 ho).1)) h.base h.below fun b hb => ?_
    obtain ⟨oj, hoj, _⟩ := hal b hb
    obtain ⟨ok, _, hok, _⟩ := hst b hb
    obtain ⟨p, h1, h2, h3, _, h5⟩ := h.box b hb (hall _ (Array.getElem?_eq_some_iff.1 hoj).1)
    exact ⟨p, h1, h2, h3, h5 (hall _ (Array.getElem?_eq_some_iff.1 hok).1)⟩

end Go.Proofs.YtfcmpolhcpbliaaGreatDoor

namespace Go.Proofs.YtfcmpolhcpbliaaGreatDoor
open Go.RowKit Go.Cx
attribute [local go_sem ↓] Go.wp_at_zero Go.wp_at_succ

theorem act_lit {ops : Array Oper} {a a0 : Act} {n : Nat} (hn : a.tmps.size = n) (hdf : a.defers = a0.defers) (hb : ∀ s, (∀ (i : Nat) (o : Oper), ops[i]? = some o → o.dst ≠ some s) → a.tmps.getD s undef = a0.tmps.getD s undef) : a = ⟨((List.range n).map fun i => if noDst ops i then a0.tmps.getD i undef else a.tmps.getD i undef).toArray, a0.defers⟩ := by
  obtain ⟨t, d⟩ := a
  simp only at hn hdf hb
  subst hdf
  congr 1
  refine Array.ext (by simp [hn]) fun i h1 h2 => ?_
  have e : t[i] = t.getD i undef := by rw [Array.getD_eq_getD_getElem?, Array.getElem?_eq_getElem h1]; rfl
  show t[i] = _
  rw [e]
  simp only [List.getElem_toArray, List.getElem_map, List.getElem_range]
  by_cases h : noDst ops i = true
  · rw [if_pos h]; exact hb i (noDst_spec h)
  · rw [if_neg h]
theorem do_idx {P : Program} {Q : Exit → Act → World → Prop} {o : Oper} {a : Act} {w : World} {K : Act → World → Prop} (t : Nat) (x y : Operand) (hop : o.op = .indexAddr t x y) (v1 v2 : Value) (h1 : a.eval x = v1) (h2 : a.eval y = v2) (v : Value) (hrun : (Instr.indexAt t v1 v2).run P w = .ok v w) (h : K (a.put o.dst v) w) : Oper.wp P o a w K Q := by
  subst h1 h2
  unfold Oper.wp
  simp [execOp, hop, hrun, Result.andThen]
  exact h
theorem run_allocW (w : World) : (Instr.alloc 46 true (.tuple #[])).run Tryz.prog w = .ok (.pointer (some ⟨w.heap.size, 0, none⟩)) (w.alloc (.cells #[.bool false, .string ⟨#[]⟩] 46)) := by
  simp [go_sem]
theorem run_storeW (w : World) (p : Nat) (n n' : Bool) (s s' : ByteArray) (h : Bx w p n' s') : (Instr.storeAt 46 (.pointer (some ⟨p, 0, none⟩)) (.agg #[.bool n, .string s])).run Tryz.prog w = .ok () ((w.setCell ⟨p, 0, none⟩ (.bool n)).setCell ⟨p, 1, none⟩ (.string s)) := by
  obtain ⟨h1, h2, h3, h4⟩ := h
  simp [go_sem, h1, h2, h3, h4]
theorem run_idx2 (w : World) (p : Nat) (k : Nat) (hk : k < 2) : (Instr.indexAt 71 (.pointer (some ⟨p, 0, none⟩)) (.int .i64 k)).run Tryz.prog w = .ok (.pointer (some ⟨p, k, none⟩)) w := by
  rcases (by omega : k = 0 ∨ k = 1) with rfl | rfl <;> simp [go_sem]
theorem run_ldi (w : World) (p : Addr) (x : Int) (h1 : w.cell? p = some (.int .i64 x)) : (Instr.loadAt 3 (.pointer (some p))).run Tryz.prog w = .ok (.int .i64 x) w := by
  simp [go_sem, h1]

theorem refMulV (x y z : Int) (w : World) (hx : nb x ≤ 1099511627775) (hy : nb y ≤ 1099511627775) (hz : x * y = z) : Calls Tryz.prog 45 #[wv x, wv y] w (Gives (.val (wv z)) w) := by
  subst hz
  have := refMul (decide (x < 0)) (decide (y < 0)) (mg x) (mg y) w (by rw [mg_size]; exact hx) (by rw [mg_size]; exact hy)
  rw [iv_mg, iv_mg] at this
  exact this.mono fun e w' ⟨he, hb⟩ => ⟨_, he, rfl, hb⟩
theorem refAddV (x y z : Int) (w : World) (hx : nb x ≤ 1099511627776) (hy : nb y ≤ 1099511627776) (hz : x + y = z) : Calls Tryz.prog 34 #[wv x, wv y] w (Gives (.val (wv z)) w) := by
  subst hz
  have := refAdd (decide (x < 0)) (decide (y < 0)) (mg x) (mg y) w (by rw [mg_size]; exact hx) (by rw [mg_size]; exact hy)
  rw [iv_mg, iv_mg] at this
  exact this.mono fun e w' ⟨he, hb⟩ => ⟨_, he, rfl, hb⟩
theorem cfPairR (v u : Value) (f : Int → Int) (N S : Nat) (m : List Tm) (z : Int) (w : World) (h : (Fk.cf f N S).holds v w) (k : Sl w 3 u (tv m)) (kS : TOk S m) (hb : S + 2 * N + 2 * m.length ≤ 900000) (hz : pg f (prs m) = z) : Calls Tryz.prog 27 #[v, u] w (Gives (.val (wv z)) w) := by
  obtain ⟨L, h1, h2, h3, h4, h5⟩ := h
  refine (chPair v u (ctm L) m S w h5 k h4 kS (by rw [ctm_len]; omega)).mono fun e w' ⟨he, hb⟩ => ⟨_, he, ?_, hb⟩
  rw [prs_ctm, show co L = f from funext h2, hz]; rfl
theorem ef_ref01_Mul : ∀ args w, (callFunc 45 args).run Tryz.prog w = .ok (.enter 45 args) w := enter_fn Tryz.func45 (by kernel_rfl) (by kernel_rfl)
theorem ef_ref01_Add : ∀ args w, (callFunc 34 args).run Tryz.prog w = .ok (.enter 34 args) w := enter_fn Tryz.func34 (by kernel_rfl) (by kernel_rfl)
theorem ef_linear1 : ∀ args w, (callFunc 44 args).run Tryz.prog w = .ok (.enter 44 args) w := enter_fn Tryz.func44 (by kernel_rfl) (by kernel_rfl)

set_option maxRecDepth 100000 in
set_option maxHeartbeats 4000000 in
theorem laLinear (v0 v1 v2 : Value) (l : List Int) (l1 l2 : List (Int × Int)) (n0 n1 : Int) (w : World) (h0 : Sl w 1 v0 (ints l)) (h1 : Sl w 2 v1 (pv l1)) (h2 : Sl w 2 v2 (pv l2)) (r1 : ∀ p ∈ l1, I64 p.1 ∧ I64 p.2) (r2 : ∀ p ∈ l2, I64 p.1 ∧ I64 p.2) (hn0 : I64 n0) (hn1 : I64 n1) :
    Calls Tryz.prog 9 #[v0, .agg #[v1, v2], .agg #[.int .i64 n0, .int .i64 n1]] w fun e w' => e = .returned (.bool true) ∧ Below w.heap.size w w' := by
  obtain ⟨a0, k0, c0, rfl⟩ := sl_shape h0
  obtain ⟨a1, k1, c1, rfl⟩ := sl_shape h1
  obtain ⟨a2, k2, c2, rfl⟩ := sl_shape h2
  have H := Lib.hid (And.intro h0 (And.intro h1 h2))
  clear h0 h1 h2
  go_enter Tryz.func9, Tryz.ntmps9
  go_wp2_with fail
  obtain ⟨W, hW⟩ : ∃ W : World, W = (w.alloc (.cells #[.slice a1 k1 c1, .slice a2 k2 c2] 70)).alloc (.cells #[.int .i64 n0, .int .i64 n1] 71) := ⟨_, rfl⟩
  rw [← hW]
  have d0 : W.cell? ⟨w.heap.size, 0, none⟩ = some (.slice a1 k1 c1) := by rw [hW]; exact keepAl (cell_new w #[.slice a1 k1 c1, .slice a2 k2 c2] 70 (0, 0) 0) _
  have d1 : W.cell? ⟨w.heap.size, 1, none⟩ = some (.slice a2 k2 c2) := by rw [hW]; exact keepAl (cell_new w #[.slice a1 k1 c1, .slice a2 k2 c2] 70 (0, 0) 1) _
  have d2 : W.cell? ⟨w.heap.size + 1, 0, none⟩ = some (.int .i64 n0) := by
    rw [hW]
    have := cell_new (w.alloc (.cells #[.slice a1 k1 c1, .slice a2 k2 c2] 70)) #[.int .i64 n0, .int .i64 n1] 71 (0, 0) 0
    rw [World.size_alloc] at this
    exact this
  have d3 : W.cell? ⟨w.heap.size + 1, 1, none⟩ = some (.int .i64 n1) := by
    rw [hW]
    have := cell_new (w.alloc (.cells #[.slice a1 k1 c1, .slice a2 k2 c2] 70)) #[.int .i64 n0, .int .i64 n1] 71 (0, 0) 1
    rw [World.size_alloc] at this
    exact this
  have hw : Below w.heap.size w W := by rw [hW]; exact ((Below.refl _ _).alloc (Nat.le_refl _) _).alloc (by simp) _
  clear hW
  have HD := Lib.hid (And.intro d0 (And.intro d1 (And.intro d2 d3)))
  clear d0 d1 d2 d3
  refine (laSanity _).mono ?_
  rintro e w1 ⟨rfl, hb1⟩
  go_wp2_with fail
  refine (smSimplices _ l _ (H.out.1.keep (hw.trans (hb1.mono hw.size)))).mono ?_
  rintro e w2 ⟨r, m, rfl, hm, hR, hb2⟩
  obtain ⟨ua, uc, hue⟩ := ownsRow_len hR.1
  subst hue
  have hB2 : Below W.heap.size W w2 := hb1.trans (hb2.mono hb1.size)
  have HC := Lib.hid (And.intro hm hR.slc)
  have HB2 := Lib.hid hB2
  have HW := Lib.hid hw
  clear hm hR hb1 hb2 hB2 hw
  go_upto_region 3 with fail
  obtain ⟨W0, hW0⟩ : ∃ W0, W0 = w2.alloc (.cells #[.slice ua m.length uc] 27) := ⟨_, rfl⟩
  rw [← hW0]
  have hBW : Below W.heap.size W W0 := by rw [hW0]; exact HB2.out.alloc HB2.out.size _
  have hBw : Below w.heap.size w W0 := HW.out.trans (hBW.mono HW.out.size)
  obtain ⟨d0, d1, d2, d3⟩ := HD.out
  replace d0 := Cx.keep hBW d0
  replace d1 := Cx.keep hBW d1
  replace d2 := Cx.keep hBW d2
  replace d3 := Cx.keep hBW d3
  have HV := Lib.hid (And.intro (show ∀ w', Below W0.heap.size W0 w' → Sl w' 2 (.slice a1 k1 c1) (pv l1) from fun w' h => (H.out.2.1.keep hBw).keep h) (show ∀ w', Below W0.heap.size W0 w' → Sl w' 2 (.slice a2 k2 c2) (pv l2) from fun w' h => (H.out.2.2.keep hBw).keep h))
  have hcx : (Fk.cx (simpN l)).holds (.agg #[.slice ua m.length uc]) W0 := by rw [hW0]; exact ⟨_, m, rfl, HC.out.2.mono fun p u hc => keepAl hc _, HC.out.1⟩
  have hbv : Bv W0 w2.heap.size (.slice ua m.length uc) := by rw [hW0]; exact Bv.new w2 _ _
  have hzw : w2.heap.size < W0.heap.size := by rw [hW0]; simp
  have HX := Lib.hid (And.intro hcx (And.intro hbv (And.intro hzw hBw)))
  have hbd : Below W0.heap.size W0 W0.drew := below_draws (Below.refl _ W0) 1
  clear hcx hbv hzw hBw hBW hW0
  go_region_held3 (fun w' => w'.cell? ⟨w.heap.size, 0, none⟩ = some (.slice a1 k1 c1) ∧ w'.cell? ⟨w.heap.size, 1, none⟩ = some (.slice a2 k2 c2))
    (first | exact ⟨by assumption, by assumption⟩)
    (first
      | (go_at_call 15; refine (svTermsF _ l2 W0.heap.size _ (HV.out.2 _ HX3.out.2) r2 HX3.out.2.size).mono ?_; rintro e w4 ⟨v10, rfl, hy, hb4⟩; have H34 := Lib.hid hb4; have hb4 : Below W0.heap.size W0 w4 := HX3.out.2.trans (hb4.mono HX3.out.2.size); have a0 := Cx.keep hb4 d0; have a1 := Cx.keep hb4 d1; have HX4 := Lib.hid (And.intro hy hb4))
      | (go_at_call 15; refine (svTermsF _ l1 W0.heap.size _ (HV.out.1 _ hbd) r1 (Nat.le_of_eq (by simp))).mono ?_; rintro e w3 ⟨v9, rfl, hx, hb3⟩; have hb3 : Below W0.heap.size W0 w3 := hbd.trans (hb3.mono (by simp)); have a0 := Cx.keep hb3 d0; have a1 := Cx.keep hb3 d1; have HX3 := Lib.hid (And.intro hx hb3)))
  go_upto_region 4 with fail
  have e2 := Cx.keep HX4.out.2 d2
  have e3 := Cx.keep HX4.out.2 d3
  have HB4 := Lib.hid HX4.out.2
  have HNe := Lib.hid (show w.heap.size + 1 < w4.heap.size from World.block_lt_of_cell? w4 _ e2)
  clear hbd a0 a1 d0 d1 d2 d3
  go_cut [11, 12] from 25 to 30 (fun p q wx => ∃ b c : Nat, p = .pointer (some ⟨b, 0, none⟩) ∧ q = .pointer (some ⟨c, 0, none⟩) ∧ Hid (Bx wx b (decide (n0 < 0)) (mg n0)) ∧ Hid (Bx wx c (decide (n1 < 0)) (mg n1)) ∧ Hid (Below w4.heap.size w4 wx))
  case first =>
    rename_i J K2 hJ hK
    have hq0 : ∀ w', Below w4.heap.size w4 w' → w'.cell? ⟨w.heap.size + 1, 0, none⟩ = some (.int .i64 n0) := fun w' h => Cx.keep h e2
    have hq1 : ∀ w', Below w4.heap.size w4 w' → w'.cell? ⟨w.heap.size + 1, 1, none⟩ = some (.int .i64 n1) := fun w' h => Cx.keep h e3
    refine region_boxes rfl (fun i v _ => ∀ x, ([some (.pointer (some ⟨w.heap.size + 1, 0, none⟩)), some (.int .i64 n0), some (wv n0), some (.pointer (some ⟨w.heap.size + 1, 1, none⟩)), some (.int .i64 n1), some (wv n1)] : List (Option Value)).getD i none = some x → v = x) [⟨6, 8, 11, 46, decide (n0 < 0), mg n0⟩, ⟨7, 9, 12, 46, decide (n1 < 0), mg n1⟩] 83 rfl (by kernel_rfl) (by kernel_rfl) (fun _ _ _ _ h _ _ _ => h) ?hFb ?hal ?hru ?hst ?hrs ?huk ?hud ?huj ?step ?done
    case hFb =>
      intro b hb v w' x hx
      simp only [List.mem_cons, List.not_mem_nil, or_false] at hb
      rcases hb with rfl | rfl <;> cases hx
    case hal =>
      intro b hb
      simp only [List.mem_cons, List.not_mem_nil, or_false] at hb
      rcases hb with rfl | rfl <;> exact ⟨_, rfl, rfl, rfl, rfl⟩
    case hru =>
      intro b hb w
      simp only [List.mem_cons, List.not_mem_nil, or_false] at hb
      rcases hb with rfl | rfl <;> exact run_allocW w
    case hst =>
      intro b hb
      simp only [List.mem_cons, List.not_mem_nil, or_false] at hb
      rcases hb with rfl | rfl
      · exact ⟨_, _, rfl, rfl, rfl, rfl, by kernel_rfl, fun a w' hf => hf 2 _ _ rfl rfl (by kernel_rfl) _ rfl⟩
      · exact ⟨_, _, rfl, rfl, rfl, rfl, by kernel_rfl, fun a w' hf => hf 5 _ _ rfl rfl (by kernel_rfl) _ rfl⟩
    case hrs =>
      intro b hb w p n' s' h
      simp only [List.mem_cons, List.not_mem_nil, or_false] at hb
      rcases hb with rfl | rfl <;> exact run_storeW _ _ _ _ _ _ h
    case huk =>
      intro b hb c hc h
      simp only [List.mem_cons, List.not_mem_nil, or_false] at hb hc
      rcases hb with rfl | rfl <;> rcases hc with rfl | rfl <;> first | rfl | (simp at h)
    case hud =>
      intro b hb c hc h
      simp only [List.mem_cons, List.not_mem_nil, or_false] at hb hc
      rcases hb with rfl | rfl <;> rcases hc with rfl | rfl <;> first | rfl | (simp at h)
    case huj =>
      intro b hb c hc h
      simp only [List.mem_cons, List.not_mem_nil, or_false] at hb hc
      rcases hb with rfl | rfl <;> rcases hc with rfl | rfl <;> simp at h
    case step =>
      intro i o ho hn a w' hw hd hbase hsz
      match i, ho, hn, hd with
      | 0, ho, _, hd =>
        obtain rfl := Option.some.inj ho
        exact ⟨rfl, Option.some_ne_none _, do_idx _ _ _ rfl _ _ (hbase 5 (noDst_spec (by kernel_rfl))) rfl _ (run_idx2 _ _ 0 (by omega)) ⟨_, rfl, fun _ h => Option.some.inj h, Below.refl _ _⟩⟩
      | 1, ho, _, hd =>
        obtain rfl := Option.some.inj ho
        exact ⟨rfl, Option.some_ne_none _, do_load _ _ rfl _ (hd 0 _ _ rfl rfl (by kernel_rfl) _ rfl) _ (run_ldi _ _ _ (hq0 _ hw)) ⟨_, rfl, fun _ h => Option.some.inj h, Below.refl _ _⟩⟩
      | 2, ho, _, hd =>
        obtain rfl := Option.some.inj ho
        have f0 : a.tmps.getD 26 undef = .int .i64 n0 := hd 1 _ _ rfl rfl (by kernel_rfl) _ rfl
        exact ⟨rfl, Option.some_ne_none _, do_call _ _ _ rfl ef_ref01_From #[.int .i64 n0] (by simp [Act.eval, f0]) ((refFrom n0 _ hn0.1 hn0.2).mono fun e w6 ⟨he, hb⟩ => ⟨_, he, _, rfl, fun _ h => Option.some.inj h, hb⟩)⟩
      | 3, ho, _, hd =>
        obtain rfl := Option.some.inj ho
        exact ⟨rfl, Option.some_ne_none _, do_idx _ _ _ rfl _ _ (hbase 5 (noDst_spec (by kernel_rfl))) rfl _ (run_idx2 _ _ 1 (by omega)) ⟨_, rfl, fun _ h => Option.some.inj h, Below.refl _ _⟩⟩
      | 4, ho, _, hd =>
        obtain rfl := Option.some.inj ho
        exact ⟨rfl, Option.some_ne_none _, do_load _ _ rfl _ (hd 3 _ _ rfl rfl (by kernel_rfl) _ rfl) _ (run_ldi _ _ _ (hq1 _ hw)) ⟨_, rfl, fun _ h => Option.some.inj h, Below.refl _ _⟩⟩
      | 5, ho, _, hd =>
        obtain rfl := Option.some.inj ho
        have f0 : a.tmps.getD 29 undef = .int .i64 n1 := hd 4 _ _ rfl rfl (by kernel_rfl) _ rfl
        exact ⟨rfl, Option.some_ne_none _, do_call _ _ _ rfl ef_ref01_From #[.int .i64 n1] (by simp [Act.eval, f0]) ((refFrom n1 _ hn1.1 hn1.2).mono fun e w6 ⟨he, hb⟩ => ⟨_, he, _, rfl, fun _ h => Option.some.inj h, hb⟩)⟩
      | 6, ho, hn, hd => exact absurd rfl (hn _ (List.mem_cons_self ..)).1
      | 7, ho, hn, hd => exact absurd rfl (hn _ (List.mem_cons_of_mem _ (List.mem_cons_self ..))).1
      | 8, ho, hn, hd => exact absurd rfl (hn _ (List.mem_cons_self ..)).2
      | 9, ho, hn, hd => exact absurd rfl (hn _ (List.mem_cons_of_mem _ (List.mem_cons_self ..))).2
      | i + 10, ho, hn, hd =>
        have : i + 10 < 10 := (Array.getElem?_eq_some_iff.1 ho).1
        omega
    case done =>
      intro a w5 hsz hdf hf hbase hw hbx
      obtain ⟨b, hb1, _, _, hb2⟩ := hbx _ (List.mem_cons_self ..)
      obtain ⟨c, hc1, _, _, hc2⟩ := hbx _ (List.mem_cons_of_mem _ (List.mem_cons_self ..))
      refine hK _ _ (Met.intro (hJ _ _ ⟨a.tmps.getD 11 undef, a.tmps.getD 12 undef, a.tmps.getD 25 undef, a.tmps.getD 26 undef, a.tmps.getD 27 undef, a.tmps.getD 28 undef, a.tmps.getD 29 undef, a.tmps.getD 30 undef, ⟨b, c, hb1, hc1, Lib.hid hb2, Lib.hid hc2, Lib.hid hw⟩, (act_lit hsz hdf hbase).trans ?_⟩))
      kernel_rfl
  case rest =>
    obtain ⟨b, c, rfl, rfl, hbx, hcx, hB5⟩ := hcut
    obtain ⟨wo, hwo⟩ : ∃ x : World, x = wc := ⟨_, rfl⟩
    subst hwo
    obtain ⟨L1, hL1⟩ : ∃ L, L = l1.take 30 := ⟨_, rfl⟩
    obtain ⟨L2, hL2⟩ : ∃ L, L = l2.take 30 := ⟨_, rfl⟩
    have q1 : LOk 8 L1 := hL1 ▸ lok8 r1
    have q2 : LOk 8 L2 := hL2 ▸ lok8 r2
    have len1 : (ctm L1).length ≤ 30 := by rw [ctm_len, hL1]; simp; omega
    have len2 : (ctm L2).length ≤ 30 := by rw [ctm_len, hL2]; simp; omega
    obtain ⟨N1, hN1⟩ : ∃ N, (ctm L1).length = N := ⟨_, rfl⟩
    obtain ⟨N2, hN2⟩ : ∃ N, (ctm L2).length = N := ⟨_, rfl⟩
    have s1 : Sl w4 3 v9 (tv (ctm L1)) := by
      have := Sl.of_ownsRow HX3.out.1.2
      rw [← hL1] at this
      exact this.keep H34.out
    have s2 : Sl w4 3 v10 (tv (ctm L2)) := by
      have := Sl.of_ownsRow HX4.out.1.2
      rwa [← hL2] at this
    obtain ⟨F, hF⟩ : ∃ F : Int → Int, ∀ d, n0 * co (prs (ctm L1)) d + n1 * co (prs (ctm L2)) d = F d := ⟨_, fun _ => rfl⟩
    go_wp2_with fail
    refine (laBoth v9 v10 (ctm L1) (ctm L2) 8 N1 N2 b c n0 n1 F wo (s1.keep hB5.out) (s2.keep hB5.out) q1.tok q2.tok hbx.out hcx.out hn0 hn1 hN1 hN2 (by omega) hF).mono ?_
    rintro e w6 ⟨vs, rfl, hs, hb6⟩
    have hs : (Fk.cf F 60 77).holds vs w6 := cf_mono hs (fun _ => rfl) (by omega) (by omega)
    have hbl : b < wo.heap.size := World.block_lt_of_cell? wo _ hbx.out.1
    have hcl : c < wo.heap.size := World.block_lt_of_cell? wo _ hcx.out.1
    have hB6 := hB5.out.trans (hb6.mono hB5.out.size)
    have hS6 := Lib.hid (And.intro hs (And.intro hb6 (And.intro hbl (And.intro hcl (And.intro hB6 (And.intro s1 (And.intro s2 hF)))))))
    clear hs hb6 hbl hcl hB6 s1 s2 hF
    go_upto_region 7 with fail
    obtain ⟨p1, hp1⟩ : ∃ z, pg (co (prs (ctm L1))) (prs (ctm L2)) = z := ⟨_, rfl⟩
    obtain ⟨p2, hp2⟩ : ∃ z, pg (co (prs (ctm L2))) (prs (ctm L2)) = z := ⟨_, rfl⟩
    go_cut [15] from 36 to 46 (fun p wx => ∃ d : Nat, p = .pointer (some ⟨d, 0, none⟩) ∧ Hid (Bx wx d (decide (n0 * p1 + n1 * p2 < 0)) (mg (n0 * p1 + n1 * p2))) ∧ Hid (Below w6.heap.size w6 wx))
    case first =>
      rename_i J K2 hJ hK
      obtain ⟨hs, hb6, hbl, hcl, hB6, s1, s2, hF⟩ := hS6.out
      have hx : ∀ w', Below w6.heap.size w6 w' → Bx w' b (decide (n0 < 0)) (mg n0) := fun w' h => (hbx.out.keep hb6 hbl).keep h (Nat.lt_of_lt_of_le hbl hb6.size)
      have hy : ∀ w', Below w6.heap.size w6 w' → Bx w' c (decide (n1 < 0)) (mg n1) := fun w' h => (hcx.out.keep hb6 hcl).keep h (Nat.lt_of_lt_of_le hcl hb6.size)
      have g1 : ∀ w', Below w6.heap.size w6 w' → Sl w' 3 v9 (tv (ctm L1)) := fun w' h => (s1.keep hB6).keep h
      have g2 : ∀ w', Below w6.heap.size w6 w' → Sl w' 3 v10 (tv (ctm L2)) := fun w' h => (s2.keep hB6).keep h
      have b0 := nb_int n0 hn0.1 hn0.2
      have b1 := nb_int n1 hn1.1 hn1.2
      have bp1 : nb p1 ≤ 1000 := by
        rw [← hp1]
        have := nb_pg (co (prs (ctm L1))) 38 8 (prs (ctm L2)) (fun c => Nat.le_trans (tok_nb q1.tok c) (by omega)) (nb_prs q2.tok)
        rw [prs_len] at this
        omega
      have bp2 : nb p2 ≤ 1000 := by
        rw [← hp2]
        have := nb_pg (co (prs (ctm L2))) 38 8 (prs (ctm L2)) (fun c => Nat.le_trans (tok_nb q2.tok c) (by omega)) (nb_prs q2.tok)
        rw [prs_len] at this
        omega
      have bm1 := nb_mul n0 p1
      have bm2 := nb_mul n1 p2
      refine region_boxes rfl (fun i v _ => ∀ x, ([some (wv n0), some v9, some v10, some (wv p1), some (wv (n0 * p1)), some (wv n1), some v10, some v10, some (wv p2), some (wv (n1 * p2)), some (wv (n0 * p1 + n1 * p2))] : List (Option Value)).getD i none = some x → v = x) [⟨11, 12, 15, 46, decide (n0 * p1 + n1 * p2 < 0), mg (n0 * p1 + n1 * p2)⟩] 83 rfl (by kernel_rfl) (by kernel_rfl) (fun _ _ _ _ h _ _ _ => h) ?hFb ?hal ?hru ?hst ?hrs ?huk ?hud ?huj ?step ?done
      case hFb =>
        intro b hb v w' x hx
        simp only [List.mem_cons, List.not_mem_nil, or_false] at hb
        rcases hb with rfl; cases hx
      case hal =>
        intro b hb
        simp only [List.mem_cons, List.not_mem_nil, or_false] at hb
        rcases hb with rfl; exact ⟨_, rfl, rfl, rfl, rfl⟩
      case hru =>
        intro b hb w
        simp only [List.mem_cons, List.not_mem_nil, or_false] at hb
        rcases hb with rfl; exact run_allocW w
      case hst =>
        intro b hb
        simp only [List.mem_cons, List.not_mem_nil, or_false] at hb
        rcases hb with rfl
        exact ⟨_, _, rfl, rfl, rfl, rfl, by kernel_rfl, fun a w' hf => hf 10 _ _ rfl rfl (by kernel_rfl) _ rfl⟩
      case hrs =>
        intro b hb w p n' s' h
        simp only [List.mem_cons, List.not_mem_nil, or_false] at hb
        rcases hb with rfl; exact run_storeW _ _ _ _ _ _ h
      case huk =>
        intro b hb c hc h
        simp only [List.mem_cons, List.not_mem_nil, or_false] at hb hc
        rw [hb, hc]
      case hud =>
        intro b hb c hc h
        simp only [List.mem_cons, List.not_mem_nil, or_false] at hb hc
        rw [hb, hc]
      case huj =>
        intro b hb c hc h
        simp only [List.mem_cons, List.not_mem_nil, or_false] at hb hc
        rw [hb, hc] at h
        simp at h
      case step =>
        intro i o ho hn a w' hw hd hbase hsz
        match i, ho, hn, hd with
        | 0, ho, _, hd =>
          obtain rfl := Option.some.inj ho
          exact ⟨rfl, Option.some_ne_none _, do_load _ _ rfl _ (hbase 11 (noDst_spec (by kernel_rfl))) _ (ldW (hx _ hw)) ⟨_, rfl, fun _ h => Option.some.inj h, Below.refl _ _⟩⟩
        | 1, ho, _, hd =>
          obtain rfl := Option.some.inj ho
          exact ⟨rfl, Option.some_ne_none _, do_move _ (.inl rfl) ⟨_, rfl, fun _ h => (hbase 9 (noDst_spec (by kernel_rfl))).trans (Option.some.inj h), Below.refl _ _⟩⟩
        | 2, ho, _, hd =>
          obtain rfl := Option.some.inj ho
          exact ⟨rfl, Option.some_ne_none _, do_move _ (.inl rfl) ⟨_, rfl, fun _ h => (hbase 10 (noDst_spec (by kernel_rfl))).trans (Option.some.inj h), Below.refl _ _⟩⟩
        | 3, ho, _, hd =>
          obtain rfl := Option.some.inj ho
          have f0 : a.tmps.getD 37 undef = v9 := hd 1 _ _ rfl rfl (by kernel_rfl) _ rfl
          have f1 : a.tmps.getD 38 undef = v10 := hd 2 _ _ rfl rfl (by kernel_rfl) _ rfl
          exact ⟨rfl, Option.some_ne_none _, do_call _ _ _ rfl ef_chains_Pair #[v9, v10] (by simp [Act.eval, f0, f1]) ((chPairT v9 v10 (ctm L1) (ctm L2) 8 _ (g1 _ hw) (g2 _ hw) q1.tok q2.tok (by omega) (by omega) (by decide) p1 hp1).mono fun e w6 ⟨r, he, hr, hb⟩ => ⟨r, he, r, rfl, fun _ h => hr.trans (Option.some.inj h), hb⟩)⟩
        | 4, ho, _, hd =>
          obtain rfl := Option.some.inj ho
          have f0 : a.tmps.getD 36 undef = wv n0 := hd 0 _ _ rfl rfl (by kernel_rfl) _ rfl
          have f1 : a.tmps.getD 39 undef = wv p1 := hd 3 _ _ rfl rfl (by kernel_rfl) _ rfl
          exact ⟨rfl, Option.some_ne_none _, do_call _ _ _ rfl ef_ref01_Mul #[wv n0, wv p1] (by simp [Act.eval, f0, f1]) ((refMulV n0 p1 _ _ (by omega) (by omega) rfl).mono fun e w6 ⟨r, he, hr, hb⟩ => ⟨r, he, r, rfl, fun _ h => hr.trans (Option.some.inj h), hb⟩)⟩
        | 5, ho, _, hd =>
          obtain rfl := Option.some.inj ho
          exact ⟨rfl, Option.some_ne_none _, do_load _ _ rfl _ (hbase 12 (noDst_spec (by kernel_rfl))) _ (ldW (hy _ hw)) ⟨_, rfl, fun _ h => Option.some.inj h, Below.refl _ _⟩⟩
        | 6, ho, _, hd =>
          obtain rfl := Option.some.inj ho
          exact ⟨rfl, Option.some_ne_none _, do_move _ (.inl rfl) ⟨_, rfl, fun _ h => (hbase 10 (noDst_spec (by kernel_rfl))).trans (Option.some.inj h), Below.refl _ _⟩⟩
        | 7, ho, _, hd =>
          obtain rfl := Option.some.inj ho
          exact ⟨rfl, Option.some_ne_none _, do_move _ (.inl rfl) ⟨_, rfl, fun _ h => (hbase 10 (noDst_spec (by kernel_rfl))).trans (Option.some.inj h), Below.refl _ _⟩⟩
        | 8, ho, _, hd =>
          obtain rfl := Option.some.inj ho
          have f0 : a.tmps.getD 42 undef = v10 := hd 6 _ _ rfl rfl (by kernel_rfl) _ rfl
          have f1 : a.tmps.getD 43 undef = v10 := hd 7 _ _ rfl rfl (by kernel_rfl) _ rfl
          exact ⟨rfl, Option.some_ne_none _, do_call _ _ _ rfl ef_chains_Pair #[v10, v10] (by simp [Act.eval, f0, f1]) ((chPairT v10 v10 (ctm L2) (ctm L2) 8 _ (g2 _ hw) (g2 _ hw) q2.tok q2.tok (by omega) (by omega) (by decide) p2 hp2).mono fun e w6 ⟨r, he, hr, hb⟩ => ⟨r, he, r, rfl, fun _ h => hr.trans (Option.some.inj h), hb⟩)⟩
        | 9, ho, _, hd =>
          obtain rfl := Option.some.inj ho
          have f0 : a.tmps.getD 41 undef = wv n1 := hd 5 _ _ rfl rfl (by kernel_rfl) _ rfl
          have f1 : a.tmps.getD 44 undef = wv p2 := hd 8 _ _ rfl rfl (by kernel_rfl) _ rfl
          exact ⟨rfl, Option.some_ne_none _, do_call _ _ _ rfl ef_ref01_Mul #[wv n1, wv p2] (by simp [Act.eval, f0, f1]) ((refMulV n1 p2 _ _ (by omega) (by omega) rfl).mono fun e w6 ⟨r, he, hr, hb⟩ => ⟨r, he, r, rfl, fun _ h => hr.trans (Option.some.inj h), hb⟩)⟩
        | 10, ho, _, hd =>
          obtain rfl := Option.some.inj ho
          have f0 : a.tmps.getD 40 undef = wv (n0 * p1) := hd 4 _ _ rfl rfl (by kernel_rfl) _ rfl
          have f1 : a.tmps.getD 45 undef = wv (n1 * p2) := hd 9 _ _ rfl rfl (by kernel_rfl) _ rfl
          exact ⟨rfl, Option.some_ne_none _, do_call _ _ _ rfl ef_ref01_Add #[wv (n0 * p1), wv (n1 * p2)] (by simp [Act.eval, f0, f1]) ((refAddV (n0 * p1) (n1 * p2) _ _ (by omega) (by omega) rfl).mono fun e w6 ⟨r, he, hr, hb⟩ => ⟨r, he, r, rfl, fun _ h => hr.trans (Option.some.inj h), hb⟩)⟩
        | 11, ho, hn, hd => exact absurd rfl (hn _ (List.mem_cons_self ..)).1
        | 12, ho, hn, hd => exact absurd rfl (hn _ (List.mem_cons_self ..)).2
        | i + 13, ho, hn, hd =>
          have : i + 13 < 13 := (Array.getElem?_eq_some_iff.1 ho).1
          omega
      case done =>
        intro a w5 hsz hdf hf hbase hw hbx
        obtain ⟨d, hb1, _, _, hb2⟩ := hbx _ (List.mem_cons_self ..)
        refine hK _ _ (Met.intro (hJ _ _ ⟨a.tmps.getD 15 undef, a.tmps.getD 36 undef, a.tmps.getD 37 undef, a.tmps.getD 38 undef, a.tmps.getD 39 undef, a.tmps.getD 40 undef, a.tmps.getD 41 undef, a.tmps.getD 42 undef, a.tmps.getD 43 undef, a.tmps.getD 44 undef, a.tmps.getD 45 undef, a.tmps.getD 46 undef, ⟨d, hb1, Lib.hid hb2, Lib.hid hw⟩, (act_lit hsz hdf hbase).trans ?_⟩))
        kernel_rfl
    case rest =>
      obtain ⟨wd, hwd⟩ : ∃ x : World, x = wc := ⟨_, rfl⟩
      subst hwd
      obtain ⟨d, rfl, hdx, hB7⟩ := hcut
      obtain ⟨hs, hb6, hbl, hcl, hB6, s1, s2, hF⟩ := hS6.out
      obtain ⟨hcx0, hbv0, hzw, hBw⟩ := HX.out
      have hB04 : Below W0.heap.size W0 wd := HB4.out.trans ((hB6.mono HB4.out.size).trans (hB7.out.mono (Nat.le_trans HB4.out.size hB6.size)))
      have hB0 : Below w.heap.size w wd := hBw.trans (hB04.mono hBw.size)
      have hb7 := hb6.trans (hB7.out.mono hb6.size)
      have hb47 := hB6.trans (hB7.out.mono hB6.size)
      obtain ⟨K, hKe⟩ : ∃ K, K = simpN l := ⟨_, rfl⟩
      have hok := simpN_ok l
      rw [← hKe] at hcx0 hok
      obtain ⟨hK, hR, _⟩ := hok
      have hk0 : (Fk.cx K).holds (.agg #[.slice ua m.length uc]) wd := Fk.keep (k := .cx K) hcx0 hB04
      have hbv : Bv wd w2.heap.size (.slice ua m.length uc) := hbv0.keep hB04
      have hvs : ∀ w', Below wd.heap.size wd w' → (Fk.cf F 60 77).holds vs w' := fun w' h => Fk.keep (k := .cf F 60 77) (Fk.keep (k := .cf F 60 77) hs hB7.out) h
      have hv9 : ∀ w', Below wd.heap.size wd w' → Sl w' 3 v9 (tv (ctm L1)) := fun w' h => (s1.keep hb47).keep h
      have hv10 : ∀ w', Below wd.heap.size wd w' → Sl w' 3 v10 (tv (ctm L2)) := fun w' h => (s2.keep hb47).keep h
      have hbx' : ∀ w', Below wd.heap.size wd w' → Bx w' b (decide (n0 < 0)) (mg n0) := fun w' h => (hbx.out.keep hb7 hbl).keep h (Nat.lt_of_lt_of_le hbl hb7.size)
      have hcx' : ∀ w', Below wd.heap.size wd w' → Bx w' c (decide (n1 < 0)) (mg n1) := fun w' h => (hcx.out.keep hb7 hcl).keep h (Nat.lt_of_lt_of_le hcl hb7.size)
      obtain ⟨Z, hZe⟩ : ∃ Z, Z = n0 * p1 + n1 * p2 := ⟨_, rfl⟩
      rw [← hZe] at hdx
      have hdl : d < wd.heap.size := World.block_lt_of_cell? wd _ hdx.out.1
      have hdx' : ∀ w', Below wd.heap.size wd w' → Bx w' d (decide (Z < 0)) (mg Z) := fun w' h => hdx.out.keep h hdl
      have hFe : F = fun d => n0 * co (prs (ctm L1)) d + n1 * co (prs (ctm L2)) d := funext fun d => (hF d).symm
      have hZ : pg F (prs (ctm L2)) = Z := by rw [hFe, pg_lin, hp1, hp2, hZe]
      obtain ⟨Gx, hGx⟩ : ∃ g : Int → Int, ∀ c, co (bdL (co (prs (ctm L1))) (rawsK K)) c = g c := ⟨_, fun _ => rfl⟩
      obtain ⟨Gy, hGy⟩ : ∃ g : Int → Int, ∀ c, co (bdL (co (prs (ctm L2))) (rawsK K)) c = g c := ⟨_, fun _ => rfl⟩
      obtain ⟨G1, hG1⟩ : ∃ g : Int → Int, ∀ c, n0 * Gx c + n1 * Gy c = g c := ⟨_, fun _ => rfl⟩
      have hGF : ∀ c, co (bdL F (rawsK K)) c = G1 c := fun c => by rw [hFe, bd_lin, hGx, hGy, hG1]
      obtain ⟨Hx, hHx⟩ : ∃ g : Int → Int, ∀ c, co (cbL (co (prs (ctm L1))) (rawsK K)) c = g c := ⟨_, fun _ => rfl⟩
      obtain ⟨Hy, hHy⟩ : ∃ g : Int → Int, ∀ c, co (cbL (co (prs (ctm L2))) (rawsK K)) c = g c := ⟨_, fun _ => rfl⟩
      obtain ⟨H1, hH1⟩ : ∃ g : Int → Int, ∀ c, n0 * Hx c + n1 * Hy c = g c := ⟨_, fun _ => rfl⟩
      have hHF : ∀ c, co (cbL F (rawsK K)) c = H1 c := fun c => by rw [hFe, cb_lin, hHx, hHy, hH1]
      have HH := Lib.hid (And.intro hk0 (And.intro hbv (And.intro hvs (And.intro hv9 (And.intro hv10 (And.intro hbx' (And.intro hcx' (And.intro hdx' (And.intro hZ (And.intro hGx (And.intro hGy (And.intro hG1 (And.intro hGF (And.intro hHx (And.intro hHy (And.intro hH1 (And.intro hHF (And.intro hB0 (And.intro hR hN1)))))))))))))))))))
      clear hk0 hbv hvs hv9 hv10 hbx' hcx' hdx' hZ hGx hGy hG1 hGF hHx hHy hH1 hHF hB0 hR hN1 hFe hZe hKe hcx0 hbv0 hzw hBw hB04 hb7 hb47 hs hb6 hbl hcl hB6 s1 s2 hF hdl hp1 hp2
      go_wp2_with fail
      rename_i KK hKK
      obtain ⟨hk0, hbv, hvs, hv9, hv10, hbx', hcx', hdx', hZ, hGx, hGy, hG1, hGF, hHx, hHy, hH1, hHF, hB0, hR, hN1⟩ := HH.out
      refine region_facts rfl (fun i v w => (([.tt, .tt, .cx K, .val vs, .cf G1 720 900, .val (.func (.func 44) #[] #[.pointer (some ⟨b, 0, none⟩), .pointer (some ⟨c, 0, none⟩)]), .cx K, .val v9, .cf Gx 720 800, .cx K, .val v10, .cf Gy 720 800, .cf G1 1440 2300, .tt, .tt, .tt, .cx K, .val vs, .cf H1 720 900, .val (.func (.func 44) #[] #[.pointer (some ⟨b, 0, none⟩), .pointer (some ⟨c, 0, none⟩)]), .cx K, .val v9, .cf Hx 720 800, .cx K, .val v10, .cf Hy 720 800, .cf H1 1440 2300, .tt, .tt, .tt, .val vs, .val v10, .val (wv Z), .val (wv Z), .tt, .tt, .tt] : List Fk).getD i .any).holds v w) 83 rfl (by kernel_rfl) (by kernel_rfl) ?hF ?step ?done
      case hF => exact fun i v w w' h hb => Fk.keep h hb
      case step =>
        intro i o ho a w' hw hd hbase hsz
        have ht9 : (v9 : Value) = v9 := rfl
        have ht10 : (v10 : Value) = v10 := rfl
        have ht14 : (vs : Value) = vs := rfl
        have ht13 : (.func (.func 44) #[] #[.pointer (some ⟨b, 0, none⟩), .pointer (some ⟨c, 0, none⟩)] : Value) = .func (.func 44) #[] #[.pointer (some ⟨b, 0, none⟩), .pointer (some ⟨c, 0, none⟩)] := rfl
        have ht7 : (.bool true : Value) = .bool true := rfl
        have hp8 : (.pointer (some ⟨w2.heap.size, 0, none⟩) : Value) = .pointer (some ⟨w2.heap.size, 0, none⟩) := rfl
        have hp15 : (.pointer (some ⟨d, 0, none⟩) : Value) = .pointer (some ⟨d, 0, none⟩) := rfl
        match i, ho, hd with
        | 0, ho, hd =>
          obtain rfl := Option.some.inj ho
          exact ⟨rfl, stp_move _ (.inl rfl) ((hbase 7 (noDst_spec (by kernel_rfl))).trans ht7)⟩
        | 1, ho, hd =>
          obtain rfl := Option.some.inj ho
          have f0 : (Fk.tt).holds (a.tmps.getD 47 undef) w' := hd 0 _ _ rfl rfl (by kernel_rfl)
          exact ⟨rfl, stp_move _ (.inl rfl) f0⟩
        | 2, ho, hd =>
          obtain rfl := Option.some.inj ho
          have fg : (Fk.tt).holds (a.tmps.getD 48 undef) w' := hd 1 _ _ rfl rfl (by kernel_rfl)
          exact ⟨wanted_tt 1 48 rfl rfl (by rw [hsz]; decide) fg, stp_load _ _ rfl _ ((hbase 8 (noDst_spec (by kernel_rfl))).trans hp8) _ (ldK (hbv.keep hw)) (Fk.keep (k := .cx K) hk0 hw)⟩
        | 3, ho, hd =>
          obtain rfl := Option.some.inj ho
          have fg : (Fk.tt).holds (a.tmps.getD 48 undef) w' := hd 1 _ _ rfl rfl (by kernel_rfl)
          exact ⟨wanted_tt 1 48 rfl rfl (by rw [hsz]; decide) fg, stp_move _ (.inl rfl) ((hbase 14 (noDst_spec (by kernel_rfl))).trans ht14)⟩
        | 4, ho, hd =>
          obtain rfl := Option.some.inj ho
          have f0 : (Fk.cx K).holds (a.tmps.getD 49 undef) w' := hd 2 _ _ rfl rfl (by kernel_rfl)
          have f1 : (Fk.val vs).holds (a.tmps.getD 50 undef) w' := hd 3 _ _ rfl rfl (by kernel_rfl)
          have fg : (Fk.tt).holds (a.tmps.getD 48 undef) w' := hd 1 _ _ rfl rfl (by kernel_rfl)
          exact ⟨wanted_tt 1 48 rfl rfl (by rw [hsz]; decide) fg, stp_call _ _ _ rfl ef_chains_Boundary #[a.tmps.getD 49 undef, vs] (by simp [Act.eval, show a.tmps.getD 50 undef = vs from f1]) (cfBd _ _ K F G1 60 77 720 900 _ f0 (hvs _ hw) hK hR (by omega) (by omega) hGF)⟩
        | 5, ho, hd =>
          obtain rfl := Option.some.inj ho
          have fg : (Fk.tt).holds (a.tmps.getD 48 undef) w' := hd 1 _ _ rfl rfl (by kernel_rfl)
          exact ⟨wanted_tt 1 48 rfl rfl (by rw [hsz]; decide) fg, stp_move _ (.inl rfl) ((hbase 13 (noDst_spec (by kernel_rfl))).trans ht13)⟩
        | 6, ho, hd =>
          obtain rfl := Option.some.inj ho
          have fg : (Fk.tt).holds (a.tmps.getD 48 undef) w' := hd 1 _ _ rfl rfl (by kernel_rfl)
          exact ⟨wanted_tt 1 48 rfl rfl (by rw [hsz]; decide) fg, stp_load _ _ rfl _ ((hbase 8 (noDst_spec (by kernel_rfl))).trans hp8) _ (ldK (hbv.keep hw)) (Fk.keep (k := .cx K) hk0 hw)⟩
        | 7, ho, hd =>
          obtain rfl := Option.some.inj ho
          have fg : (Fk.tt).holds (a.tmps.getD 48 undef) w' := hd 1 _ _ rfl rfl (by kernel_rfl)
          exact ⟨wanted_tt 1 48 rfl rfl (by rw [hsz]; decide) fg, stp_move _ (.inl rfl) ((hbase 9 (noDst_spec (by kernel_rfl))).trans ht9)⟩
        | 8, ho, hd =>
          obtain rfl := Option.some.inj ho
          have f0 : (Fk.cx K).holds (a.tmps.getD 53 undef) w' := hd 6 _ _ rfl rfl (by kernel_rfl)
          have f1 : (Fk.val v9).holds (a.tmps.getD 54 undef) w' := hd 7 _ _ rfl rfl (by kernel_rfl)
          have fg : (Fk.tt).holds (a.tmps.getD 48 undef) w' := hd 1 _ _ rfl rfl (by kernel_rfl)
          exact ⟨wanted_tt 1 48 rfl rfl (by rw [hsz]; decide) fg, stp_call _ _ _ rfl ef_chains_Boundary #[a.tmps.getD 53 undef, v9] (by simp [Act.eval, show a.tmps.getD 54 undef = v9 from f1]) (tBd _ _ K (ctm L1) Gx N1 8 720 800 _ f0 (hv9 _ hw) hK q1.tok hN1 hR (by omega) (by omega) hGx)⟩
        | 9, ho, hd =>
          obtain rfl := Option.some.inj ho
          have fg : (Fk.tt).holds (a.tmps.getD 48 undef) w' := hd 1 _ _ rfl rfl (by kernel_rfl)
          exact ⟨wanted_tt 1 48 rfl rfl (by rw [hsz]; decide) fg, stp_load _ _ rfl _ ((hbase 8 (noDst_spec (by kernel_rfl))).trans hp8) _ (ldK (hbv.keep hw)) (Fk.keep (k := .cx K) hk0 hw)⟩
        | 10, ho, hd =>
          obtain rfl := Option.some.inj ho
          have fg : (Fk.tt).holds (a.tmps.getD 48 undef) w' := hd 1 _ _ rfl rfl (by kernel_rfl)
          exact ⟨wanted_tt 1 48 rfl rfl (by rw [hsz]; decide) fg, stp_move _ (.inl rfl) ((hbase 10 (noDst_spec (by kernel_rfl))).trans ht10)⟩
        | 11, ho, hd =>
          obtain rfl := Option.some.inj ho
          have f0 : (Fk.cx K).holds (a.tmps.getD 56 undef) w' := hd 9 _ _ rfl rfl (by kernel_rfl)
          have f1 : (Fk.val v10).holds (a.tmps.getD 57 undef) w' := hd 10 _ _ rfl rfl (by kernel_rfl)
          have fg : (Fk.tt).holds (a.tmps.getD 48 undef) w' := hd 1 _ _ rfl rfl (by kernel_rfl)
          exact ⟨wanted_tt 1 48 rfl rfl (by rw [hsz]; decide) fg, stp_call _ _ _ rfl ef_chains_Boundary #[a.tmps.getD 56 undef, v10] (by simp [Act.eval, show a.tmps.getD 57 undef = v10 from f1]) (tBd _ _ K (ctm L2) Gy N2 8 720 800 _ f0 (hv10 _ hw) hK q2.tok hN2 hR (by omega) (by omega) hGy)⟩
        | 12, ho, hd =>
          obtain rfl := Option.some.inj ho
          have f0 : (Fk.cf Gx 720 800).holds (a.tmps.getD 55 undef) w' := hd 8 _ _ rfl rfl (by kernel_rfl)
          have f1 : (Fk.cf Gy 720 800).holds (a.tmps.getD 58 undef) w' := hd 11 _ _ rfl rfl (by kernel_rfl)
          have f2 : (Fk.val (.func (.func 44) #[] #[.pointer (some ⟨b, 0, none⟩), .pointer (some ⟨c, 0, none⟩)])).holds (a.tmps.getD 52 undef) w' := hd 5 _ _ rfl rfl (by kernel_rfl)
          have fg : (Fk.tt).holds (a.tmps.getD 48 undef) w' := hd 1 _ _ rfl rfl (by kernel_rfl)
          exact ⟨wanted_tt 1 48 rfl rfl (by rw [hsz]; decide) fg, stp_callv _ 44 #[.pointer (some ⟨b, 0, none⟩), .pointer (some ⟨c, 0, none⟩)] _ _ rfl ef_linear1 f2 #[a.tmps.getD 55 undef, a.tmps.getD 58 undef] (by simp [Act.eval]) (bothF _ _ Gx Gy G1 720 800 1440 2300 b c n0 n1 _ f0 f1 (hbx' _ hw) (hcx' _ hw) hn0 hn1 (by omega) (by omega) (by omega) hG1)⟩
        | 13, ho, hd =>
          obtain rfl := Option.some.inj ho
          have f0 : (Fk.cf G1 720 900).holds (a.tmps.getD 51 undef) w' := hd 4 _ _ rfl rfl (by kernel_rfl)
          have f1 : (Fk.cf G1 1440 2300).holds (a.tmps.getD 59 undef) w' := hd 12 _ _ rfl rfl (by kernel_rfl)
          have fg : (Fk.tt).holds (a.tmps.getD 48 undef) w' := hd 1 _ _ rfl rfl (by kernel_rfl)
          exact ⟨wanted_tt 1 48 rfl rfl (by rw [hsz]; decide) fg, stp_call _ _ _ rfl ef_chains_Equal #[a.tmps.getD 51 undef, a.tmps.getD 59 undef] (by simp [Act.eval]) (cfEqual _ _ G1 _ _ _ _ _ f0 f1 (by omega))⟩
        | 14, ho, hd =>
          obtain rfl := Option.some.inj ho
          have f0 : (Fk.tt).holds (a.tmps.getD 48 undef) w' := hd 1 _ _ rfl rfl (by kernel_rfl)
          have f1 : (Fk.tt).holds (a.tmps.getD 60 undef) w' := hd 13 _ _ rfl rfl (by kernel_rfl)
          exact ⟨rfl, stp_pick _ _ _ rfl f0 f1⟩
        | 15, ho, hd =>
          obtain rfl := Option.some.inj ho
          have f0 : (Fk.tt).holds (a.tmps.getD 61 undef) w' := hd 14 _ _ rfl rfl (by kernel_rfl)
          exact ⟨rfl, stp_move _ (.inl rfl) f0⟩
        | 16, ho, hd =>
          obtain rfl := Option.some.inj ho
          have fg : (Fk.tt).holds (a.tmps.getD 62 undef) w' := hd 15 _ _ rfl rfl (by kernel_rfl)
          exact ⟨wanted_tt 15 62 rfl rfl (by rw [hsz]; decide) fg, stp_load _ _ rfl _ ((hbase 8 (noDst_spec (by kernel_rfl))).trans hp8) _ (ldK (hbv.keep hw)) (Fk.keep (k := .cx K) hk0 hw)⟩
        | 17, ho, hd =>
          obtain rfl := Option.some.inj ho
          have fg : (Fk.tt).holds (a.tmps.getD 62 undef) w' := hd 15 _ _ rfl rfl (by kernel_rfl)
          exact ⟨wanted_tt 15 62 rfl rfl (by rw [hsz]; decide) fg, stp_move _ (.inl rfl) ((hbase 14 (noDst_spec (by kernel_rfl))).trans ht14)⟩
        | 18, ho, hd =>
          obtain rfl := Option.some.inj ho
          have f0 : (Fk.cx K).holds (a.tmps.getD 63 undef) w' := hd 16 _ _ rfl rfl (by kernel_rfl)
          have f1 : (Fk.val vs).holds (a.tmps.getD 64 undef) w' := hd 17 _ _ rfl rfl (by kernel_rfl)
          have fg : (Fk.tt).holds (a.tmps.getD 62 undef) w' := hd 15 _ _ rfl rfl (by kernel_rfl)
          exact ⟨wanted_tt 15 62 rfl rfl (by rw [hsz]; decide) fg, stp_call _ _ _ rfl ef_chains_Coboundary #[a.tmps.getD 63 undef, vs] (by simp [Act.eval, show a.tmps.getD 64 undef = vs from f1]) (cfCb _ _ K F H1 60 77 720 900 _ f0 (hvs _ hw) hK hR (by omega) (by omega) hHF)⟩
        | 19, ho, hd =>
          obtain rfl := Option.some.inj ho
          have fg : (Fk.tt).holds (a.tmps.getD 62 undef) w' := hd 15 _ _ rfl rfl (by kernel_rfl)
          exact ⟨wanted_tt 15 62 rfl rfl (by rw [hsz]; decide) fg, stp_move _ (.inl rfl) ((hbase 13 (noDst_spec (by kernel_rfl))).trans ht13)⟩
        | 20, ho, hd =>
          obtain rfl := Option.some.inj ho
          have fg : (Fk.tt).holds (a.tmps.getD 62 undef) w' := hd 15 _ _ rfl rfl (by kernel_rfl)
          exact ⟨wanted_tt 15 62 rfl rfl (by rw [hsz]; decide) fg, stp_load _ _ rfl _ ((hbase 8 (noDst_spec (by kernel_rfl))).trans hp8) _ (ldK (hbv.keep hw)) (Fk.keep (k := .cx K) hk0 hw)⟩
        | 21, ho, hd =>
          obtain rfl := Option.some.inj ho
          have fg : (Fk.tt).holds (a.tmps.getD 62 undef) w' := hd 15 _ _ rfl rfl (by kernel_rfl)
          exact ⟨wanted_tt 15 62 rfl rfl (by rw [hsz]; decide) fg, stp_move _ (.inl rfl) ((hbase 9 (noDst_spec (by kernel_rfl))).trans ht9)⟩
        | 22, ho, hd =>
          obtain rfl := Option.some.inj ho
          have f0 : (Fk.cx K).holds (a.tmps.getD 67 undef) w' := hd 20 _ _ rfl rfl (by kernel_rfl)
          have f1 : (Fk.val v9).holds (a.tmps.getD 68 undef) w' := hd 21 _ _ rfl rfl (by kernel_rfl)
          have fg : (Fk.tt).holds (a.tmps.getD 62 undef) w' := hd 15 _ _ rfl rfl (by kernel_rfl)
          exact ⟨wanted_tt 15 62 rfl rfl (by rw [hsz]; decide) fg, stp_call _ _ _ rfl ef_chains_Coboundary #[a.tmps.getD 67 undef, v9] (by simp [Act.eval, show a.tmps.getD 68 undef = v9 from f1]) (tCb _ _ K (ctm L1) Hx N1 8 720 800 _ f0 (hv9 _ hw) hK q1.tok hN1 hR (by omega) (by omega) hHx)⟩
        | 23, ho, hd =>
          obtain rfl := Option.some.inj ho
          have fg : (Fk.tt).holds (a.tmps.getD 62 undef) w' := hd 15 _ _ rfl rfl (by kernel_rfl)
          exact ⟨wanted_tt 15 62 rfl rfl (by rw [hsz]; decide) fg, stp_load _ _ rfl _ ((hbase 8 (noDst_spec (by kernel_rfl))).trans hp8) _ (ldK (hbv.keep hw)) (Fk.keep (k := .cx K) hk0 hw)⟩
        | 24, ho, hd =>
          obtain rfl := Option.some.inj ho
          have fg : (Fk.tt).holds (a.tmps.getD 62 undef) w' := hd 15 _ _ rfl rfl (by kernel_rfl)
          exact ⟨wanted_tt 15 62 rfl rfl (by rw [hsz]; decide) fg, stp_move _ (.inl rfl) ((hbase 10 (noDst_spec (by kernel_rfl))).trans ht10)⟩
        | 25, ho, hd =>
          obtain rfl := Option.some.inj ho
          have f0 : (Fk.cx K).holds (a.tmps.getD 70 undef) w' := hd 23 _ _ rfl rfl (by kernel_rfl)
          have f1 : (Fk.val v10).holds (a.tmps.getD 71 undef) w' := hd 24 _ _ rfl rfl (by kernel_rfl)
          have fg : (Fk.tt).holds (a.tmps.getD 62 undef) w' := hd 15 _ _ rfl rfl (by kernel_rfl)
          exact ⟨wanted_tt 15 62 rfl rfl (by rw [hsz]; decide) fg, stp_call _ _ _ rfl ef_chains_Coboundary #[a.tmps.getD 70 undef, v10] (by simp [Act.eval, show a.tmps.getD 71 undef = v10 from f1]) (tCb _ _ K (ctm L2) Hy N2 8 720 800 _ f0 (hv10 _ hw) hK q2.tok hN2 hR (by omega) (by omega) hHy)⟩
        | 26, ho, hd =>
          obtain rfl := Option.some.inj ho
          have f0 : (Fk.cf Hx 720 800).holds (a.tmps.getD 69 undef) w' := hd 22 _ _ rfl rfl (by kernel_rfl)
          have f1 : (Fk.cf Hy 720 800).holds (a.tmps.getD 72 undef) w' := hd 25 _ _ rfl rfl (by kernel_rfl)
          have f2 : (Fk.val (.func (.func 44) #[] #[.pointer (some ⟨b, 0, none⟩), .pointer (some ⟨c, 0, none⟩)])).holds (a.tmps.getD 66 undef) w' := hd 19 _ _ rfl rfl (by kernel_rfl)
          have fg : (Fk.tt).holds (a.tmps.getD 62 undef) w' := hd 15 _ _ rfl rfl (by kernel_rfl)
          exact ⟨wanted_tt 15 62 rfl rfl (by rw [hsz]; decide) fg, stp_callv _ 44 #[.pointer (some ⟨b, 0, none⟩), .pointer (some ⟨c, 0, none⟩)] _ _ rfl ef_linear1 f2 #[a.tmps.getD 69 undef, a.tmps.getD 72 undef] (by simp [Act.eval]) (bothF _ _ Hx Hy H1 720 800 1440 2300 b c n0 n1 _ f0 f1 (hbx' _ hw) (hcx' _ hw) hn0 hn1 (by omega) (by omega) (by omega) hH1)⟩
        | 27, ho, hd =>
          obtain rfl := Option.some.inj ho
          have f0 : (Fk.cf H1 720 900).holds (a.tmps.getD 65 undef) w' := hd 18 _ _ rfl rfl (by kernel_rfl)
          have f1 : (Fk.cf H1 1440 2300).holds (a.tmps.getD 73 undef) w' := hd 26 _ _ rfl rfl (by kernel_rfl)
          have fg : (Fk.tt).holds (a.tmps.getD 62 undef) w' := hd 15 _ _ rfl rfl (by kernel_rfl)
          exact ⟨wanted_tt 15 62 rfl rfl (by rw [hsz]; decide) fg, stp_call _ _ _ rfl ef_chains_Equal #[a.tmps.getD 65 undef, a.tmps.getD 73 undef] (by simp [Act.eval]) (cfEqual _ _ H1 _ _ _ _ _ f0 f1 (by omega))⟩
        | 28, ho, hd =>
          obtain rfl := Option.some.inj ho
          have f0 : (Fk.tt).holds (a.tmps.getD 62 undef) w' := hd 15 _ _ rfl rfl (by kernel_rfl)
          have f1 : (Fk.tt).holds (a.tmps.getD 74 undef) w' := hd 27 _ _ rfl rfl (by kernel_rfl)
          exact ⟨rfl, stp_pick _ _ _ rfl f0 f1⟩
        | 29, ho, hd =>
          obtain rfl := Option.some.inj ho
          have f0 : (Fk.tt).holds (a.tmps.getD 75 undef) w' := hd 28 _ _ rfl rfl (by kernel_rfl)
          exact ⟨rfl, stp_move _ (.inl rfl) f0⟩
        | 30, ho, hd =>
          obtain rfl := Option.some.inj ho
          have fg : (Fk.tt).holds (a.tmps.getD 76 undef) w' := hd 29 _ _ rfl rfl (by kernel_rfl)
          exact ⟨wanted_tt 29 76 rfl rfl (by rw [hsz]; decide) fg, stp_move _ (.inl rfl) ((hbase 14 (noDst_spec (by kernel_rfl))).trans ht14)⟩
        | 31, ho, hd =>
          obtain rfl := Option.some.inj ho
          have fg : (Fk.tt).holds (a.tmps.getD 76 undef) w' := hd 29 _ _ rfl rfl (by kernel_rfl)
          exact ⟨wanted_tt 29 76 rfl rfl (by rw [hsz]; decide) fg, stp_move _ (.inl rfl) ((hbase 10 (noDst_spec (by kernel_rfl))).trans ht10)⟩
        | 32, ho, hd =>
          obtain rfl := Option.some.inj ho
          have f0 : (Fk.val vs).holds (a.tmps.getD 77 undef) w' := hd 30 _ _ rfl rfl (by kernel_rfl)
          have f1 : (Fk.val v10).holds (a.tmps.getD 78 undef) w' := hd 31 _ _ rfl rfl (by kernel_rfl)
          have fg : (Fk.tt).holds (a.tmps.getD 76 undef) w' := hd 29 _ _ rfl rfl (by kernel_rfl)
          exact ⟨wanted_tt 29 76 rfl rfl (by rw [hsz]; decide) fg, stp_call _ _ _ rfl ef_chains_Pair #[vs, v10] (by simp [Act.eval, show a.tmps.getD 77 undef = vs from f0, show a.tmps.getD 78 undef = v10 from f1]) (cfPairR _ _ F 60 77 (ctm L2) Z _ (hvs _ hw) (hv10 _ hw) (q2.tok.mono (by omega)) (by omega) hZ)⟩
        | 33, ho, hd =>
          obtain rfl := Option.some.inj ho
          have fg : (Fk.tt).holds (a.tmps.getD 76 undef) w' := hd 29 _ _ rfl rfl (by kernel_rfl)
          exact ⟨wanted_tt 29 76 rfl rfl (by rw [hsz]; decide) fg, stp_load _ _ rfl _ ((hbase 15 (noDst_spec (by kernel_rfl))).trans hp15) _ (ldW (hdx' _ hw)) rfl⟩
        | 34, ho, hd =>
          obtain rfl := Option.some.inj ho
          have f0 : (Fk.val (wv Z)).holds (a.tmps.getD 79 undef) w' := hd 32 _ _ rfl rfl (by kernel_rfl)
          have f1 : (Fk.val (wv Z)).holds (a.tmps.getD 80 undef) w' := hd 33 _ _ rfl rfl (by kernel_rfl)
          have fg : (Fk.tt).holds (a.tmps.getD 76 undef) w' := hd 29 _ _ rfl rfl (by kernel_rfl)
          exact ⟨wanted_tt 29 76 rfl rfl (by rw [hsz]; decide) fg, stp_bin _ _ _ _ _ rfl _ _ f0 f1 _ (egX _ _ _ _) (eqX _ _) rfl⟩
        | 35, ho, hd =>
          obtain rfl := Option.some.inj ho
          have f0 : (Fk.tt).holds (a.tmps.getD 76 undef) w' := hd 29 _ _ rfl rfl (by kernel_rfl)
          have f1 : (Fk.tt).holds (a.tmps.getD 81 undef) w' := hd 34 _ _ rfl rfl (by kernel_rfl)
          exact ⟨rfl, stp_pick _ _ _ rfl f0 f1⟩
        | 36, ho, hd =>
          obtain rfl := Option.some.inj ho
          have f0 : (Fk.tt).holds (a.tmps.getD 82 undef) w' := hd 35 _ _ rfl rfl (by kernel_rfl)
          exact ⟨rfl, stp_move _ (.inr rfl) f0⟩
        | i + 37, ho, hd =>
          have : i + 37 < 37 := (Array.getElem?_eq_some_iff.1 ho).1
          omega
      case done =>
        intro a w5 hsz hdf hf hbase hw
        have ht : (Fk.tt).holds (a.tmps.getD 6 undef) w5 := hf 36 _ _ rfl rfl
        have hB := hB0.trans (hw.mono hB0.size)
        clear hbase hf
        refine hKK _ _ (wp_ret ?_)
        show bodyPost Tryz.prog Tryz.f9 (fun e w' => e = .returned (.bool true) ∧ Below w.heap.size w w') .ret a w5
        refine bodyPost_ret (v := .bool true) ?_ hdf ⟨rfl, hB⟩
        have ht' : a.tmps.getD 6 undef = .bool true := ht
        rw [Array.getD_eq_getD_getElem?] at ht'
        simp [results, Tryz.results9, go_sem, ht']

end Go.Proofs.YtfcmpolhcpbliaaGreatDoor
