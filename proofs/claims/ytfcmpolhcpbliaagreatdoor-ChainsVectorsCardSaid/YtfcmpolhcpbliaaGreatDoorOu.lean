/- A region that draws its order and ends in one operation behind all others (a store). No program. cocycleref02: Mul at one column, Apply. -/
import Derived.Test.YtfcmpolhcpbliaaGreatDoorOk
import Derived.Test.YtfcmpolhcpbliaaGreatDoorOt

namespace Go.Cx
open Go.RowKit
variable {P : Program} {ops : Array Oper} {Q : Exit → Act → World → Prop}

/-- k comes behind i. -/
def reach (ops : Array Oper) : Nat → Nat → Nat → Bool
  | 0, _, _ => false
  | f + 1, k, i => dep .any ops k i || (List.range ops.size).any fun j => dep .any ops k j && reach ops f j i
/-- Operation L comes behind all others. -/
def tailOk (ops : Array Oper) (L f : Nat) : Bool := (List.range ops.size).all fun i => i == L || reach ops f L i
theorem reach_listed {l : Nat → Bool} (hc : ∀ i, l i = true → ∀ j, dep .any ops i j = true → l j = true) : ∀ (f k i : Nat), reach ops f k i = true → l k = true → l i = true := by
  intro f
  induction f with
  | zero => intro k i h; cases h
  | succ f ih =>
    intro k i h hk
    unfold reach at h
    rw [Bool.or_eq_true] at h
    rcases h with h | h
    · exact hc k hk i h
    · obtain ⟨j, _, hj⟩ := List.any_eq_true.1 h
      rw [Bool.and_eq_true] at hj
      exact ih _ _ hj.2 (hc k hk _ hj.1)
/-- What holds when some have come up, but for the last. -/
structure StT (ops : Array Oper) (F : Nat → Value → Prop) (a0 : Act) (w0 : World) (l : Nat → Bool) (a : Act) (w : World) : Prop where
  sz : a.tmps.size = a0.tmps.size
  df : a.defers = a0.defers
  fact : ∀ (i : Nat) (o : Oper) (d : Nat), ops[i]? = some o → o.dst = some d → l i = true → F i (a.tmps.getD d undef)
  base : ∀ s, (∀ (i : Nat) (o : Oper), ops[i]? = some o → o.dst ≠ some s) → a.tmps.getD s undef = a0.tmps.getD s undef
  below : Below w0.heap.size w0 w

theorem region_tail {id : Nat} {a0 : Act} {w : World} (hm : P.follows .mixedOrders = true) (F : Nat → Value → Prop) (L f n : Nat) (hn : a0.tmps.size = n) (hd : ownDstO ops n = true) (hlx : lexOk .any ops = true) (hL : L < ops.size) (htl : tailOk ops L f = true) (hLd : (ops[L]?).bind (·.dst) = none)
    (Fin : Act → World → Prop)
    (hstep : ∀ (i : Nat) (o : Oper), ops[i]? = some o → i ≠ L → ∀ (a : Act) (w' : World), Below w.heap.size w w' → (∀ (j : Nat) (oj : Oper) (dj : Nat), ops[j]? = some oj → oj.dst = some dj → dep .any ops i j = true → F j (a.tmps.getD dj undef)) →
      (∀ s, (∀ (i : Nat) (o : Oper), ops[i]? = some o → o.dst ≠ some s) → a.tmps.getD s undef = a0.tmps.getD s undef) → a.tmps.size = n →
      Region.wanted o (yielded ops a.tmps) = true ∧ o.dst ≠ none ∧ Oper.wp P o a w' (fun a' w'' => ∃ v, a' = a.put o.dst v ∧ F i v ∧ Below w'.heap.size w' w'') Q)
    (hstore : ∀ (o : Oper), ops[L]? = some o → ∀ (a : Act) (w' : World), a.tmps.size = n → a.defers = a0.defers → Below w.heap.size w w' → (∀ (j : Nat) (oj : Oper) (dj : Nat), ops[j]? = some oj → oj.dst = some dj → F j (a.tmps.getD dj undef)) →
      (∀ s, (∀ (i : Nat) (o : Oper), ops[i]? = some o → o.dst ≠ some s) → a.tmps.getD s undef = a0.tmps.getD s undef) →
      Region.wanted o (yielded ops a.tmps) = true ∧ Oper.wp P o a w' (fun a' w'' => Fin a' w'') Q)
    (hdone : ∀ (a : Act) (w' : World), Fin a w' → Q .normal a w') :
    (Code.region id ops true).wp P Q a0 w := by
  have hsp := ownDstO_spec hd
  have hreach : ∀ i, i < ops.size → i ≠ L → reach ops f L i = true := fun i hi hne => by
    have := List.all_eq_true.1 htl i (List.mem_range.2 hi)
    rw [Bool.or_eq_true, beq_iff_eq] at this
    exact this.resolve_left hne
  refine region_inv hm hlx (fun l a w' => (∀ i, l i = true → ∀ j, dep .any ops i j = true → l j = true) ∧ (l L = false → StT ops F a0 w l a w') ∧ (l L = true → Fin a w')) ?_ ?_ ?_
  · exact ⟨fun i h => absurd h Bool.false_ne_true, fun _ => ⟨rfl, rfl, fun _ _ _ _ _ h => absurd h Bool.false_ne_true, fun _ _ => rfl, below_draws (Below.refl _ w) 1⟩, fun h => absurd h Bool.false_ne_true⟩
  · intro i o ho l a w' hli hdep ⟨hc, h1, h2⟩
    have hil := (Array.getElem?_eq_some_iff.1 ho).1
    have hcl : ∀ j, (fun j => j == i || l j) j = true → ∀ k, dep .any ops j k = true → (fun j => j == i || l j) k = true := fun j hj k hk => by
      simp only [Bool.or_eq_true, beq_iff_eq] at hj ⊢
      rcases hj with rfl | hj
      · exact .inr (hdep k hk)
      · exact .inr (hc j hj k hk)
    by_cases hiL : i = L
    · subst hiL
      have hst := h1 hli
      have hall : ∀ j, j < ops.size → j ≠ i → l j = true := fun j hj hne => by
        have hr := hreach j hj hne
        cases f with
        | zero => cases hr
        | succ f =>
          unfold reach at hr
          rw [Bool.or_eq_true] at hr
          rcases hr with hr | hr
          · exact hdep j hr
          · obtain ⟨k, _, hk⟩ := List.any_eq_true.1 hr
            rw [Bool.and_eq_true] at hk
            exact reach_listed hc f k j hk.2 (hdep k hk.1)
      obtain ⟨hw, hwp⟩ := hstore o ho a w' (hst.sz.trans hn) hst.df hst.below (fun j oj dj hj hdj => hst.fact j oj dj hj hdj (hall j (Array.getElem?_eq_some_iff.1 hj).1 (fun e => by
        subst e
        rw [hj, Option.bind_some, hdj] at hLd; cases hLd))) hst.base
      exact ⟨hw, Oper.wp_mono (fun a' w'' hx => ⟨hcl, fun h => by simp at h, fun _ => hx⟩) hwp⟩
    · have hlL : l L = false := by
        cases hc' : l L with
        | false => rfl
        | true =>
          have := reach_listed hc f L i (hreach i hil hiL) hc'
          rw [hli] at this; cases this
      have hst := h1 hlL
      obtain ⟨hw, hdn, hwp⟩ := hstep i o ho hiL a w' hst.below (fun j oj dj hj hdj hdp => hst.fact j oj dj hj hdj (hdep j hdp)) hst.base (hst.sz.trans hn)
      refine ⟨hw, Oper.wp_mono (fun a' w'' hx => ?_) hwp⟩
      obtain ⟨v, rfl, hv, hgr⟩ := hx
      obtain ⟨d, hdo⟩ := Option.ne_none_iff_exists'.1 hdn
      obtain ⟨hd2, hd3⟩ := hsp i o d ho hdo
      have hLi : (L == i) = false := by simpa using fun e : L = i => hiL e.symm
      refine ⟨hcl, fun _ => ?_, fun h => by simp only [hLi, Bool.false_or] at h; rw [hlL] at h; cases h⟩
      rw [hdo]
      refine ⟨by show (a.tmps.setIfInBounds d v).size = _; simpa using hst.sz, hst.df, fun j oj dj hj hdj hlj => ?_, fun s hs => ?_, hst.below.trans (hgr.mono hst.below.size)⟩
      · rw [put_getD]
        by_cases hji : j = i
        · subst hji
          rw [ho] at hj; injection hj with hj; subst hj
          rw [hdo] at hdj; injection hdj with hdj; subst hdj
          rw [if_pos ⟨rfl, by rw [hst.sz, hn]; exact hd2⟩]; exact hv
        · rw [if_neg (fun e => hd3 j oj hj hji (by rw [hdj, e.1]))]
          have : (j == i) = false := by simpa using hji
          simp only [this, Bool.false_or] at hlj
          exact hst.fact j oj dj hj hdj hlj
      · rw [put_getD, if_neg (fun e => hs i o ho (by rw [hdo, e.1]))]; exact hst.base s hs
  · intro l a w' hall ⟨_, _, h2⟩
    exact hdone a w' (h2 (hall L hL))

theorem do_field {o : Oper} {a : Act} {w : World} {K : Act → World → Prop} (t : Nat) (x : Operand) (i : Nat) (hop : o.op = .fieldAddr t x i) (v1 : Value) (h1 : a.eval x = v1) (v : Value) (hrun : (Instr.fieldAt t v1 i).run P w = .ok v w) (h : K (a.put o.dst v) w) : Oper.wp P o a w K Q := by
  subst h1
  unfold Oper.wp
  simp [execOp, hop, hrun, Result.andThen]
  exact h
theorem do_store {o : Oper} {a : Act} {w w' : World} {K : Act → World → Prop} (t : Nat) (x y : Operand) (hop : o.op = .store t x y) (v1 v2 : Value) (h1 : a.eval x = v1) (h2 : a.eval y = v2) (hrun : (Instr.storeAt t v1 v2).run P w = .ok () w') (h : K (a.put o.dst undef) w') : Oper.wp P o a w K Q := by
  subst h1 h2
  unfold Oper.wp
  simp [execOp, hop, hrun, Result.andThen]
  exact h
end Go.Cx

namespace Go.Proofs.YtfcmpolhcpbliaaGreatDoor
open Go.RowKit Go.Cx
attribute [local go_sem ↓] Go.wp_at_zero Go.wp_at_succ

theorem Kp.trans {E : Nat} {a b c : World} (h : Kp E a b) (k : Kp E b c) : Kp E a c where
  size := Nat.le_trans h.size k.size
  cell p u hp hu := k.cell p u hp (h.cell p u hp hu)
  froz p hp hl hf := k.froz p hp (Nat.lt_of_lt_of_le hl h.size) (h.froz p hp hl hf)
/-- The sum of the first k products of row i. -/
def dotp (A X : List Int) (c i : Nat) : Nat → Int
  | 0 => 0
  | k + 1 => dotp A X c i k + A.getD (i * c + k) 0 * X.getD k 0
theorem dotp_nb (A X : List Int) (c i : Nat) (hA : ∀ x ∈ A, nb x ≤ 8) (hX : ∀ x ∈ X, nb x ≤ 8) : ∀ k, nb (dotp A X c i k) ≤ 16 + k := by
  have hg : ∀ (l : List Int), (∀ x ∈ l, nb x ≤ 8) → ∀ j, nb (l.getD j 0) ≤ 8 := fun l h j => by
    rw [List.getD_eq_getElem?_getD]
    cases hj : l[j]? with
    | none => show nb 0 ≤ 8; rw [nb_zero]; omega
    | some x => exact h x (List.mem_of_getElem? hj)
  intro k
  induction k with
  | zero => show nb 0 ≤ _; rw [nb_zero]; omega
  | succ k ih =>
    have h1 := nb_add (dotp A X c i k) (A.getD (i * c + k) 0 * X.getD k 0)
    have h2 := nb_mul (A.getD (i * c + k) 0) (X.getD k 0)
    have h3 := hg A hA (i * c + k)
    have h4 := hg X hX k
    show nb (dotp A X c i k + _) ≤ _
    omega

/-- Element i of the row of Wides at block E. -/
def Bx' (w : World) (E i : Nat) (x : Int) : Prop := w.cell? ⟨E, i * 2, none⟩ = some (.bool (decide (x < 0))) ∧ w.cell? ⟨E, i * 2 + 1, none⟩ = some (.string (mg x)) ∧ w.frozen? ⟨E, i * 2, none⟩ = false ∧ w.frozen? ⟨E, i * 2 + 1, none⟩ = false
theorem wp_open {P : Program} {s : Code} {Q : Exit → Act → World → Prop} {a : Act} {w : World} (h : ∀ K : Act → World → Prop, (∀ a' w', Q .normal a' w' → K a' w') → s.wp P (Exit.then K Q) a w) : s.wp P Q a w :=
  wp_mono (h (fun a w => Q .normal a w) fun _ _ h => h) (by intro e a' w' hq; cases e <;> exact hq)
theorem ldW2 {w : World} {b : Nat} {x : Int} (h0 : w.cell? ⟨b, 0, none⟩ = some (.bool (decide (x < 0)))) (h1 : w.cell? ⟨b, 1, none⟩ = some (.string (mg x))) : (Instr.loadAt 46 (.pointer (some ⟨b, 0, none⟩))).run Tryz.prog w = .ok (wv x) w := by
  show _ = Result.ok (Value.agg #[.bool (decide (x < 0)), .string (mg x)]) w
  simp [go_sem, h0, h1]
theorem run_fieldM (w : World) (b : Nat) : (Instr.fieldAt 56 (.pointer (some ⟨b, 0, none⟩)) 2).run Tryz.prog w = .ok (.pointer (some ⟨b, 2, none⟩)) w := by simp [go_sem]
theorem run_ldSW (w : World) (p : Addr) (a : Option Addr) (n c : Nat) (h : w.cell? p = some (.slice a n c)) : (Instr.loadAt 34 (.pointer (some p))).run Tryz.prog w = .ok (.slice a n c) w := by simp [go_sem, h]
theorem run_idxW (w : World) (E n c i : Nat) (hi : i < n) : (Instr.indexAt 34 (.slice (some ⟨E, 0, none⟩) n c) (.int .i64 i)).run Tryz.prog w = .ok (.pointer (some ⟨E, i * 2, none⟩)) w := by
  have h1 : (0 : Int) ≤ (i : Int) := by omega
  have h2 : (i : Int) < n := by omega
  simp [go_sem, h1, h2]
theorem run_ldWE (w : World) (E i : Nat) (x : Int) (h0 : w.cell? ⟨E, i * 2, none⟩ = some (.bool (decide (x < 0)))) (h1 : w.cell? ⟨E, i * 2 + 1, none⟩ = some (.string (mg x))) : (Instr.loadAt 46 (.pointer (some ⟨E, i * 2, none⟩))).run Tryz.prog w = .ok (wv x) w := by
  show _ = Result.ok (Value.agg #[.bool (decide (x < 0)), .string (mg x)]) w
  simp [go_sem, h0, h1]
theorem run_stWE (w : World) (E i : Nat) (x : Int) (u v : Value) (h0 : w.cell? ⟨E, i * 2, none⟩ = some u) (h1 : w.cell? ⟨E, i * 2 + 1, none⟩ = some v) (f0 : w.frozen? ⟨E, i * 2, none⟩ = false) (f1 : w.frozen? ⟨E, i * 2 + 1, none⟩ = false) : (Instr.storeAt 46 (.pointer (some ⟨E, i * 2, none⟩)) (wv x)).run Tryz.prog w = .ok () ((w.setCell ⟨E, i * 2, none⟩ (.bool (decide (x < 0)))).setCell ⟨E, i * 2 + 1, none⟩ (.string (mg x))) := by
  show (Instr.storeAt 46 (.pointer (some ⟨E, i * 2, none⟩)) (.agg #[.bool (decide (x < 0)), .string (mg x)])).run Tryz.prog w = _
  simp [go_sem, h0, h1, f0, f1]

set_option maxRecDepth 100000 in
set_option maxHeartbeats 8000000 in
theorem mMul1 (r c : Nat) (va vx : Value) (A X : List Int) (w : World) (h : Sl w 2 va (wvs A)) (k : Sl w 2 vx (wvs X)) (hA : A.length = r * c) (hX : X.length = c) (hr : r ≤ 200) (hc : c ≤ 200) (nA : ∀ x ∈ A, nb x ≤ 8) (nX : ∀ x ∈ X, nb x ≤ 8) :
    Calls Tryz.prog 66 #[.agg #[.int .i64 r, .int .i64 c, va], .agg #[.int .i64 c, .int .i64 1, vx]] w fun e w' => ∃ E : Nat, e = .returned (.tuple #[.agg #[.int .i64 r, .int .i64 1, .slice (some ⟨E, 0, none⟩) r r], .bool true]) ∧ w.heap.size ≤ E ∧ E < w'.heap.size ∧ EW w' E r (fun i => dotp A X c i c) ∧ Below w.heap.size w w' := by
  have hrc : r * c ≤ 40000 := Nat.le_trans (Nat.mul_le_mul hr hc) (by decide)
  obtain ⟨aa, an, ac, rfl⟩ := sl_shape h
  obtain ⟨xa, xn, xc, rfl⟩ := sl_shape k
  have han : an = A.length := by
    obtain ⟨_, _, h3, _⟩ := h.open
    rw [wvs_len] at h3; omega
  have hxn : xn = X.length := by
    obtain ⟨_, _, h3, _⟩ := k.open
    rw [wvs_len] at h3; omega
  rw [hX] at hxn
  rw [hA] at han
  have hxc : xn ≤ xc ∧ xc ≤ maxLen := by obtain ⟨g1, g2, _⟩ := k.open; exact ⟨g1, g2⟩
  have hac : an ≤ ac ∧ ac ≤ maxLen := by obtain ⟨g1, g2, _⟩ := h.open; exact ⟨g1, g2⟩
  unfold maxLen at hxc hac
  have hanb : an ≤ 40000 := by omega
  subst hxn
  have HH := Lib.hid (And.intro h (And.intro k (And.intro hA (And.intro hX (And.intro nA (And.intro nX han))))))
  clear h k hA hX nA nX han hrc
  go_enter Tryz.func66, Tryz.ntmps66
  go_wp2_with fail
  obtain ⟨W, hW⟩ : ∃ W : World, W = ((w.alloc (.cells #[.int .i64 r, .int .i64 xn, .slice aa an ac] 56)).alloc (.cells #[.int .i64 xn, .int .i64 1, .slice xa xn xc] 56)).alloc (.cells #[.int .i64 0, .int .i64 0, .slice none 0 0] 56) := ⟨_, rfl⟩
  rw [← hW]
  have hs1 : (w.alloc (.cells #[.int .i64 r, .int .i64 xn, .slice aa an ac] 56)).heap.size = w.heap.size + 1 := by simp
  have hs2 : ((w.alloc (.cells #[.int .i64 r, .int .i64 xn, .slice aa an ac] 56)).alloc (.cells #[.int .i64 xn, .int .i64 1, .slice xa xn xc] 56)).heap.size = w.heap.size + 2 := by simp
  have p : ∀ i, W.cell? ⟨w.heap.size, i, none⟩ = (#[.int .i64 r, .int .i64 xn, .slice aa an ac] : Array Value)[i]? := fun i => by
    have h0 := cell_new w #[.int .i64 r, .int .i64 xn, .slice aa an ac] 56 (0, 0) i
    rw [hW]
    have hb : Below (w.heap.size + 1) (w.alloc (.cells #[.int .i64 r, .int .i64 xn, .slice aa an ac] 56)) (((w.alloc (.cells #[.int .i64 r, .int .i64 xn, .slice aa an ac] 56)).alloc (.cells #[.int .i64 xn, .int .i64 1, .slice xa xn xc] 56)).alloc (.cells #[.int .i64 0, .int .i64 0, .slice none 0 0] 56)) := ((Below.refl _ _).alloc (by rw [hs1]; exact Nat.le_refl _) _).alloc (by rw [hs2]; omega) _
    rw [hb.cell (by show w.heap.size < _; omega)]
    exact h0
  have q : ∀ i, W.cell? ⟨w.heap.size + 1, i, none⟩ = (#[.int .i64 xn, .int .i64 1, .slice xa xn xc] : Array Value)[i]? := fun i => by
    have h0 := cell_new (w.alloc (.cells #[.int .i64 r, .int .i64 xn, .slice aa an ac] 56)) #[.int .i64 xn, .int .i64 1, .slice xa xn xc] 56 (0, 0) i
    rw [hs1] at h0
    rw [hW]
    have hb : Below (w.heap.size + 2) ((w.alloc (.cells #[.int .i64 r, .int .i64 xn, .slice aa an ac] 56)).alloc (.cells #[.int .i64 xn, .int .i64 1, .slice xa xn xc] 56)) (((w.alloc (.cells #[.int .i64 r, .int .i64 xn, .slice aa an ac] 56)).alloc (.cells #[.int .i64 xn, .int .i64 1, .slice xa xn xc] 56)).alloc (.cells #[.int .i64 0, .int .i64 0, .slice none 0 0] 56)) := (Below.refl _ _).alloc (by rw [hs2]; exact Nat.le_refl _) _
    rw [hb.cell (by show w.heap.size + 1 < _; omega)]
    exact h0
  have s : ∀ i, W.cell? ⟨w.heap.size + 2, i, none⟩ = (#[.int .i64 0, .int .i64 0, .slice none 0 0] : Array Value)[i]? := fun i => by
    have h0 := cell_new ((w.alloc (.cells #[.int .i64 r, .int .i64 xn, .slice aa an ac] 56)).alloc (.cells #[.int .i64 xn, .int .i64 1, .slice xa xn xc] 56)) #[.int .i64 0, .int .i64 0, .slice none 0 0] 56 (0, 0) i
    rw [hs2] at h0
    rw [hW]; exact h0
  have z : ∀ i, W.frozen? ⟨w.heap.size + 2, i, none⟩ = false := fun i => by
    have h0 := heap_alloc_new ((w.alloc (.cells #[.int .i64 r, .int .i64 xn, .slice aa an ac] 56)).alloc (.cells #[.int .i64 xn, .int .i64 1, .slice xa xn xc] 56)) (.cells #[.int .i64 0, .int .i64 0, .slice none 0 0] 56)
    rw [hs2] at h0
    rw [hW]; exact free_at h0 i
  have hw : Below w.heap.size w W := by rw [hW]; exact (((Below.refl _ _).alloc (Nat.le_refl _) _).alloc (by rw [hs1]; omega) _).alloc (by rw [hs2]; omega) _
  have hws : W.heap.size = w.heap.size + 3 := by rw [hW]; simp
  have p0 := p 0
  have p1 := p 1
  have p2 := p 2
  have q0 := q 0
  have q1 := q 1
  have q2 := q 2
  simp at p0 p1 p2 q0 q1 q2
  have HC := Lib.hid (And.intro p0 (And.intro p1 (And.intro p2 (And.intro q0 (And.intro q1 (And.intro q2 (And.intro s (And.intro z (And.intro hw hws)))))))))
  clear hW hs1 hs2 p q s z hw hws p0 p1 p2
  refine (mRight r xn _ A _ (HH.out.1.keep HC.out.2.2.2.2.2.2.2.2.1) hr hc HH.out.2.2.1).mono ?_
  rintro e w1 ⟨rfl, hb1⟩
  have HB1 := Lib.hid hb1
  replace q0 := Cx.keep hb1 q0
  replace q1 := Cx.keep hb1 q1
  replace q2 := Cx.keep hb1 q2
  clear hb1
  go_wp2_with fail
  refine (mRight xn 1 _ X _ ((HH.out.2.1.keep HC.out.2.2.2.2.2.2.2.2.1).keep HB1.out) hc (by decide) (by rw [HH.out.2.2.2.1, Nat.mul_one])).mono ?_
  rintro e w2 ⟨rfl, hb2⟩
  have HB2 := Lib.hid (HB1.out.trans (hb2.mono HB1.out.size))
  clear hb2 q0 q1 q2
  have p0 := Cx.keep HB2.out HC.out.1
  have p1 := Cx.keep HB2.out HC.out.2.1
  have q0 := Cx.keep HB2.out HC.out.2.2.2.1
  have q1 := Cx.keep HB2.out HC.out.2.2.2.2.1
  go_wp2_with fail
  refine (mZero r 1 _ hr (by decide)).mono ?_
  rintro e w3 ⟨E, rfl, hE1, hE2, hEW, hb3⟩
  rw [Nat.mul_one] at hEW ⊢
  have hB3 : Below W.heap.size W w3 := HB2.out.trans (hb3.mono HB2.out.size)
  have hEl : W.heap.size ≤ E := Nat.le_trans HB2.out.size hE1
  have hEw : w.heap.size + 3 ≤ E := by have := HC.out.2.2.2.2.2.2.2.2.2; omega
  have HZ := Lib.hid (And.intro hEW hB3)
  clear hEW hb3 hB3 p0 p1 q0 q1
  go_wp2_with fail
  obtain ⟨W5, hW5⟩ : ∃ x, x = w3.alloc (.cells #[.int .i64 r, .int .i64 1, .slice (some ⟨E, 0, none⟩) r r] 56) := ⟨_, rfl⟩
  rw [← hW5]
  have o0 : W5.cell? ⟨w3.heap.size, 0, none⟩ = some (.int .i64 r) := by rw [hW5]; exact cell_new w3 _ _ (0, 0) 0
  have o1 : W5.cell? ⟨w3.heap.size, 1, none⟩ = some (.int .i64 1) := by rw [hW5]; exact cell_new w3 _ _ (0, 0) 1
  have o2 : W5.cell? ⟨w3.heap.size, 2, none⟩ = some (.slice (some ⟨E, 0, none⟩) r r) := by rw [hW5]; exact cell_new w3 _ _ (0, 0) 2
  have hB35 : Below w3.heap.size w3 W5 := by rw [hW5]; exact (Below.refl _ _).alloc (Nat.le_refl _) _
  have hE5 : EW W5 E r (fun _ => 0) := HZ.out.1.keep hB35 hE2
  have hWW : Below W.heap.size W W5 := HZ.out.2.trans (hB35.mono HZ.out.2.size)
  have h35 : w3.heap.size < W5.heap.size := by rw [hW5]; simp
  have hEne : w3.heap.size ≠ E := by omega
  have hn0 : w.heap.size ≠ E := by omega
  have hn1 : w.heap.size + 1 ≠ E := by omega
  have hn2 : w.heap.size + 1 + 1 ≠ E := by omega
  have g0 := Cx.keep hWW HC.out.1
  have g1 := Cx.keep hWW HC.out.2.1
  have g2 := Cx.keep hWW HC.out.2.2.1
  have g3 := Cx.keep hWW HC.out.2.2.2.1
  have g4 := Cx.keep hWW HC.out.2.2.2.2.1
  have g5 := Cx.keep hWW HC.out.2.2.2.2.2.1
  have hwl := HC.out.2.2.2.2.2.2.2.2.2
  have hwB := HC.out.2.2.2.2.2.2.2.2.1
  have hwE : W5.heap.size > E := by omega
  have hE5' : E < W5.heap.size := by omega
  have HG := Lib.hid (And.intro g0 (And.intro g1 (And.intro g2 (And.intro g3 (And.intro g4 (And.intro g5 (And.intro o0 (And.intro o1 (And.intro o2 (And.intro hE5 (And.intro hWW hE5')))))))))))
  clear g0 g1 g2 g3 g4 g5 o0 o1 o2 hE5 hWW hB35 hW5 hwE hE5'
  go_loopw [9] (fun p wr => ∃ i : Nat, p = .int .i64 i ∧ i ≤ r ∧ Hid (EW wr E r (fun i' => if i' < i then dotp A X xn i' xn else 0)) ∧ Hid (Kp E W5 wr) ∧ Below W.heap.size W wr) (fun p _ => r - (vI p).toNat)
  case atStart => exact ⟨0, rfl, Nat.zero_le _, (show Hid _ from HG.out.2.2.2.2.2.2.2.2.2.1.congr fun i _ => by simp), (show Hid _ from Kp.refl _ _), HG.out.2.2.2.2.2.2.2.2.2.2.1⟩
  case round =>
    obtain ⟨i, rfl, hi, HE, HK, hB⟩ := hrel
    have p0 := HK.out.cell _ _ hn0 HG.out.1
    by_cases hir : i < r
    · have p1 := HK.out.cell _ _ hn0 HG.out.2.1
      have HEi : Hid (EW wr E r (fun i' => if i' < i then dotp A X xn i' xn else if i' = i then dotp A X xn i 0 else 0)) := Lib.hid (HE.out.congr fun i' _ => by
        by_cases h1 : i' < i
        · rw [if_pos h1, if_pos h1]
        · rw [if_neg h1, if_neg h1]; split <;> rfl)
      clear HE p1
      obtain ⟨wo, hwo⟩ : ∃ x : World, x = wr := ⟨_, rfl⟩
      subst hwo
      go_wp2_with fail
      go_loopw [10] (fun p wr => ∃ k : Nat, p = .int .i64 k ∧ k ≤ xn ∧ Hid (EW wr E r (fun i' => if i' < i then dotp A X xn i' xn else if i' = i then dotp A X xn i k else 0)) ∧ Hid (Kp E W5 wr) ∧ Below W.heap.size W wr) (fun p _ => xn - (vI p).toNat)
      case atStart => exact ⟨0, rfl, Nat.zero_le _, HEi, HK, hB⟩
      case round =>
        clear HEi HK hB p0
        obtain ⟨k, rfl, hk, HE, HK, hB⟩ := hrel
        have p1 := HK.out.cell _ _ hn0 HG.out.2.1
        have p2 := HK.out.cell _ _ hn0 HG.out.2.2.1
        by_cases hkx : k < xn
        · obtain ⟨ic, hic⟩ : ∃ x, x = i * xn := ⟨_, rfl⟩
          obtain ⟨t, ht⟩ : ∃ x, x = ic + k := ⟨_, rfl⟩
          have htb : t < an := by
            rw [HH.out.2.2.2.2.2.2, ht, hic]
            have : (i + 1) * xn ≤ r * xn := Nat.mul_le_mul_right xn hir
            rw [Nat.add_mul, Nat.one_mul] at this
            omega
          have hw1 : IntKind.i64.wrap ((i : Int) * (xn : Int)) = (ic : Int) := by
            rw [hic, Int.natCast_mul]; exact IntWalk.i64_in _ (by rw [← Int.natCast_mul, ← hic]; omega)
          have hw2 : IntKind.i64.wrap ((ic : Int) + (k : Int)) = (t : Int) := by rw [ht, Int.natCast_add]; exact IntWalk.i64_in _ (by omega)
          have htI : (t : Int) < an := by omega
          obtain ⟨nv, hnv⟩ : ∃ y, A[t]? = some y := ⟨_, List.getElem?_eq_getElem (by rw [HH.out.2.2.1, ← HH.out.2.2.2.2.2.2]; exact htb)⟩
          obtain ⟨xv, hxv⟩ : ∃ y, X[k]? = some y := ⟨_, List.getElem?_eq_getElem (by rw [HH.out.2.2.2.1]; exact hkx)⟩
          obtain ⟨ad, hade⟩ : ∃ ad, aa = some ad := by
            cases aa with
            | none => have := HH.out.1.open.2.2.2.1 rfl; omega
            | some ad => exact ⟨ad, rfl⟩
          obtain ⟨bd, hbde⟩ : ∃ ad, xa = some ad := by
            cases xa with
            | none => have := HH.out.2.1.open.2.2.2.1 rfl; omega
            | some ad => exact ⟨ad, rfl⟩
          subst hade hbde
          obtain ⟨e0, e1⟩ := wvs_get A t nv hnv
          obtain ⟨e2, e3⟩ := wvs_get X k xv hxv
          have hBw : Below w.heap.size w wr := hwB.trans (hB.mono hwB.size)
          have d0 : wr.cell? (ad.add (t * 2)) = some (.bool (decide (nv < 0))) := Cx.keep hBw (HH.out.1.open.2.2.2.2 ad rfl _ _ e0)
          have d1 : wr.cell? ⟨(ad.add (t * 2)).block, (ad.add (t * 2)).off + 1, none⟩ = some (.string (mg nv)) := by rw [add_part _ _ _ (by omega)]; exact Cx.keep hBw (HH.out.1.open.2.2.2.2 ad rfl _ _ e1)
          have hX0 := HH.out.2.1.open.2.2.2.2 bd rfl _ _ e2
          have hX1 := HH.out.2.1.open.2.2.2.2 bd rfl _ _ e3
          have hgA : A.getD (i * xn + k) 0 = nv := by rw [← hic, ← ht, List.getD_eq_getElem?_getD, hnv]; rfl
          have hgX : X.getD k 0 = xv := by rw [List.getD_eq_getElem?_getD, hxv]; rfl
          have hdot : dotp A X xn i (k + 1) = dotp A X xn i k + nv * xv := by show _ + _ * _ = _; rw [hgA, hgX]
          have nnv := HH.out.2.2.2.2.1 nv (List.mem_of_getElem? hnv)
          have nxv := HH.out.2.2.2.2.2.1 xv (List.mem_of_getElem? hxv)
          have ndot := dotp_nb A X xn i HH.out.2.2.2.2.1 HH.out.2.2.2.2.2.1 k
          have HD := Lib.hid (And.intro hX0 (And.intro hX1 (And.intro hdot (And.intro nnv (And.intro nxv ndot)))))
          clear e0 e1 e2 e3 hX0 hX1 hgA hgX hdot nnv nxv ndot hnv hxv hic ht htb
          obtain ⟨wo, hwo⟩ : ∃ x : World, x = wr := ⟨_, rfl⟩
          subst hwo
          go_wp2_with fail
          obtain ⟨W6, hW6⟩ : ∃ x, x = wo.alloc (.cells #[.bool (decide (nv < 0)), .string (mg nv)] 46) := ⟨_, rfl⟩
          rw [← hW6]
          have hEo : E < wo.heap.size := Nat.lt_of_lt_of_le HG.out.2.2.2.2.2.2.2.2.2.2.2 HK.out.size
          have hoE : wo.heap.size ≠ E := by omega
          have hB6 : Below wo.heap.size wo W6 := by rw [hW6]; exact (Below.refl _ _).alloc (Nat.le_refl _) _
          have hN6 : Bx W6 wo.heap.size (decide (nv < 0)) (mg nv) := by rw [hW6]; exact Bx.new wo _ _ _
          have H6 := Lib.hid (And.intro hN6 (And.intro (HK.out.below hB6) (And.intro (HE.out.keep hB6 hEo) (And.intro (hB.trans (hB6.mono hB.size)) hEo))))
          have hwk : IntKind.i64.wrap (k : Int) = (k : Int) := IntWalk.i64_in _ (by omega)
          have hwi : IntKind.i64.wrap (i : Int) = (i : Int) := IntWalk.i64_in _ (by omega)
          clear hN6 hB6 hW6 HE HK hB p1 p2 d0 d1 hBw hw1 hw2 htI
          go_loopw [12] (fun p wr => ∃ j : Nat, p = .int .i64 j ∧ j ≤ 1 ∧ Hid (EW wr E r (fun i' => if i' < i then dotp A X xn i' xn else if i' = i then dotp A X xn i (k + j) else 0)) ∧ Hid (Kp E W6 wr) ∧ Below W.heap.size W wr) (fun p _ => 1 - (vI p).toNat)
          case atStart => exact ⟨0, rfl, by decide, (show Hid _ from H6.out.2.2.1), (show Hid _ from Kp.refl _ _), H6.out.2.2.2.1⟩
          case round =>
            obtain ⟨j, rfl, hj, HE, HK, hB⟩ := hrel
            have HK5 := Lib.hid (H6.out.2.1.trans HK.out)
            have q1 := HK5.out.cell _ _ hn1 HG.out.2.2.2.2.1
            have hEr : E < wr.heap.size := by
              have h1 := World.block_lt_of_cell? W6 ⟨wo.heap.size, 0, none⟩ H6.out.1.1
              have h3 : wo.heap.size < W6.heap.size := h1
              have h4 := HK.out.size
              have h5 := H6.out.2.2.2.2
              omega
            have n0 := HK.out.cell ⟨wo.heap.size, 0, none⟩ _ hoE H6.out.1.1
            have n1 := HK.out.cell ⟨wo.heap.size, 1, none⟩ _ hoE H6.out.1.2.1
            rcases (by omega : j = 0 ∨ j = 1) with hj0 | hj1
            · subst hj0
              by_cases hnv0 : nv = 0
              · have he : (!(mg nv).toList.isEmpty) = false := by rw [hnv0, Cx.mg_zero]; simp [Lib.toList_data]
                have hd := HD.out.2.2.1
                rw [hnv0, Int.zero_mul, Int.add_zero] at hd
                have HDD := Lib.hid hd
                clear hd hnv0
                go_wp2
                go_roundw
                case measure => simp [vI]; omega
                case rel => exact ⟨k + 1, i64_eq (by omega), by omega, (show Hid _ from by rw [HDD.out]; exact HE.out), HK5, hB⟩
              · have he : (!(mg nv).toList.isEmpty) = true := mg_ne hnv0
                clear hnv0
                have q2 := HK5.out.cell _ _ hn1 HG.out.2.2.2.2.2.1
                have hBw : Below w.heap.size w wr := hwB.trans (hB.mono hwB.size)
                have d2 : wr.cell? (bd.add (k * 2)) = some (.bool (decide (xv < 0))) := Cx.keep hBw HD.out.1
                have d3 : wr.cell? ⟨(bd.add (k * 2)).block, (bd.add (k * 2)).off + 1, none⟩ = some (.string (mg xv)) := by rw [add_part _ _ _ (by omega)]; exact Cx.keep hBw HD.out.2.1
                by_cases hxv0 : xv = 0
                · have hex : (!(mg xv).toList.isEmpty) = false := by rw [hxv0, Cx.mg_zero]; simp [Lib.toList_data]
                  have hd := HD.out.2.2.1
                  rw [hxv0, Int.mul_zero, Int.add_zero] at hd
                  have HDD := Lib.hid hd
                  clear hd hxv0
                  go_wp2
                  have hgr : Below wr.heap.size wr (wr.alloc (.cells #[.bool (decide (xv < 0)), .string (mg xv)] 46)) := (Below.refl _ _).alloc (Nat.le_refl _) _
                  go_roundw
                  case measure => simp [vI]
                  case rel => exact ⟨1, rfl, by decide, (show Hid _ from by rw [HDD.out]; exact HE.out.keep hgr hEr), (show Hid _ from HK.out.below hgr), hB.trans (hgr.mono hB.size)⟩
                · have hex : (!(mg xv).toList.isEmpty) = true := mg_ne hxv0
                  clear hxv0
                  have q1a : ∀ o, (wr.alloc o).cell? ⟨w.heap.size + 1, 1, none⟩ = some (.int .i64 1) := fun o => keepAl q1 o
                  go_upto_region 19 with fail
                  obtain ⟨wm, hwm⟩ : ∃ x, x = wr.alloc (.cells #[.bool (decide (xv < 0)), .string (mg xv)] 46) := ⟨_, rfl⟩
                  rw [← hwm]
                  have hgm : Below wr.heap.size wr wm := by rw [hwm]; exact (Below.refl _ _).alloc (Nat.le_refl _) _
                  have hM : Bx wm wr.heap.size (decide (xv < 0)) (mg xv) := by rw [hwm]; exact Bx.new wr _ _ _
                  have hEml : E < wm.heap.size := Nat.lt_of_lt_of_le hEr hgm.size
                  have hEm := HE.out.keep hgm hEr
                  obtain ⟨od, hod⟩ : ∃ z, z = dotp A X xn i k := ⟨_, rfl⟩
                  obtain ⟨g, hg⟩ : ∃ g : Nat → Int, g = fun i' => if i' < i then dotp A X xn i' xn else if i' = i then dotp A X xn i (k + 0) else 0 := ⟨_, rfl⟩
                  rw [← hg] at hEm
                  have hgi : g i = od := by rw [hg, hod]; simp
                  have hE : ∀ w', Below wm.heap.size wm w' → Bx' w' E i od := fun w' h => by
                    have := hEm.keep h hEml i hir
                    rw [hgi] at this
                    exact this
                  have o2 : wm.cell? ⟨w3.heap.size, 2, none⟩ = some (.slice (some ⟨E, 0, none⟩) r r) := Cx.keep hgm (HK5.out.cell _ _ hEne HG.out.2.2.2.2.2.2.2.2.1)
                  have m0 := hM.1
                  have m1 := hM.2.1
                  replace n0 := Cx.keep hgm n0
                  replace n1 := Cx.keep hgm n1
                  obtain ⟨x0, x1, x2, x3⟩ := hE wm (Below.refl _ _)
                  have hnew : od + nv * xv = dotp A X xn i (k + 1) := by rw [HD.out.2.2.1, hod]
                  have hnb1 : nb od ≤ 1000 := by rw [hod]; have := HD.out.2.2.2.2.2; omega
                  have hnb2 : nb nv ≤ 8 ∧ nb xv ≤ 8 := ⟨HD.out.2.2.2.1, HD.out.2.2.2.2.1⟩
                  have hnb3 := nb_mul nv xv
                  have HO := Lib.hid (And.intro hod (And.intro hnew (And.intro hE (And.intro hgm (And.intro hEm hg)))))
                  clear hod hnew hE hgm hEm hM hwm hg hgi d2 d3 q1 q2 q1a
                  refine wp_open fun KO hKO => ?_
                  go_cut [90] from 91 to 102 (fun _ wx => ∃ w', Hid (Below wm.heap.size wm w') ∧ wx = (w'.setCell ⟨E, i * 2, none⟩ (.bool (decide (od + nv * xv < 0)))).setCell ⟨E, i * 2 + 1, none⟩ (.string (mg (od + nv * xv))))
                  case first =>
                    rename_i J K2 hJ hK2
                    have hE := HO.out.2.2.1
                    refine region_tail rfl (fun i' v => ∀ x, ([some (.pointer (some ⟨w3.heap.size, 2, none⟩)), some (.slice (some ⟨E, 0, none⟩) r r), some (.int .i64 i), some (.pointer (some ⟨w3.heap.size, 2, none⟩)), some (.slice (some ⟨E, 0, none⟩) r r), some (.int .i64 i), some (.pointer (some ⟨E, i * 2, none⟩)), some (wv od), some (wv nv), some (wv xv), some (wv (nv * xv)), some (wv (od + nv * xv)), some (.pointer (some ⟨E, i * 2, none⟩))] : List (Option Value)).getD i' none = some x → v = x) 13 14 104 rfl (by kernel_rfl) (by kernel_rfl) (by decide) (by kernel_rfl) (by kernel_rfl) (fun a w'' => K2 a w'') ?step ?store (fun a w'' h => h)
                    case step =>
                      intro i' o ho hne a w' hw hd hbase hsz
                      have ht8 := hbase 8 (noDst_spec (by kernel_rfl))
                      have ht14 := hbase 14 (noDst_spec (by kernel_rfl))
                      have ht11 := hbase 11 (noDst_spec (by kernel_rfl))
                      have ht13 := hbase 13 (noDst_spec (by kernel_rfl))
                      match i', ho, hd with
                      | 0, ho, hd =>
                        obtain rfl := Option.some.inj ho
                        exact ⟨rfl, Option.some_ne_none _, do_field _ _ _ rfl _ ht8 _ (run_fieldM _ _) ⟨_, rfl, fun _ h => Option.some.inj h, Below.refl _ _⟩⟩
                      | 1, ho, hd =>
                        obtain rfl := Option.some.inj ho
                        exact ⟨rfl, Option.some_ne_none _, do_load _ _ rfl _ (hd 0 _ _ rfl rfl (by kernel_rfl) _ rfl) _ (run_ldSW _ _ _ _ _ (Cx.keep hw o2)) ⟨_, rfl, fun _ h => Option.some.inj h, Below.refl _ _⟩⟩
                      | 2, ho, hd =>
                        obtain rfl := Option.some.inj ho
                        exact ⟨rfl, Option.some_ne_none _, do_move _ (.inl rfl) ⟨_, rfl, fun _ h => ht14.trans (Option.some.inj h), Below.refl _ _⟩⟩
                      | 3, ho, hd =>
                        obtain rfl := Option.some.inj ho
                        exact ⟨rfl, Option.some_ne_none _, do_field _ _ _ rfl _ ht8 _ (run_fieldM _ _) ⟨_, rfl, fun _ h => Option.some.inj h, Below.refl _ _⟩⟩
                      | 4, ho, hd =>
                        obtain rfl := Option.some.inj ho
                        exact ⟨rfl, Option.some_ne_none _, do_load _ _ rfl _ (hd 3 _ _ rfl rfl (by kernel_rfl) _ rfl) _ (run_ldSW _ _ _ _ _ (Cx.keep hw o2)) ⟨_, rfl, fun _ h => Option.some.inj h, Below.refl _ _⟩⟩
                      | 5, ho, hd =>
                        obtain rfl := Option.some.inj ho
                        exact ⟨rfl, Option.some_ne_none _, do_move _ (.inl rfl) ⟨_, rfl, fun _ h => ht14.trans (Option.some.inj h), Below.refl _ _⟩⟩
                      | 6, ho, hd =>
                        obtain rfl := Option.some.inj ho
                        exact ⟨rfl, Option.some_ne_none _, do_idx _ _ _ rfl _ _ (hd 4 _ _ rfl rfl (by kernel_rfl) _ rfl) (hd 5 _ _ rfl rfl (by kernel_rfl) _ rfl) _ (run_idxW _ _ _ _ _ hir) ⟨_, rfl, fun _ h => Option.some.inj h, Below.refl _ _⟩⟩
                      | 7, ho, hd =>
                        obtain rfl := Option.some.inj ho
                        exact ⟨rfl, Option.some_ne_none _, do_load _ _ rfl _ (hd 6 _ _ rfl rfl (by kernel_rfl) _ rfl) _ (run_ldWE _ _ _ _ (hE _ hw).1 (hE _ hw).2.1) ⟨_, rfl, fun _ h => Option.some.inj h, Below.refl _ _⟩⟩
                      | 8, ho, hd =>
                        obtain rfl := Option.some.inj ho
                        exact ⟨rfl, Option.some_ne_none _, do_load _ _ rfl _ ht11 _ (ldW2 (Cx.keep hw n0) (Cx.keep hw n1)) ⟨_, rfl, fun _ h => Option.some.inj h, Below.refl _ _⟩⟩
                      | 9, ho, hd =>
                        obtain rfl := Option.some.inj ho
                        exact ⟨rfl, Option.some_ne_none _, do_load _ _ rfl _ ht13 _ (ldW2 (Cx.keep hw m0) (Cx.keep hw m1)) ⟨_, rfl, fun _ h => Option.some.inj h, Below.refl _ _⟩⟩
                      | 10, ho, hd =>
                        obtain rfl := Option.some.inj ho
                        have f0 : a.tmps.getD 98 undef = wv nv := hd 8 _ _ rfl rfl (by kernel_rfl) _ rfl
                        have f1 : a.tmps.getD 99 undef = wv xv := hd 9 _ _ rfl rfl (by kernel_rfl) _ rfl
                        exact ⟨rfl, Option.some_ne_none _, do_call _ _ _ rfl ef_ref01_Mul #[wv nv, wv xv] (by simp [Act.eval, f0, f1]) ((refMulV nv xv _ _ (by omega) (by omega) rfl).mono fun e w6 ⟨r, he, hr, hb⟩ => ⟨r, he, r, rfl, fun _ h => hr.trans (Option.some.inj h), hb⟩)⟩
                      | 11, ho, hd =>
                        obtain rfl := Option.some.inj ho
                        have f0 : a.tmps.getD 97 undef = wv od := hd 7 _ _ rfl rfl (by kernel_rfl) _ rfl
                        have f1 : a.tmps.getD 100 undef = wv (nv * xv) := hd 10 _ _ rfl rfl (by kernel_rfl) _ rfl
                        exact ⟨rfl, Option.some_ne_none _, do_call _ _ _ rfl ef_ref01_Add #[wv od, wv (nv * xv)] (by simp [Act.eval, f0, f1]) ((refAddV od (nv * xv) _ _ (by omega) (by omega) rfl).mono fun e w6 ⟨r, he, hr, hb⟩ => ⟨r, he, r, rfl, fun _ h => hr.trans (Option.some.inj h), hb⟩)⟩
                      | 12, ho, hd =>
                        obtain rfl := Option.some.inj ho
                        exact ⟨rfl, Option.some_ne_none _, do_idx _ _ _ rfl _ _ (hd 1 _ _ rfl rfl (by kernel_rfl) _ rfl) (hd 2 _ _ rfl rfl (by kernel_rfl) _ rfl) _ (run_idxW _ _ _ _ _ hir) ⟨_, rfl, fun _ h => Option.some.inj h, Below.refl _ _⟩⟩
                      | 13, ho, hd => exact absurd rfl hne
                      | i' + 14, ho, hd =>
                        have : i' + 14 < 14 := (Array.getElem?_eq_some_iff.1 ho).1
                        omega
                    case store =>
                      intro o ho a w' hsz hdf hw hf hbase
                      obtain rfl := Option.some.inj ho
                      have f0 : a.tmps.getD 102 undef = .pointer (some ⟨E, i * 2, none⟩) := hf 12 _ _ rfl rfl _ rfl
                      have f1 : a.tmps.getD 101 undef = wv (od + nv * xv) := hf 11 _ _ rfl rfl _ rfl
                      refine ⟨rfl, do_store _ _ _ rfl _ _ f0 f1 (run_stWE _ _ _ _ _ _ (hE _ hw).1 (hE _ hw).2.1 (hE _ hw).2.2.1 (hE _ hw).2.2.2) ?_⟩
                      refine hK2 _ _ (Met.intro (hJ _ _ ⟨a.tmps.getD 90 undef, a.tmps.getD 91 undef, a.tmps.getD 92 undef, a.tmps.getD 93 undef, a.tmps.getD 94 undef, a.tmps.getD 95 undef, a.tmps.getD 96 undef, a.tmps.getD 97 undef, a.tmps.getD 98 undef, a.tmps.getD 99 undef, a.tmps.getD 100 undef, a.tmps.getD 101 undef, a.tmps.getD 102 undef, ⟨w', Lib.hid hw, rfl⟩, (act_lit hsz hdf hbase).trans ?_⟩))
                      kernel_rfl
                  case rest =>
                    obtain ⟨w', HW, rfl⟩ := hcut
                    refine hKO _ _ ?_
                    go_wp2
                    go_roundw
                    case measure => simp [vI]
                    case rel =>
                      obtain ⟨_, hnew, _, hgm, hEm, hg⟩ := HO.out
                      refine ⟨1, rfl, by decide, (show Hid _ from ((hEm.keep HW.out hEml).put i (od + nv * xv)).congr fun i' _ => ?_), (show Hid _ from (((HK.out.below hgm).below HW.out).set _ _).set _ _), ((hB.trans ((hgm.trans (HW.out.mono hgm.size)).mono hB.size)).setCell hEl _).setCell hEl _⟩
                      by_cases hii : i' = i
                      · rw [if_pos hii, if_neg (by omega), if_pos hii, hnew]
                      · rw [if_neg hii, hg]
                        show (if i' < i then _ else if i' = i then _ else (0 : Int)) = _
                        rw [if_neg hii, if_neg hii]
            · subst hj1
              go_wp2
              go_roundw
              case measure => simp [vI]; omega
              case rel => exact ⟨k + 1, i64_eq (by omega), by omega, HE, HK5, hB⟩
        · have hke : k = xn := by omega
          go_wp2
          go_roundw
          case measure => simp [vI]; omega
          case rel =>
            refine ⟨i + 1, i64_eq (by omega), by omega, (show Hid _ from HE.out.congr fun i' _ => ?_), HK, hB⟩
            rw [hke]
            by_cases h1 : i' < i
            · rw [if_pos h1, if_pos (by omega)]
            · by_cases h2 : i' = i
              · rw [if_neg h1, if_pos h2, if_pos (by omega), h2]
              · rw [if_neg h1, if_neg h2, if_neg (by omega)]
    · have hie : i = r := by omega
      have o0 := HK.out.cell _ _ hEne HG.out.2.2.2.2.2.2.1
      have o1 := HK.out.cell _ _ hEne HG.out.2.2.2.2.2.2.2.1
      have o2 := HK.out.cell _ _ hEne HG.out.2.2.2.2.2.2.2.2.1
      have hWW := HG.out.2.2.2.2.2.2.2.2.2.2.1
      have hsl : w.heap.size + 1 + 1 < W.heap.size := by omega
      have s0 : W.cell? ⟨w.heap.size + 1 + 1, 0, none⟩ = some (.int .i64 0) := by have := HC.out.2.2.2.2.2.2.1 0; simpa using this
      have s1 : W.cell? ⟨w.heap.size + 1 + 1, 1, none⟩ = some (.int .i64 0) := by have := HC.out.2.2.2.2.2.2.1 1; simpa using this
      have s2 : W.cell? ⟨w.heap.size + 1 + 1, 2, none⟩ = some (.slice none 0 0) := by have := HC.out.2.2.2.2.2.2.1 2; simpa using this
      have r0 := HK.out.cell _ _ hn2 (Cx.keep hWW s0)
      have r1 := HK.out.cell _ _ hn2 (Cx.keep hWW s1)
      have r2 := HK.out.cell _ _ hn2 (Cx.keep hWW s2)
      have f : ∀ j, wr.frozen? ⟨w.heap.size + 1 + 1, j, none⟩ = false := fun j => HK.out.froz _ hn2 (Nat.lt_of_lt_of_le hsl hWW.size) (frozen_keepB hWW hsl (HC.out.2.2.2.2.2.2.2.1 j))
      have f0 := f 0
      have f1 := f 1
      have f2 := f 2
      clear s0 s1 s2 f hWW
      go_wp2_with fail
      have e0 : ∀ (x y z : Value), (((wr.setCell ⟨w.heap.size + 1 + 1, 0, none⟩ x).setCell ⟨w.heap.size + 1 + 1, 1, none⟩ y).setCell ⟨w.heap.size + 1 + 1, 2, none⟩ z).cell? ⟨w.heap.size + 1 + 1, 0, none⟩ = some x := fun x y z =>
        cell_setC (cell_setC (World.cell?_setCell_same' _ _ _ (by rw [r0]; rfl)) (by simp)) (by simp)
      have e1 : ∀ (x y z : Value), (((wr.setCell ⟨w.heap.size + 1 + 1, 0, none⟩ x).setCell ⟨w.heap.size + 1 + 1, 1, none⟩ y).setCell ⟨w.heap.size + 1 + 1, 2, none⟩ z).cell? ⟨w.heap.size + 1 + 1, 1, none⟩ = some y := fun x y z =>
        cell_setC (World.cell?_setCell_same' _ _ _ (by rw [cell_setC r1 (by simp)]; rfl)) (by simp)
      have e2 : ∀ (x y z : Value), (((wr.setCell ⟨w.heap.size + 1 + 1, 0, none⟩ x).setCell ⟨w.heap.size + 1 + 1, 1, none⟩ y).setCell ⟨w.heap.size + 1 + 1, 2, none⟩ z).cell? ⟨w.heap.size + 1 + 1, 2, none⟩ = some z := fun x y z =>
        World.cell?_setCell_same' _ _ _ (by rw [cell_setC (cell_setC r2 (by simp)) (by simp)]; rfl)
      refine bodyPost_ret (v := .tuple #[.agg #[.int .i64 r, .int .i64 1, .slice (some ⟨E, 0, none⟩) r r], .bool true]) (by simp [results, Tryz.results66, go_sem, e0, e1, e2]) rfl ⟨E, rfl, by omega, ?_, ?_, ?_⟩
      · have h1 := HG.out.2.2.2.2.2.2.2.2.2.2.2
        have h2 := HK.out.size
        simp only [World.size_setCell]
        omega
      · have hew : EW (((wr.setCell ⟨w.heap.size + 1 + 1, 0, none⟩ (.int .i64 r)).setCell ⟨w.heap.size + 1 + 1, 1, none⟩ (.int .i64 1)).setCell ⟨w.heap.size + 1 + 1, 2, none⟩ (.slice (some ⟨E, 0, none⟩) r r)) E r (fun i' => if i' < i then dotp A X xn i' xn else 0) := fun j hj => by
          obtain ⟨g1, g2, g3, g4⟩ := HE.out j hj
          have hEw' : (⟨E, j * 2, none⟩ : Addr).block ≠ w.heap.size + 1 + 1 := fun e => hn2 e.symm
          have hEw2 : (⟨E, j * 2 + 1, none⟩ : Addr).block ≠ w.heap.size + 1 + 1 := fun e => hn2 e.symm
          exact ⟨cell_set (cell_set (cell_set g1 hEw') hEw') hEw', cell_set (cell_set (cell_set g2 hEw2) hEw2) hEw2, by simpa [World.frozen?_setCell] using g3, by simpa [World.frozen?_setCell] using g4⟩
        exact hew.congr fun j hj => by rw [if_pos (by omega)]
      · have h1 := hwB.trans (hB.mono hwB.size)
        have h2 : w.heap.size ≤ w.heap.size + 1 + 1 := by omega
        exact ((h1.setCell (by exact h2) _).setCell (by exact h2) _).setCell (by exact h2) _

set_option maxRecDepth 100000 in
set_option maxHeartbeats 4000000 in
theorem mApply (r c : Nat) (va vx : Value) (A X : List Int) (w : World) (h : Sl w 2 va (wvs A)) (k : Sl w 2 vx (wvs X)) (hA : A.length = r * c) (hX : X.length = c) (hr : r ≤ 200) (hc : c ≤ 200) (nA : ∀ x ∈ A, nb x ≤ 8) (nX : ∀ x ∈ X, nb x ≤ 8) :
    Calls Tryz.prog 32 #[.agg #[.int .i64 r, .int .i64 c, va], vx] w fun e w' => ∃ v, e = .returned (.tuple #[v, .bool true]) ∧ Sl w' 2 v (wvs ((List.range r).map fun i => dotp A X c i c)) ∧ Below w.heap.size w w' := by
  obtain ⟨aa, an, ac, rfl⟩ := sl_shape h
  obtain ⟨xa, xn, xc, rfl⟩ := sl_shape k
  have hxn : xn = X.length := by
    obtain ⟨_, _, h3, _⟩ := k.open
    rw [wvs_len] at h3; omega
  rw [hX] at hxn
  subst hxn
  have hcI : (xn : Int) ≤ 200 := by omega
  have HH := Lib.hid (And.intro h (And.intro k (And.intro hA (And.intro hX (And.intro nA nX)))))
  clear h k hA hX nA nX
  go_enter Tryz.func32, Tryz.ntmps32
  go_wp2_with fail
  obtain ⟨W, hW⟩ : ∃ W : World, W = w.alloc (.cells #[.int .i64 r, .int .i64 xn, .slice aa an ac] 56) := ⟨_, rfl⟩
  rw [← hW]
  have hw : Below w.heap.size w W := by rw [hW]; exact (Below.refl _ _).alloc (Nat.le_refl _) _
  have c0 : W.cell? ⟨w.heap.size, 0, none⟩ = some (.int .i64 r) := by rw [hW]; exact cell_new w _ _ (0, 0) 0
  have c1 : W.cell? ⟨w.heap.size, 1, none⟩ = some (.int .i64 xn) := by rw [hW]; exact cell_new w _ _ (0, 0) 1
  have c2 : W.cell? ⟨w.heap.size, 2, none⟩ = some (.slice aa an ac) := by rw [hW]; exact cell_new w _ _ (0, 0) 2
  clear hW
  refine (mCanonical _ X _ (HH.out.2.1.keep hw)).mono ?_
  rintro e w1 ⟨rfl, hb1⟩
  replace c0 := Cx.keep hb1 c0
  replace c1 := Cx.keep hb1 c1
  replace c2 := Cx.keep hb1 c2
  have HB1 := Lib.hid (hw.trans (hb1.mono hw.size))
  clear hb1 hw
  go_wp2_with fail
  refine (mMul1 r xn _ _ A X _ (HH.out.1.keep HB1.out) (HH.out.2.1.keep HB1.out) HH.out.2.2.1 HH.out.2.2.2.1 hr hc HH.out.2.2.2.2.1 HH.out.2.2.2.2.2).mono ?_
  rintro e w2 ⟨E, rfl, hE1, hE2, hEW, hb2⟩
  have HE := Lib.hid (And.intro hEW (And.intro hE2 (HB1.out.trans (hb2.mono HB1.out.size))))
  clear hEW hb2 hE1 hE2 c0 c1 c2
  go_wp2_with fail
  go_ret2
  have hsl := HE.out.1.sl (by omega)
  exact ⟨_, rfl, hsl.alloc _, HE.out.2.2.alloc HE.out.2.2.size _⟩

end Go.Proofs.YtfcmpolhcpbliaaGreatDoor
