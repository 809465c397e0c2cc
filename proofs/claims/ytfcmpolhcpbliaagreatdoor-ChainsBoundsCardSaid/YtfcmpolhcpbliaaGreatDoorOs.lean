/- cocyclelaw07.ChainsBounds: the region that makes its three chains, by an invariant. cocyclelaw07.ChainsBounds. Written by gen_bnd.py out of LaY.src. -/
import Derived.Deep.CutRange
import Derived.Deep.DeepCutAuto
import Derived.Deep.RegionHeld3
import Derived.Deep.DeepMust
import Derived.Test.YtfcmpolhcpbliaaGreatDoorOr
import Derived.Test.YtfcmpolhcpbliaaGreatDoorOq
import Derived.Test.YtfcmpolhcpbliaaGreatDoorOk

namespace Go.Proofs.YtfcmpolhcpbliaaGreatDoor
open Go.RowKit Go.Cx

theorem do_append2 {P : Program} {Q : Exit → Act → World → Prop} {o : Oper} {a : Act} {wr : World} {K : Act → World → Prop} (s x : Operand) (t : TypeId)
    (ho : o.op = .call { callee := .builtin .append, args := #[s, x], argTypes := #[t, t] })
    (base : Nat) (e : TypeId) {z : Value} {size bytes : Nat} (hinfo : (P.info? e).map (fun i => (i.zero, i.size, i.bytes)) = some (some z, size, bytes)) (ht : P.underlying t = some (.slice e))
    (hzs : z.cells.size = size) (hsz : 0 < size) (hby : 0 < bytes)
    (v : Value) (n : Nat) (xs : List Value) (hs : a.eval s = v) (hown : wr.ownsRow base e size v n xs)
    (u : Value) (m : Nat) (ys : List Value) (hx : a.eval x = u) (hsrc : Sl wr size u ys) (hl : ys.length = m * size) (h1 : ∀ u ∈ ys, u.oneCell' = true)
    (hbytes : (n + m) * bytes ≤ 140737488355328) (hbase : base ≤ wr.heap.size)
    (h : ∀ v' w', w'.ownsRow base e size v' (n + m) (xs ++ ys) → wr.grownBy w' v.ownBlock → Below base wr w' → K (a.put o.dst v') w') : Oper.wp P o a wr K Q := by
  have key : wpList P #[] (onlyN K) [{ o with guard := none }] a wr :=
    wpList_appS (W := wr) rfl s x t ho base e hinfo ht hzs hsz hby v n xs hs hown u m ys hx hsrc hl h1 hbytes (Below.refl _ _) hbase fun v' w' r1 r2 r3 => h v' w' r1 r2 r3
  unfold wpList at key
  split at key
  · rcases key with key | ⟨_, _, _, key⟩
    · exact upon_weak key
    · exact key.elim
  · rename_i hn
    exact absurd rfl hn

/-- A row of terms within bounds, in blocks from b on. -/
def TR (w : World) (b : Nat) (v : Value) : Prop := ∃ L : List (Int × Int), LOk 8 L ∧ L.length ≤ 180 ∧ w.ownsRow b 63 3 v L.length (tv (ctm L))
/-- A slice of terms within bounds. -/
def TS (w : World) (v : Value) : Prop := ∃ L : List (Int × Int), LOk 8 L ∧ L.length ≤ 360 ∧ Sl w 3 v (tv (ctm L))
theorem TR.keep {w w' : World} {b : Nat} {v : Value} (h : TR w b v) (hb : Below w.heap.size w w') : TR w' b v := by
  obtain ⟨L, h1, h2, h3⟩ := h; exact ⟨L, h1, h2, ownsRow_below h3 hb⟩
theorem TS.keep {w w' : World} {v : Value} (h : TS w v) (hb : Below w.heap.size w w') : TS w' v := by
  obtain ⟨L, h1, h2, h3⟩ := h; exact ⟨L, h1, h2, h3.keep hb⟩
theorem TR.ts {w : World} {b : Nat} {v : Value} (h : TR w b v) : TS w v := by
  obtain ⟨L, h1, h2, h3⟩ := h; exact ⟨L, h1, by omega, Sl.of_ownsRow h3⟩
theorem TR.lt {w : World} {b : Nat} {v : Value} (h : TR w b v) : ∀ g, v.ownBlock = some g → g < w.heap.size := by
  obtain ⟨L, h1, h2, h3⟩ := h; exact row_lt h3
/-- A fresh row lies apart from older ones. -/
theorem apt_new {w w' : World} {u v : Value} {e : TypeId} {st n : Nat} {xs : List Value} (hu : ∀ g, u.ownBlock = some g → g < w.heap.size) (hv : w'.ownsRow w.heap.size e st v n xs) : Apt v u := by
  intro g hg he
  have h1 := hu g he
  rcases hv.2 with ⟨rfl, _⟩ | ⟨g', _, _, rfl, hb, _⟩
  · cases hg
  · have hgg : g' = g := Option.some.inj hg
    omega
theorem apt_old {w w' : World} {u v : Value} {e : TypeId} {st n : Nat} {xs : List Value} (hu : ∀ g, u.ownBlock = some g → g < w.heap.size) (hv : w'.ownsRow w.heap.size e st v n xs) : Apt u v := by
  intro g hg he
  exact apt_new hu hv g he hg

/-- How far the region is. -/
def stg (l : Nat → Bool) : Nat := if l 13 then 6 else if l 12 then 5 else if l 11 then 4 else if l 9 then 3 else if l 5 then 2 else if l 3 then 1 else 0
/-- What holds of the six places then. -/
structure SB (b s : Nat) (x29 x31 x35 x37 x38 x39 : Value) (w : World) : Prop where
  r29 : 1 ≤ s → TR w b x29
  r31 : 2 ≤ s → TR w b x31
  r35 : 3 ≤ s → s ≤ 4 → TR w b x35 ∧ Apt x35 x29 ∧ Apt x35 x31
  r37 : s = 4 → TR w b x37 ∧ Apt x35 x37
  r38 : 5 ≤ s → TS w x38
  r39 : 6 ≤ s → ∃ B, x39 = .slice (some ⟨B, 0, none⟩) 3 3 ∧ w.cell? ⟨B, 0, none⟩ = some x29 ∧ w.cell? ⟨B, 1, none⟩ = some x31 ∧ w.cell? ⟨B, 2, none⟩ = some x38
theorem SB.keep {b s : Nat} {x29 x31 x35 x37 x38 x39 : Value} {w w' : World} (h : SB b s x29 x31 x35 x37 x38 x39 w) (hb : Below w.heap.size w w') : SB b s x29 x31 x35 x37 x38 x39 w' where
  r29 hs := (h.r29 hs).keep hb
  r31 hs := (h.r31 hs).keep hb
  r35 hs hs' := ⟨(h.r35 hs hs').1.keep hb, (h.r35 hs hs').2⟩
  r37 hs := ⟨(h.r37 hs).1.keep hb, (h.r37 hs).2⟩
  r38 hs := (h.r38 hs).keep hb
  r39 hs := by
    obtain ⟨B, h1, h2, h3, h4⟩ := h.r39 hs
    exact ⟨B, h1, Cx.keep hb h2, Cx.keep hb h3, Cx.keep hb h4⟩
section
variable {b : Nat} {x29 x31 x35 x37 x38 x39 : Value} {w w' : World} {L : List (Int × Int)} {x : Value}
theorem tr_new (hL : LOk 8 L) (hl : L.length ≤ 180) (hR : w'.ownsRow w.heap.size 63 3 x L.length (tv (ctm L))) (hb : b ≤ w.heap.size) : TR w' b x := ⟨L, hL, hl, ownsRow_mono hR hb⟩
theorem SB.s1 (hL : LOk 8 L) (hl : L.length ≤ 180) (hR : w'.ownsRow w.heap.size 63 3 x L.length (tv (ctm L))) (hb : b ≤ w.heap.size) : SB b 1 x x31 x35 x37 x38 x39 w' where
  r29 _ := tr_new hL hl hR hb
  r31 h := by omega
  r35 h := by omega
  r37 h := by omega
  r38 h := by omega
  r39 h := by omega
theorem SB.s2 (h : SB b 1 x29 x31 x35 x37 x38 x39 w) (hB : Below w.heap.size w w') (hL : LOk 8 L) (hl : L.length ≤ 180) (hR : w'.ownsRow w.heap.size 63 3 x L.length (tv (ctm L))) (hb : b ≤ w.heap.size) : SB b 2 x29 x x35 x37 x38 x39 w' where
  r29 _ := (h.r29 (by omega)).keep hB
  r31 _ := tr_new hL hl hR hb
  r35 h := by omega
  r37 h := by omega
  r38 h := by omega
  r39 h := by omega
theorem SB.s3 (h : SB b 2 x29 x31 x35 x37 x38 x39 w) (hB : Below w.heap.size w w') (hL : LOk 8 L) (hl : L.length ≤ 180) (hR : w'.ownsRow w.heap.size 63 3 x L.length (tv (ctm L))) (hb : b ≤ w.heap.size) : SB b 3 x29 x31 x x37 x38 x39 w' where
  r29 _ := (h.r29 (by omega)).keep hB
  r31 _ := (h.r31 (by omega)).keep hB
  r35 _ _ := ⟨tr_new hL hl hR hb, apt_new (h.r29 (by omega)).lt hR, apt_new (h.r31 (by omega)).lt hR⟩
  r37 h := by omega
  r38 h := by omega
  r39 h := by omega
theorem SB.s4 (h : SB b 3 x29 x31 x35 x37 x38 x39 w) (hB : Below w.heap.size w w') (hL : LOk 8 L) (hl : L.length ≤ 180) (hR : w'.ownsRow w.heap.size 63 3 x L.length (tv (ctm L))) (hb : b ≤ w.heap.size) : SB b 4 x29 x31 x35 x x38 x39 w' where
  r29 _ := (h.r29 (by omega)).keep hB
  r31 _ := (h.r31 (by omega)).keep hB
  r35 _ _ := ⟨(h.r35 (by omega) (by omega)).1.keep hB, (h.r35 (by omega) (by omega)).2⟩
  r37 _ := ⟨tr_new hL hl hR hb, apt_old (h.r35 (by omega) (by omega)).1.lt hR⟩
  r38 h := by omega
  r39 h := by omega
theorem tr_far (h : TR w b x29) (hg : w.grownBy w' x35.ownBlock) (ha : Apt x35 x29) : TR w' b x29 := by
  obtain ⟨L, h1, h2, h3⟩ := h
  exact ⟨L, h1, h2, row_far h3 hg fun g hg he => ha g he.symm hg⟩
theorem SB.s5 (h : SB b 4 x29 x31 x35 x37 x38 x39 w) (hg : w.grownBy w' x35.ownBlock) (hx : TS w' x) : SB b 5 x29 x31 x35 x37 x x39 w' where
  r29 _ := tr_far (h.r29 (by omega)) hg (h.r35 (by omega) (by omega)).2.1
  r31 _ := tr_far (h.r31 (by omega)) hg (h.r35 (by omega) (by omega)).2.2
  r35 _ h := by omega
  r37 h := by omega
  r38 _ := hx
  r39 h := by omega
theorem SB.s6 (h : SB b 5 x29 x31 x35 x37 x38 x39 w) (t : TypeId) : SB b 6 x29 x31 x35 x37 x38 (.slice (some ⟨w.heap.size, 0, none⟩) 3 3) (w.alloc (.cells #[x29, x31, x38] t)) where
  r29 _ := (h.r29 (by omega)).keep ((Below.refl _ w).alloc (Nat.le_refl _) _)
  r31 _ := (h.r31 (by omega)).keep ((Below.refl _ w).alloc (Nat.le_refl _) _)
  r35 _ h := by omega
  r37 h := by omega
  r38 _ := (h.r38 (by omega)).keep ((Below.refl _ w).alloc (Nat.le_refl _) _)
  r39 _ := ⟨w.heap.size, rfl, cell_new w _ _ _ 0, cell_new w _ _ _ 1, cell_new w _ _ _ 2⟩
end
theorem build3 (w : World) (x0 x1 x2 : Value) (h0 : ∃ a n c, x0 = .slice a n c) (h1 : ∃ a n c, x1 = .slice a n c) (h2 : ∃ a n c, x2 = .slice a n c) : (Instr.buildSlice 33 3 #[(0, x0), (1, x1), (2, x2)]).run Tryz.prog w = .ok (.slice (some ⟨w.heap.size, 0, none⟩) 3 3) (w.alloc (.cells #[x0, x1, x2] 30)) := by
  obtain ⟨a0, n0, c0, rfl⟩ := h0
  obtain ⟨a1, n1, c1, rfl⟩ := h1
  obtain ⟨a2, n2, c2, rfl⟩ := h2
  exact build_run w _ _ _ _ _ _ 1 24 Tryz.underlying33 Tryz.infoST (by omega) (by omega) (by kernel_rfl)
theorem TS.shape {w : World} {v : Value} (h : TS w v) : ∃ a n c, v = .slice a n c := by
  obtain ⟨L, _, _, h⟩ := h
  exact sl_shape h
def clo (l : Nat → Bool) : Prop := (l 5 = true → l 3 = true) ∧ (l 9 = true → l 5 = true) ∧ (l 11 = true → l 9 = true) ∧ (l 12 = true → l 11 = true) ∧ (l 13 = true → l 12 = true)
/-- The region's invariant. -/
structure IB (ops : Array Oper) (VB : List (Option Value)) (a0 : Act) (W0 : World) (l : Nat → Bool) (a : Act) (w : World) : Prop where
  sz : a.tmps.size = a0.tmps.size
  df : a.defers = a0.defers
  base : ∀ s, (∀ (i : Nat) (o : Oper), ops[i]? = some o → o.dst ≠ some s) → a.tmps.getD s undef = a0.tmps.getD s undef
  below : Below W0.heap.size W0 w
  pv : ∀ i x, i < 16 → VB.getD i none = some x → l i = true → a.tmps.getD (26 + i) undef = x
  cl : clo l
  st : SB W0.heap.size (stg l) (a.tmps.getD 29 undef) (a.tmps.getD 31 undef) (a.tmps.getD 35 undef) (a.tmps.getD 37 undef) (a.tmps.getD 38 undef) (a.tmps.getD 39 undef) w
theorem IB.step {ops : Array Oper} {VB : List (Option Value)} {a0 : Act} {W0 : World} {l : Nat → Bool} {a : Act} {w : World} (h : IB ops VB a0 W0 l a w) (hn : a0.tmps.size = 101) (i : Nat) (hi : i < 16) (o : Oper) (ho : ops[i]? = some o) (hd : o.dst = some (26 + i)) (x : Value) (w' : World)
    (hB : Below W0.heap.size W0 w') (hv : ∀ y, VB.getD i none = some y → x = y) (hcl : clo fun j => j == i || l j)
    (hst : SB W0.heap.size (stg fun j => j == i || l j) (if 26 + i = 29 then x else a.tmps.getD 29 undef) (if 26 + i = 31 then x else a.tmps.getD 31 undef) (if 26 + i = 35 then x else a.tmps.getD 35 undef) (if 26 + i = 37 then x else a.tmps.getD 37 undef) (if 26 + i = 38 then x else a.tmps.getD 38 undef) (if 26 + i = 39 then x else a.tmps.getD 39 undef) w') :
    IB ops VB a0 W0 (fun j => j == i || l j) (a.put o.dst x) w' := by
  have hsz : a.tmps.size = 101 := h.sz.trans hn
  have hg : ∀ s, (a.put (some (26 + i)) x).tmps.getD s undef = if 26 + i = s then x else a.tmps.getD s undef := fun s => by
    rw [put_getD]
    by_cases he : 26 + i = s
    · rw [if_pos ⟨he, by omega⟩, if_pos he]
    · rw [if_neg (fun e => he e.1), if_neg he]
  rw [hd]
  refine ⟨?_, h.df, fun s hs => ?_, hB, fun j y hj hy hlj => ?_, hcl, ?_⟩
  · show (a.tmps.setIfInBounds _ x).size = _; simpa using h.sz
  · rw [hg, if_neg (fun e => hs i o ho (by rw [hd, e]))]; exact h.base s hs
  · rw [hg]
    by_cases hji : j = i
    · subst hji; rw [if_pos rfl]; exact hv y hy
    · rw [if_neg (by omega)]
      have : (j == i) = false := by simpa using hji
      exact h.pv j y hj hy (by simpa [this] using hlj)
  · rw [hg, hg, hg, hg, hg, hg]; exact hst
/-- An operation that yields a value and no row. -/
theorem IB.pure {ops : Array Oper} {VB : List (Option Value)} {a0 : Act} {W0 : World} {l : Nat → Bool} {a : Act} {w : World} (h : IB ops VB a0 W0 l a w) (hn : a0.tmps.size = 101) (i : Nat) (hi : i < 16) (h3 : i ≠ 3 ∧ i ≠ 5 ∧ i ≠ 9 ∧ i ≠ 11 ∧ i ≠ 12 ∧ i ≠ 13) (o : Oper) (ho : ops[i]? = some o) (hd : o.dst = some (26 + i)) (x : Value)
    (hv : ∀ y, VB.getD i none = some y → x = y) : IB ops VB a0 W0 (fun j => j == i || l j) (a.put o.dst x) w := by
  have e : ∀ j, j ≠ i → (j == i || l j) = l j := fun j hj => by
    have : (j == i) = false := by simpa using hj
    rw [this, Bool.false_or]
  obtain ⟨n3, n5, n9, n11, n12, n13⟩ := h3
  refine h.step hn i hi o ho hd x w h.below hv ?_ ?_
  · unfold clo
    simp only [e 3 n3.symm, e 5 n5.symm, e 9 n9.symm, e 11 n11.symm, e 12 n12.symm, e 13 n13.symm]
    exact h.cl
  · have hs : (stg fun j => j == i || l j) = stg l := by
      unfold stg
      simp only [e 3 n3.symm, e 5 n5.symm, e 9 n9.symm, e 11 n11.symm, e 12 n12.symm, e 13 n13.symm]
    rw [hs, if_neg (by omega), if_neg (by omega), if_neg (by omega), if_neg (by omega), if_neg (by omega), if_neg (by omega)]
    exact h.st

theorem region_IB {P : Program} {ops : Array Oper} {Q : Exit → Act → World → Prop} {id : Nat} {a0 : Act} {w : World} (hm : P.follows .mixedOrders = true) (hlx : lexOk .any ops = true) (VB : List (Option Value))
    (hstep : ∀ (i : Nat) (o : Oper), ops[i]? = some o → ∀ (l : Nat → Bool) (a : Act) (w' : World), l i = false → (∀ j, dep .any ops i j = true → l j = true) → IB ops VB a0 w l a w' →
      Region.wanted o (yielded ops a.tmps) = true ∧ Oper.wp P o a w' (fun a' w'' => IB ops VB a0 w (fun j => j == i || l j) a' w'') Q)
    (hdone : ∀ (l : Nat → Bool) (a : Act) (w' : World), (∀ i, i < ops.size → l i = true) → IB ops VB a0 w l a w' → Q .normal a w') :
    (Code.region id ops true).wp P Q a0 w :=
  region_inv hm hlx (IB ops VB a0 w) ⟨rfl, rfl, fun _ _ => rfl, below_draws (Below.refl _ w) 1, fun i x _ _ h => absurd h Bool.false_ne_true, ⟨fun h => h, fun h => h, fun h => h, fun h => h, fun h => h⟩, ⟨fun h => absurd h (by decide), fun h => absurd h (by decide), fun h => absurd h (by decide), fun h => absurd h (by decide), fun h => absurd h (by decide), fun h => absurd h (by decide)⟩⟩ hstep hdone

end Go.Proofs.YtfcmpolhcpbliaaGreatDoor

namespace Go.Proofs.YtfcmpolhcpbliaaGreatDoor
open Go.RowKit Go.Cx
attribute [local go_sem ↓] Go.wp_at_zero Go.wp_at_succ

theorem ef_ref07_Made : ∀ args w, (callFunc 14 args).run Tryz.prog w = .ok (.enter 14 args) w := enter_fn Tryz.func14 (by kernel_rfl) (by kernel_rfl)
theorem wanted_ff {ops : Array Oper} {o : Oper} {a : Act} (j d : Nat) (hg : o.guard = some (j, false)) (hj : (ops[j]?).bind (·.dst) = some d) (hs : d < a.tmps.size) (h : a.tmps.getD d undef = .bool false) : Region.wanted o (yielded ops a.tmps) = true := by
  have h1 : a.tmps[d]? = some (.bool false) := by
    rw [Array.getD_eq_getD_getElem?, Array.getElem?_eq_getElem hs] at h
    rw [Array.getElem?_eq_getElem hs]
    exact congrArg some h
  unfold Region.wanted
  rw [hg]
  show (yielded ops a.tmps j == some false) = true
  unfold yielded
  rw [hj]
  show ((match a.tmps[d]? with | some (.bool b) => some b | _ => none) == some false) = true
  rw [h1]; rfl
theorem stp_pickf {P : Program} {Q : Exit → Act → World → Prop} {k : Fk} {o : Oper} {a : Act} {w : World} (c x y : Operand) (hop : o.op = .pick c x y) (hc : a.eval c = .bool false) (h : k.holds (a.eval y) w) : Stp P Q k o a w := by
  show Oper.wp _ _ _ _ _ _
  unfold Oper.wp
  have : (execOp a.eval o).run P w = .ok (.value (a.eval y)) w := by simp [execOp, hop, hc, asBool]
  rw [this]
  exact ⟨_, rfl, h, Below.refl _ _⟩
theorem stp_not {Q : Exit → Act → World → Prop} {k : Fk} {o : Oper} {a : Act} {w : World} (x : Operand) (t : Nat) (b : Bool) (hop : o.op = .unOp .not t x) (hx : a.eval x = .bool b) (h : k.holds (.bool (!b)) w) : Stp Tryz.prog Q k o a w :=
  do_unop .not t x hop _ hx (.bool (!b)) (by simp [go_sem]) ⟨_, rfl, h, Below.refl _ _⟩
theorem neB (q : Bool) (w : World) : (Go.binOp .neq 4 (.bool q) (.bool q)).run Tryz.prog w = .ok (.bool false) w := by
  cases q <;> simp [go_sem]
theorem egNB (x y : Operand) (q : Bool) (w : World) : (eqGuard .neq 4 x y (.bool q) (.bool q)).run Tryz.prog w = .ok () w := by
  simp [go_sem, eqGuard]
theorem ts_app {w : World} {b : Nat} {v : Value} {L M : List (Int × Int)} (h : w.ownsRow b 63 3 v (L.length + M.length) (tv (ctm L) ++ tv (ctm M))) (hL : LOk 8 L) (hM : LOk 8 M) (lL : L.length ≤ 180) (lM : M.length ≤ 180) : TS w v :=
  ⟨L ++ M, fun p hp => (List.mem_append.1 hp).elim (hL p) (hM p), by rw [List.length_append]; omega, apl h⟩
set_option maxRecDepth 100000 in
set_option maxHeartbeats 4000000 in
theorem laBounds (v0 v1 v2 : Value) (l la : List Int) (lb : List (Int × Int)) (w : World) (h0 : Sl w 1 v0 (ints l)) (h1 : Sl w 1 v1 (ints la)) (h2 : Sl w 2 v2 (pv lb)) (r2 : ∀ p ∈ lb, I64 p.1 ∧ I64 p.2) :
    Calls Tryz.prog 3 #[v0, v1, v2] w fun e w' => e = .returned (.bool true) ∧ Below w.heap.size w w' := by
  obtain ⟨a0, k0, c0, rfl⟩ := sl_shape h0
  obtain ⟨a1, k1, c1, rfl⟩ := sl_shape h1
  obtain ⟨a2, k2, c2, rfl⟩ := sl_shape h2
  obtain ⟨hc1, hc2, _⟩ := h1.open
  unfold maxLen at hc2
  have hk1 : k1 = la.length := by
    obtain ⟨_, _, h3, _⟩ := h1.open
    rw [ints_len] at h3; omega
  have H := Lib.hid (And.intro h0 (And.intro h1 h2))
  have HK1 := Lib.hid hk1
  clear h0 h1 h2 hk1
  go_enter Tryz.func3, Tryz.ntmps3
  go_wp2_with fail
  refine (laSanity _).mono ?_
  rintro e w1 ⟨rfl, hb1⟩
  go_wp2_with fail
  refine (smSimplices _ l _ (H.out.1.keep hb1)).mono ?_
  rintro e w2 ⟨r, m, rfl, hm, hR, hb2⟩
  obtain ⟨ua, uc, hue⟩ := ownsRow_len hR.1
  subst hue
  have hB2 : Below w.heap.size w w2 := hb1.trans (hb2.mono hb1.size)
  have HC := Lib.hid (And.intro hm hR.slc)
  have HB2 := Lib.hid hB2
  clear hm hR hb1 hb2 hB2
  go_upto_if 21 with fail
  obtain ⟨W0, hW0⟩ : ∃ W0, W0 = w2.alloc (.cells #[.slice ua m.length uc] 27) := ⟨_, rfl⟩
  rw [← hW0]
  have hBw : Below w.heap.size w W0 := by rw [hW0]; exact HB2.out.alloc HB2.out.size _
  have hcx : (Fk.cx (simpN l)).holds (.agg #[.slice ua m.length uc]) W0 := by rw [hW0]; exact ⟨_, m, rfl, HC.out.2.mono fun p u hc => keepAl hc _, HC.out.1⟩
  have hbv : Bv W0 w2.heap.size (.slice ua m.length uc) := by rw [hW0]; exact Bv.new w2 _ _
  have HX := Lib.hid (And.intro hcx (And.intro hbv hBw))
  clear hcx hbv hBw hW0
  go_cut [9, 21] from 22 to 25 (fun p _ wx => ∃ d : Int, p = .int .i64 d ∧ Hid (Below W0.heap.size W0 wx))
  case first =>
    by_cases hk : 0 < k1
    · have hki : (0 : Int) < k1 := by omega
      obtain ⟨z, hz⟩ : ∃ z, la[0]? = some z := ⟨_, List.getElem?_eq_getElem (by rw [← HK1.out]; exact hk)⟩
      have h1 := H.out.2.1.keep HX.out.2.2
      obtain ⟨_, _, _, h5, h6⟩ := h1.open
      obtain ⟨ad, had⟩ : ∃ ad, a1 = some ad := by
        cases a1 with
        | none => have := h5 rfl; omega
        | some ad => exact ⟨ad, rfl⟩
      subst had
      have d0 : W0.cell? ad = some (.int .i64 z) := by
        have h7 := h6 ad rfl 0 (.int .i64 z) (by rw [ints_get _ _ (by rw [← HK1.out]; exact hk), List.getD_eq_getElem?_getD, hz]; rfl)
        have had : ad.add 0 = ad := by simp [Addr.add]
        rwa [had] at h7
      clear h1 h5 h6 hz
      go_wp2_with fail
      refine (svMod _ 5 _ (by decide) (by decide)).mono ?_
      rintro e w3 ⟨rfl, hb3⟩
      have HB3 := Lib.hid hb3
      clear hb3
      go_wp2_with fail
      go_meet
      exact ⟨_, rfl, HB3⟩
    · have hki : ¬ (0 : Int) < k1 := by omega
      go_wp2_with fail
      go_meet
      exact ⟨0, rfl, Lib.hid (Below.refl _ _)⟩
  case rest =>
    obtain ⟨d, rfl, hB3⟩ := hcut
    obtain ⟨we, hwe⟩ : ∃ x : World, x = wc := ⟨_, rfl⟩
    subst hwe
    go_upto_region 6 with fail
    obtain ⟨K, hKe⟩ : ∃ K, K = simpN l := ⟨_, rfl⟩
    have hok := simpN_ok l
    have hcx0 := Fk.keep (k := .cx (simpN l)) HX.out.1 hB3.out
    have hid := ids_simpN l d
    rw [← hKe] at hok hcx0 hid
    obtain ⟨hK, hRw, hKl⟩ := hok
    have hbv : Bv we w2.heap.size (.slice ua m.length uc) := HX.out.2.1.keep hB3.out
    have hBwc : Below w.heap.size w we := HX.out.2.2.trans (hB3.out.mono HX.out.2.2.size)
    have hcx : ∀ w', Below we.heap.size we w' → (Fk.cx K).holds (.agg #[.slice ua m.length uc]) w' := fun w' h => Fk.keep (k := .cx K) hcx0 h
    have ha : ∀ w', Below we.heap.size we w' → Sl w' 1 (.slice a1 k1 c1) (ints la) := fun w' h => (H.out.2.1.keep hBwc).keep h
    have hb2 : ∀ w', Below we.heap.size we w' → Sl w' 2 (.slice a2 k2 c2) (pv lb) := fun w' h => (H.out.2.2.keep hBwc).keep h
    have hL2 : LOk 8 (lb.take 30) := lok8 r2
    have hl2 : (lb.take 30).length ≤ 180 := by simp; omega
    have HH := Lib.hid (And.intro hcx (And.intro hbv (And.intro ha (And.intro hb2 (And.intro hBwc (And.intro hRw hid))))))
    clear hcx hbv ha hb2 hBwc hcx0 hKe hRw hid
    go_cut [39, 40, 41] from 26 to 38 (fun p q r wx => ∃ (B : Nat) (vs : List Value), p = .slice (some ⟨B, 0, none⟩) 3 3 ∧ q = .int .i64 3 ∧ r = .int .i64 0 ∧ vs.length = 3 ∧ Hid (∀ i v, vs[i]? = some v → wx.cell? ⟨B, i, none⟩ = some v ∧ TS wx v) ∧ Hid (Below we.heap.size we wx))
    case first =>
      rename_i J K2 hJ hK2
      obtain ⟨hcx, hbv, ha, hb2, hBwc, _, _⟩ := HH.out
      refine region_IB rfl (by kernel_rfl) [some (.agg #[.slice ua m.length uc]), some (.int .i64 d), some (.slice a1 k1 c1), none, some (.slice a2 k2 c2), none, some (.agg #[.slice ua m.length uc]), some (.int .i64 d), some (.slice a1 k1 c1), none, some (.slice a2 k2 c2), none, none, none, some (.int .i64 3), some (.int .i64 0)] ?step ?done
      case step =>
        intro i o ho l' a w' hli hdp h
        have ht8 := h.base 8 (noDst_spec (by kernel_rfl))
        have ht9 := h.base 9 (noDst_spec (by kernel_rfl))
        have ht1 := h.base 1 (noDst_spec (by kernel_rfl))
        have ht2 := h.base 2 (noDst_spec (by kernel_rfl))
        match i, ho, hdp with
        | 0, ho, hdp =>
          obtain rfl := Option.some.inj ho
          exact ⟨rfl, do_load _ _ rfl _ ht8 _ (ldK (hbv.keep h.below)) (h.pure rfl 0 (by decide) (by decide) _ rfl rfl _ (fun y hy => Option.some.inj hy))⟩
        | 1, ho, hdp =>
          obtain rfl := Option.some.inj ho
          exact ⟨rfl, do_move _ (.inl rfl) (h.pure rfl 1 (by decide) (by decide) _ rfl rfl _ (fun y hy => ht9.trans (Option.some.inj hy)))⟩
        | 2, ho, hdp =>
          obtain rfl := Option.some.inj ho
          exact ⟨rfl, do_move _ (.inl rfl) (h.pure rfl 2 (by decide) (by decide) _ rfl rfl _ (fun y hy => ht1.trans (Option.some.inj hy)))⟩
        | 3, ho, hdp =>
          obtain rfl := Option.some.inj ho
          have n5 : l' 5 = false := by
            cases hc : l' 5 with
            | false => rfl
            | true => have hcc := h.cl.1 hc; rw [hli] at hcc; cases hcc
          have n9 : l' 9 = false := by
            cases hc : l' 9 with
            | false => rfl
            | true => have hcc := h.cl.2.1 hc; rw [n5] at hcc; cases hcc
          have n11 : l' 11 = false := by
            cases hc : l' 11 with
            | false => rfl
            | true => have hcc := h.cl.2.2.1 hc; rw [n9] at hcc; cases hcc
          have n12 : l' 12 = false := by
            cases hc : l' 12 with
            | false => rfl
            | true => have hcc := h.cl.2.2.2.1 hc; rw [n11] at hcc; cases hcc
          have n13 : l' 13 = false := by
            cases hc : l' 13 with
            | false => rfl
            | true => have hcc := h.cl.2.2.2.2 hc; rw [n12] at hcc; cases hcc
          have hcl : clo fun j => j == 3 || l' j := by unfold clo; simp [n5, n9, n11, n12, n13]
          have hs0 : stg l' = 0 := by unfold stg; simp [n5, n9, n11, n12, n13, hli]
          have hs1 : (stg fun j => j == 3 || l' j) = 1 := by unfold stg; simp [n5, n9, n11, n12, n13]
          have hst := h.st
          rw [hs0] at hst
          have f0 : a.tmps.getD 26 undef = _ := h.pv 0 _ (by decide) rfl (hdp 0 (by kernel_rfl))
          have f1 : a.tmps.getD 27 undef = _ := h.pv 1 _ (by decide) rfl (hdp 1 (by kernel_rfl))
          have f2 : a.tmps.getD 28 undef = _ := h.pv 2 _ (by decide) rfl (hdp 2 (by kernel_rfl))
          refine ⟨rfl, do_call _ _ _ rfl ef_ref07_Made #[.agg #[.slice ua m.length uc], .int .i64 d, .slice a1 k1 c1] (by simp [Act.eval, f0, f1, f2]) ((svMadeF _ _ K d la w'.heap.size w' (hcx _ h.below) (ha _ h.below) hK hKl (Nat.le_refl _)).mono fun e w'' ⟨r, L, he, hC, hl, hL, _, hR, hb⟩ => ⟨r, he, h.step rfl 3 (by decide) _ rfl rfl r w'' (h.below.trans (hb.mono h.below.size)) (fun y hy => by cases hy) hcl (by rw [hs1]; exact SB.s1 hL hl hR h.below.size)⟩)⟩
        | 4, ho, hdp =>
          obtain rfl := Option.some.inj ho
          exact ⟨rfl, do_move _ (.inl rfl) (h.pure rfl 4 (by decide) (by decide) _ rfl rfl _ (fun y hy => ht2.trans (Option.some.inj hy)))⟩
        | 5, ho, hdp =>
          obtain rfl := Option.some.inj ho
          have y3 : l' 3 = true := hdp 3 (by kernel_rfl)
          have n9 : l' 9 = false := by
            cases hc : l' 9 with
            | false => rfl
            | true => have hcc := h.cl.2.1 hc; rw [hli] at hcc; cases hcc
          have n11 : l' 11 = false := by
            cases hc : l' 11 with
            | false => rfl
            | true => have hcc := h.cl.2.2.1 hc; rw [n9] at hcc; cases hcc
          have n12 : l' 12 = false := by
            cases hc : l' 12 with
            | false => rfl
            | true => have hcc := h.cl.2.2.2.1 hc; rw [n11] at hcc; cases hcc
          have n13 : l' 13 = false := by
            cases hc : l' 13 with
            | false => rfl
            | true => have hcc := h.cl.2.2.2.2 hc; rw [n12] at hcc; cases hcc
          have hcl : clo fun j => j == 5 || l' j := by unfold clo; simp [y3, n9, n11, n12, n13]
          have hs0 : stg l' = 1 := by unfold stg; simp [y3, n9, n11, n12, n13, hli]
          have hs1 : (stg fun j => j == 5 || l' j) = 2 := by unfold stg; simp [n9, n11, n12, n13]
          have hst := h.st
          rw [hs0] at hst
          have f4 : a.tmps.getD 30 undef = _ := h.pv 4 _ (by decide) rfl (hdp 4 (by kernel_rfl))
          refine ⟨rfl, do_call _ _ _ rfl ef_ref07_Terms #[.slice a2 k2 c2] (by simp [Act.eval, f4]) ((svTermsF _ lb w'.heap.size w' (hb2 _ h.below) r2 (Nat.le_refl _)).mono fun e w'' ⟨r, he, ⟨_, hR⟩, hb⟩ => ⟨r, he, h.step rfl 5 (by decide) _ rfl rfl r w'' (h.below.trans (hb.mono h.below.size)) (fun y hy => by cases hy) hcl (by rw [hs1]; exact hst.s2 hb hL2 hl2 hR h.below.size)⟩)⟩
        | 6, ho, hdp =>
          obtain rfl := Option.some.inj ho
          exact ⟨rfl, do_load _ _ rfl _ ht8 _ (ldK (hbv.keep h.below)) (h.pure rfl 6 (by decide) (by decide) _ rfl rfl _ (fun y hy => Option.some.inj hy))⟩
        | 7, ho, hdp =>
          obtain rfl := Option.some.inj ho
          exact ⟨rfl, do_move _ (.inl rfl) (h.pure rfl 7 (by decide) (by decide) _ rfl rfl _ (fun y hy => ht9.trans (Option.some.inj hy)))⟩
        | 8, ho, hdp =>
          obtain rfl := Option.some.inj ho
          exact ⟨rfl, do_move _ (.inl rfl) (h.pure rfl 8 (by decide) (by decide) _ rfl rfl _ (fun y hy => ht1.trans (Option.some.inj hy)))⟩
        | 9, ho, hdp =>
          obtain rfl := Option.some.inj ho
          have y5 : l' 5 = true := hdp 5 (by kernel_rfl)
          have y3 : l' 3 = true := h.cl.1 y5
          have n11 : l' 11 = false := by
            cases hc : l' 11 with
            | false => rfl
            | true => have hcc := h.cl.2.2.1 hc; rw [hli] at hcc; cases hcc
          have n12 : l' 12 = false := by
            cases hc : l' 12 with
            | false => rfl
            | true => have hcc := h.cl.2.2.2.1 hc; rw [n11] at hcc; cases hcc
          have n13 : l' 13 = false := by
            cases hc : l' 13 with
            | false => rfl
            | true => have hcc := h.cl.2.2.2.2 hc; rw [n12] at hcc; cases hcc
          have hcl : clo fun j => j == 9 || l' j := by unfold clo; simp [y3, y5, n11, n12, n13]
          have hs0 : stg l' = 2 := by unfold stg; simp [y5, n11, n12, n13, hli]
          have hs1 : (stg fun j => j == 9 || l' j) = 3 := by unfold stg; simp [n11, n12, n13]
          have hst := h.st
          rw [hs0] at hst
          have f6 : a.tmps.getD 32 undef = _ := h.pv 6 _ (by decide) rfl (hdp 6 (by kernel_rfl))
          have f7 : a.tmps.getD 33 undef = _ := h.pv 7 _ (by decide) rfl (hdp 7 (by kernel_rfl))
          have f8 : a.tmps.getD 34 undef = _ := h.pv 8 _ (by decide) rfl (hdp 8 (by kernel_rfl))
          refine ⟨rfl, do_call _ _ _ rfl ef_ref07_Made #[.agg #[.slice ua m.length uc], .int .i64 d, .slice a1 k1 c1] (by simp [Act.eval, f6, f7, f8]) ((svMadeF _ _ K d la w'.heap.size w' (hcx _ h.below) (ha _ h.below) hK hKl (Nat.le_refl _)).mono fun e w'' ⟨r, L, he, hC, hl, hL, _, hR, hb⟩ => ⟨r, he, h.step rfl 9 (by decide) _ rfl rfl r w'' (h.below.trans (hb.mono h.below.size)) (fun y hy => by cases hy) hcl (by rw [hs1]; exact hst.s3 hb hL hl hR h.below.size)⟩)⟩
        | 10, ho, hdp =>
          obtain rfl := Option.some.inj ho
          exact ⟨rfl, do_move _ (.inl rfl) (h.pure rfl 10 (by decide) (by decide) _ rfl rfl _ (fun y hy => ht2.trans (Option.some.inj hy)))⟩
        | 11, ho, hdp =>
          obtain rfl := Option.some.inj ho
          have y9 : l' 9 = true := hdp 9 (by kernel_rfl)
          have y5 : l' 5 = true := h.cl.2.1 y9
          have y3 : l' 3 = true := h.cl.1 y5
          have n12 : l' 12 = false := by
            cases hc : l' 12 with
            | false => rfl
            | true => have hcc := h.cl.2.2.2.1 hc; rw [hli] at hcc; cases hcc
          have n13 : l' 13 = false := by
            cases hc : l' 13 with
            | false => rfl
            | true => have hcc := h.cl.2.2.2.2 hc; rw [n12] at hcc; cases hcc
          have hcl : clo fun j => j == 11 || l' j := by unfold clo; simp [y3, y5, y9, n12, n13]
          have hs0 : stg l' = 3 := by unfold stg; simp [y9, n12, n13, hli]
          have hs1 : (stg fun j => j == 11 || l' j) = 4 := by unfold stg; simp [n12, n13]
          have hst := h.st
          rw [hs0] at hst
          have f10 : a.tmps.getD 36 undef = _ := h.pv 10 _ (by decide) rfl (hdp 10 (by kernel_rfl))
          refine ⟨rfl, do_call _ _ _ rfl ef_ref07_Terms #[.slice a2 k2 c2] (by simp [Act.eval, f10]) ((svTermsF _ lb w'.heap.size w' (hb2 _ h.below) r2 (Nat.le_refl _)).mono fun e w'' ⟨r, he, ⟨_, hR⟩, hb⟩ => ⟨r, he, h.step rfl 11 (by decide) _ rfl rfl r w'' (h.below.trans (hb.mono h.below.size)) (fun y hy => by cases hy) hcl (by rw [hs1]; exact hst.s4 hb hL2 hl2 hR h.below.size)⟩)⟩
        | 12, ho, hdp =>
          obtain rfl := Option.some.inj ho
          have y11 : l' 11 = true := hdp 11 (by kernel_rfl)
          have y9 : l' 9 = true := h.cl.2.2.1 y11
          have y5 : l' 5 = true := h.cl.2.1 y9
          have y3 : l' 3 = true := h.cl.1 y5
          have n13 : l' 13 = false := by
            cases hc : l' 13 with
            | false => rfl
            | true => have hcc := h.cl.2.2.2.2 hc; rw [hli] at hcc; cases hcc
          have hcl : clo fun j => j == 12 || l' j := by unfold clo; simp [y3, y5, y9, y11, n13]
          have hs0 : stg l' = 4 := by unfold stg; simp [y11, n13, hli]
          have hs1 : (stg fun j => j == 12 || l' j) = 5 := by unfold stg; simp [n13]
          have hst := h.st
          rw [hs0] at hst
          obtain ⟨⟨LA, qA, lA, hA⟩, _⟩ := hst.r35 (by decide) (by decide)
          obtain ⟨⟨LB, qB, lB, hB⟩, _⟩ := hst.r37 rfl
          refine ⟨rfl, do_append2 (.tmp 35) (.tmp 37) 30 rfl we.heap.size 63 Tryz.infoTerm Tryz.underlying30 rfl (by decide) (by decide) _ LA.length (tv (ctm LA)) rfl hA _ LB.length (tv (ctm LB)) rfl (Sl.of_ownsRow hB) (by rw [tv_len, ctm_len]) (tv_one _) (by omega) h.below.size (fun u w'' r1 rg r3 => h.step rfl 12 (by decide) _ rfl rfl u w'' (h.below.trans r3) (fun y hy => by cases hy) hcl (by rw [hs1]; exact hst.s5 rg (ts_app r1 qA qB lA lB)))⟩
        | 13, ho, hdp =>
          obtain rfl := Option.some.inj ho
          have y12 : l' 12 = true := hdp 12 (by kernel_rfl)
          have y11 : l' 11 = true := h.cl.2.2.2.1 y12
          have y9 : l' 9 = true := h.cl.2.2.1 y11
          have y5 : l' 5 = true := h.cl.2.1 y9
          have y3 : l' 3 = true := h.cl.1 y5
          have hcl : clo fun j => j == 13 || l' j := by unfold clo; simp [y3, y5, y9, y11, y12]
          have hs0 : stg l' = 5 := by unfold stg; simp [y12, hli]
          have hs1 : (stg fun j => j == 13 || l' j) = 6 := by unfold stg; simp
          have hst := h.st
          rw [hs0] at hst
          have hsh := build3 w' (a.tmps.getD 29 undef) (a.tmps.getD 31 undef) (a.tmps.getD 38 undef) (hst.r29 (by decide)).ts.shape (hst.r31 (by decide)).ts.shape (hst.r38 (by decide)).shape
          exact ⟨rfl, do_slice 33 3 _ rfl #[(0, a.tmps.getD 29 undef), (1, a.tmps.getD 31 undef), (2, a.tmps.getD 38 undef)] (by simp [Act.eval]) _ _ hsh (h.step rfl 13 (by decide) _ rfl rfl _ _ (h.below.alloc h.below.size _) (fun y hy => by cases hy) hcl (by rw [hs1]; exact hst.s6 _))⟩
        | 14, ho, hdp =>
          obtain rfl := Option.some.inj ho
          have y13 : l' 13 = true := hdp 13 (by kernel_rfl)
          have hst := h.st
          rw [show stg l' = 6 by unfold stg; simp [y13]] at hst
          obtain ⟨B, hBe, _⟩ := hst.r39 (by decide)
          exact ⟨rfl, do_len _ rfl Tryz.underlying33 _ 3 3 hBe (h.pure rfl 14 (by decide) (by decide) _ rfl rfl _ (fun y hy => Option.some.inj hy))⟩
        | 15, ho, hdp =>
          obtain rfl := Option.some.inj ho
          exact ⟨rfl, do_move _ (.inl rfl) (h.pure rfl 15 (by decide) (by decide) _ rfl rfl _ (fun y hy => Option.some.inj hy))⟩
        | i + 16, ho, hdp =>
          have : i + 16 < 16 := (Array.getElem?_eq_some_iff.1 ho).1
          omega
      case done =>
        intro l' a w7 hall h
        have hst := h.st
        rw [show stg l' = 6 by unfold stg; simp [show l' 13 = true from hall 13 (by decide)]] at hst
        obtain ⟨B, hb1, c0, c1, c2⟩ := hst.r39 (by decide)
        have hb4 : a.tmps.getD 40 undef = .int .i64 3 := h.pv 14 _ (by decide) rfl (hall 14 (by decide))
        have hb5 : a.tmps.getD 41 undef = .int .i64 0 := h.pv 15 _ (by decide) rfl (hall 15 (by decide))
        have hvs : ∀ i v, ([a.tmps.getD 29 undef, a.tmps.getD 31 undef, a.tmps.getD 38 undef] : List Value)[i]? = some v → w7.cell? ⟨B, i, none⟩ = some v ∧ TS w7 v := fun i v hv => by
          match i, hv with
          | 0, hv => obtain rfl := Option.some.inj hv; exact ⟨c0, (hst.r29 (by decide)).ts⟩
          | 1, hv => obtain rfl := Option.some.inj hv; exact ⟨c1, (hst.r31 (by decide)).ts⟩
          | 2, hv => obtain rfl := Option.some.inj hv; exact ⟨c2, hst.r38 (by decide)⟩
          | i + 3, hv => simp at hv
        refine hK2 _ _ (Met.intro (hJ _ _ ⟨a.tmps.getD 26 undef, a.tmps.getD 27 undef, a.tmps.getD 28 undef, a.tmps.getD 29 undef, a.tmps.getD 30 undef, a.tmps.getD 31 undef, a.tmps.getD 32 undef, a.tmps.getD 33 undef, a.tmps.getD 34 undef, a.tmps.getD 35 undef, a.tmps.getD 36 undef, a.tmps.getD 37 undef, a.tmps.getD 38 undef, a.tmps.getD 39 undef, a.tmps.getD 40 undef, a.tmps.getD 41 undef, ⟨B, _, hb1, hb4, hb5, rfl, Lib.hid hvs, Lib.hid h.below⟩, (act_lit (h.sz.trans rfl) h.df h.base).trans ?_⟩))
        kernel_rfl
    case rest =>
      obtain ⟨B, vs, rfl, rfl, rfl, hvl, hRW, hB7⟩ := hcut
      obtain ⟨hcx, hbv, _, _, hBwe, hRw, hid⟩ := HH.out
      obtain ⟨wq, hwq⟩ : ∃ x : World, x = wc := ⟨_, rfl⟩
      subst hwq
      have hcq : ∀ w', Below wq.heap.size wq w' → (Fk.cx K).holds (.agg #[.slice ua m.length uc]) w' := fun w' h => Fk.keep (k := .cx K) (hcx _ hB7.out) h
      have hbq : Bv wq w2.heap.size (.slice ua m.length uc) := hbv.keep hB7.out
      have hBq : Below w.heap.size w wq := hBwe.trans (hB7.out.mono hBwe.size)
      have HQ := Lib.hid (And.intro hcq (And.intro hbq (And.intro hBq (And.intro hRw hid))))
      clear hcx hbv hBwe hRw hid hcq hbq hBq
      go_wp2_with fail
      go_loopw [41] (fun i wr => ∃ j : Nat, i = .int .i64 j ∧ j ≤ 3 ∧ Below wq.heap.size wq wr) (fun i _ => 3 - (vI i).toNat)
      case atStart => exact ⟨0, rfl, by decide, Below.refl _ _⟩
      case round =>
        obtain ⟨j, rfl, hj, hB⟩ := hrel
        have hBw : Below w.heap.size w wr := HQ.out.2.2.1.trans (hB.mono HQ.out.2.2.1.size)
        by_cases hlt : j < 3
        · obtain ⟨v, hv⟩ : ∃ v, vs[j]? = some v := ⟨_, List.getElem?_eq_getElem (by rw [hvl]; exact hlt)⟩
          have hcell : wr.cell? ⟨B, j, none⟩ = some v := Cx.keep hB (hRW.out j v hv).1
          obtain ⟨L, qL, lL, sL⟩ := (hRW.out j v hv).2
          obtain ⟨xa, xn, xc, hve⟩ := sl_shape sL
          subst hve
          have hji : (j : Int) < 3 := by omega
          obtain ⟨q, hq⟩ : ∃ q : Bool, q = true ↔ InK K d (ctm L) := by
            rcases Classical.em (InK K d (ctm L)) with h | h
            · exact ⟨true, iff_of_true rfl h⟩
            · exact ⟨false, iff_of_false Bool.false_ne_true h⟩
          have lc : (ctm L).length ≤ 360 := by rw [ctm_len]; exact lL
          have HL := Lib.hid (And.intro qL (And.intro lc (And.intro sL hq)))
          clear hv qL lL lc sL hq
          have c7 : wr.cell? ⟨w2.heap.size, 0, none⟩ = some (.slice ua m.length uc) := Cx.keep hB HQ.out.2.1.1
          obtain ⟨wo, hwo⟩ : ∃ x : World, x = wr := ⟨_, rfl⟩
          subst hwo
          go_wp2_with fail
          refine (tChVec _ _ K (ctm L) d q 8 _ (HQ.out.1 _ hB) (HL.out.2.2.1.keep hB) hK HL.out.1.tok (by have := HL.out.2.1; omega) (by omega) HL.out.2.2.2).mono ?_
          rintro e w8 ⟨rv, rfl, hrv, hb8⟩
          have hB8 : Below wq.heap.size wq w8 := hB.trans (hb8.mono hB.size)
          have HV := Lib.hid (And.intro hrv (And.intro hb8 hB8))
          have c8 : w8.cell? ⟨w2.heap.size, 0, none⟩ = some (.slice ua m.length uc) := Cx.keep hB8 HQ.out.2.1.1
          clear hrv hb8 hB8 hcell c7
          go_wp2_with fail
          refine (tSvVec _ _ K (ctm L) d q 8 _ (HQ.out.1 _ HV.out.2.2) (HL.out.2.2.1.keep HV.out.2.2) hK HL.out.1.tok (by have := HL.out.2.1; omega) (by omega) HL.out.2.2.2 HQ.out.2.2.2.2).mono ?_
          rintro e w9 ⟨rw, rfl, hrw, hb9⟩
          have HW := Lib.hid (And.intro hrw (And.intro hb9 (HV.out.2.2.trans (hb9.mono HV.out.2.2.size))))
          clear hrw hb9 c8
          go_upto_region 11 with fail
          go_cut [98] from 59 to 97 (fun p wx => p = .bool false ∧ Hid (Below w9.heap.size w9 wx))
          case first =>
            rename_i J K2 hJ hK2
            have hB9 := HW.out.2.2
            have hkc : ∀ w', Below w9.heap.size w9 w' → (Fk.cx K).holds (.agg #[.slice ua m.length uc]) w' := fun w' h => Fk.keep (k := .cx K) (HQ.out.1 _ hB9) h
            have hk0 := hkc w9 (Below.refl _ _)
            have hbv := HQ.out.2.1.keep hB9
            have hvx : ∀ w', Below w9.heap.size w9 w' → Sl w' 3 (.slice xa xn xc) (tv (ctm L)) := fun w' h => (HL.out.2.2.1.keep hB9).keep h
            have hvv : ∀ w', Below w9.heap.size w9 w' → (Fk.wd (vecK K d (ctm L) q)).holds rv w' := fun w' h => (HV.out.1.keep HW.out.2.1).keep h
            have hvw : ∀ w', Below w9.heap.size w9 w' → (Fk.wd (vecK K d (ctm L) q)).holds rw w' := fun w' h => HW.out.1.keep h
            have hR := HQ.out.2.2.2.1
            have qt := HL.out.1.tok
            have lc := HL.out.2.1
            have hq := HL.out.2.2.2
            obtain ⟨N1, hN1⟩ : ∃ N, (ctm L).length = N := ⟨_, rfl⟩
            rw [hN1] at lc
            have hbn : ∀ x ∈ vecK K d (ctm L) q, nb x ≤ 1000 := fun x hx => by
              unfold vecK at hx
              split at hx
              · obtain ⟨c, _, rfl⟩ := List.mem_map.1 hx
                have := tok_nb qt c
                omega
              · cases hx
            obtain ⟨G, hG⟩ : ∃ g : Int → Int, ∀ c, co (bdL (co (prs (ctm L))) (rawsK K)) c = g c := ⟨_, fun _ => rfl⟩
            obtain ⟨G2, hG2⟩ : ∃ g : Int → Int, ∀ c, co (cbL (co (prs (ctm L))) (rawsK K)) c = g c := ⟨_, fun _ => rfl⟩
            refine region_facts rfl (fun i v w => (([.cx K, .val (.slice xa xn xc), .cf G 720 1200, .cx K, .val (.slice xa xn xc), .cf G 720 1200, .tt, .val (.bool false), .val (.bool false), .cx K, .val (.slice xa xn xc), .cf G2 720 1200, .cx K, .val (.slice xa xn xc), .cf G2 720 1200, .tt, .val (.bool false), .val (.bool false), .val (.bool false), .cx K, .val (.int .i64 d), .val (.slice xa xn xc), .val (.bool q), .cx K, .val (.int .i64 d), .val (.slice xa xn xc), .val (.bool q), .val (.bool false), .val (.bool false), .val (.bool false), .val (.bool q), .val (.bool q), .val (.bool false), .val (.bool false), .val (.bool false), .val rv, .val rw, .tt, .val (.bool false), .val (.bool false)] : List Fk).getD i .any).holds v w) 101 rfl (by kernel_rfl) (by kernel_rfl) ?hF ?step ?done
            case hF => exact fun i v w w' h hb => Fk.keep h hb
            case step =>
              intro i o ho a w' hw hd hbase hsz
              have ht11 : (.slice xa xn xc : Value) = .slice xa xn xc := rfl
              have ht9 : (.int .i64 d : Value) = .int .i64 d := rfl
              have ht13 : (.bool q : Value) = .bool q := rfl
              have ht15 : (.bool q : Value) = .bool q := rfl
              have ht12 : (rv : Value) = rv := rfl
              have ht14 : (rw : Value) = rw := rfl
              have hp8 : (.pointer (some ⟨w2.heap.size, 0, none⟩) : Value) = .pointer (some ⟨w2.heap.size, 0, none⟩) := rfl
              match i, ho, hd with
              | 0, ho, hd =>
                obtain rfl := Option.some.inj ho
                exact ⟨rfl, stp_load _ _ rfl _ ((hbase 8 (noDst_spec (by kernel_rfl))).trans hp8) _ (ldK (hbv.keep hw)) (Fk.keep (k := .cx K) hk0 hw)⟩
              | 1, ho, hd =>
                obtain rfl := Option.some.inj ho
                exact ⟨rfl, stp_move _ (.inl rfl) ((hbase 11 (noDst_spec (by kernel_rfl))).trans ht11)⟩
              | 2, ho, hd =>
                obtain rfl := Option.some.inj ho
                have f0 : (Fk.cx K).holds (a.tmps.getD 59 undef) w' := hd 0 _ _ rfl rfl (by kernel_rfl)
                have f1 : (Fk.val (.slice xa xn xc)).holds (a.tmps.getD 60 undef) w' := hd 1 _ _ rfl rfl (by kernel_rfl)
                exact ⟨rfl, stp_call _ _ _ rfl ef_chains_Boundary #[a.tmps.getD 59 undef, (.slice xa xn xc)] (by simp [Act.eval, show a.tmps.getD 60 undef = (.slice xa xn xc) from f1]) (tBd _ _ K (ctm L) G N1 8 720 1200 _ f0 (hvx _ hw) hK qt hN1 hR (by omega) (by omega) hG)⟩
              | 3, ho, hd =>
                obtain rfl := Option.some.inj ho
                exact ⟨rfl, stp_load _ _ rfl _ ((hbase 8 (noDst_spec (by kernel_rfl))).trans hp8) _ (ldK (hbv.keep hw)) (Fk.keep (k := .cx K) hk0 hw)⟩
              | 4, ho, hd =>
                obtain rfl := Option.some.inj ho
                exact ⟨rfl, stp_move _ (.inl rfl) ((hbase 11 (noDst_spec (by kernel_rfl))).trans ht11)⟩
              | 5, ho, hd =>
                obtain rfl := Option.some.inj ho
                have f0 : (Fk.cx K).holds (a.tmps.getD 62 undef) w' := hd 3 _ _ rfl rfl (by kernel_rfl)
                have f1 : (Fk.val (.slice xa xn xc)).holds (a.tmps.getD 63 undef) w' := hd 4 _ _ rfl rfl (by kernel_rfl)
                exact ⟨rfl, stp_call _ _ _ rfl ef_ref07_Boundary #[a.tmps.getD 62 undef, (.slice xa xn xc)] (by simp [Act.eval, show a.tmps.getD 63 undef = (.slice xa xn xc) from f1]) (tSvBd _ _ K (ctm L) G N1 8 720 1200 _ f0 (hvx _ hw) hK qt hN1 hR (by omega) (by omega) hG)⟩
              | 6, ho, hd =>
                obtain rfl := Option.some.inj ho
                have f0 : (Fk.cf G 720 1200).holds (a.tmps.getD 61 undef) w' := hd 2 _ _ rfl rfl (by kernel_rfl)
                have f1 : (Fk.cf G 720 1200).holds (a.tmps.getD 64 undef) w' := hd 5 _ _ rfl rfl (by kernel_rfl)
                exact ⟨rfl, stp_call _ _ _ rfl ef_ref07_Same #[a.tmps.getD 61 undef, a.tmps.getD 64 undef] (by simp [Act.eval]) (svSameF _ _ _ _ _ _ _ _ f0 f1)⟩
              | 7, ho, hd =>
                obtain rfl := Option.some.inj ho
                have f0 : (Fk.tt).holds (a.tmps.getD 65 undef) w' := hd 6 _ _ rfl rfl (by kernel_rfl)
                exact ⟨rfl, stp_not _ _ true rfl f0 rfl⟩
              | 8, ho, hd =>
                obtain rfl := Option.some.inj ho
                have f0 : (Fk.val (.bool false)).holds (a.tmps.getD 66 undef) w' := hd 7 _ _ rfl rfl (by kernel_rfl)
                exact ⟨rfl, stp_move _ (.inl rfl) f0⟩
              | 9, ho, hd =>
                obtain rfl := Option.some.inj ho
                have fg : (Fk.val (.bool false)).holds (a.tmps.getD 67 undef) w' := hd 8 _ _ rfl rfl (by kernel_rfl)
                exact ⟨wanted_ff 8 67 rfl rfl (by rw [hsz]; decide) fg, stp_load _ _ rfl _ ((hbase 8 (noDst_spec (by kernel_rfl))).trans hp8) _ (ldK (hbv.keep hw)) (Fk.keep (k := .cx K) hk0 hw)⟩
              | 10, ho, hd =>
                obtain rfl := Option.some.inj ho
                have fg : (Fk.val (.bool false)).holds (a.tmps.getD 67 undef) w' := hd 8 _ _ rfl rfl (by kernel_rfl)
                exact ⟨wanted_ff 8 67 rfl rfl (by rw [hsz]; decide) fg, stp_move _ (.inl rfl) ((hbase 11 (noDst_spec (by kernel_rfl))).trans ht11)⟩
              | 11, ho, hd =>
                obtain rfl := Option.some.inj ho
                have f0 : (Fk.cx K).holds (a.tmps.getD 68 undef) w' := hd 9 _ _ rfl rfl (by kernel_rfl)
                have f1 : (Fk.val (.slice xa xn xc)).holds (a.tmps.getD 69 undef) w' := hd 10 _ _ rfl rfl (by kernel_rfl)
                have fg : (Fk.val (.bool false)).holds (a.tmps.getD 67 undef) w' := hd 8 _ _ rfl rfl (by kernel_rfl)
                exact ⟨wanted_ff 8 67 rfl rfl (by rw [hsz]; decide) fg, stp_call _ _ _ rfl ef_chains_Coboundary #[a.tmps.getD 68 undef, (.slice xa xn xc)] (by simp [Act.eval, show a.tmps.getD 69 undef = (.slice xa xn xc) from f1]) (tCb _ _ K (ctm L) G2 N1 8 720 1200 _ f0 (hvx _ hw) hK qt hN1 hR (by omega) (by omega) hG2)⟩
              | 12, ho, hd =>
                obtain rfl := Option.some.inj ho
                have fg : (Fk.val (.bool false)).holds (a.tmps.getD 67 undef) w' := hd 8 _ _ rfl rfl (by kernel_rfl)
                exact ⟨wanted_ff 8 67 rfl rfl (by rw [hsz]; decide) fg, stp_load _ _ rfl _ ((hbase 8 (noDst_spec (by kernel_rfl))).trans hp8) _ (ldK (hbv.keep hw)) (Fk.keep (k := .cx K) hk0 hw)⟩
              | 13, ho, hd =>
                obtain rfl := Option.some.inj ho
                have fg : (Fk.val (.bool false)).holds (a.tmps.getD 67 undef) w' := hd 8 _ _ rfl rfl (by kernel_rfl)
                exact ⟨wanted_ff 8 67 rfl rfl (by rw [hsz]; decide) fg, stp_move _ (.inl rfl) ((hbase 11 (noDst_spec (by kernel_rfl))).trans ht11)⟩
              | 14, ho, hd =>
                obtain rfl := Option.some.inj ho
                have f0 : (Fk.cx K).holds (a.tmps.getD 71 undef) w' := hd 12 _ _ rfl rfl (by kernel_rfl)
                have f1 : (Fk.val (.slice xa xn xc)).holds (a.tmps.getD 72 undef) w' := hd 13 _ _ rfl rfl (by kernel_rfl)
                have fg : (Fk.val (.bool false)).holds (a.tmps.getD 67 undef) w' := hd 8 _ _ rfl rfl (by kernel_rfl)
                exact ⟨wanted_ff 8 67 rfl rfl (by rw [hsz]; decide) fg, stp_call _ _ _ rfl ef_ref07_Coboundary #[a.tmps.getD 71 undef, (.slice xa xn xc)] (by simp [Act.eval, show a.tmps.getD 72 undef = (.slice xa xn xc) from f1]) (tSvCb _ _ K (ctm L) G2 N1 8 720 1200 _ f0 (hvx _ hw) hK qt hN1 hR (by omega) (by omega) hG2)⟩
              | 15, ho, hd =>
                obtain rfl := Option.some.inj ho
                have f0 : (Fk.cf G2 720 1200).holds (a.tmps.getD 70 undef) w' := hd 11 _ _ rfl rfl (by kernel_rfl)
                have f1 : (Fk.cf G2 720 1200).holds (a.tmps.getD 73 undef) w' := hd 14 _ _ rfl rfl (by kernel_rfl)
                have fg : (Fk.val (.bool false)).holds (a.tmps.getD 67 undef) w' := hd 8 _ _ rfl rfl (by kernel_rfl)
                exact ⟨wanted_ff 8 67 rfl rfl (by rw [hsz]; decide) fg, stp_call _ _ _ rfl ef_ref07_Same #[a.tmps.getD 70 undef, a.tmps.getD 73 undef] (by simp [Act.eval]) (svSameF _ _ _ _ _ _ _ _ f0 f1)⟩
              | 16, ho, hd =>
                obtain rfl := Option.some.inj ho
                have f0 : (Fk.tt).holds (a.tmps.getD 74 undef) w' := hd 15 _ _ rfl rfl (by kernel_rfl)
                have fg : (Fk.val (.bool false)).holds (a.tmps.getD 67 undef) w' := hd 8 _ _ rfl rfl (by kernel_rfl)
                exact ⟨wanted_ff 8 67 rfl rfl (by rw [hsz]; decide) fg, stp_not _ _ true rfl f0 rfl⟩
              | 17, ho, hd =>
                obtain rfl := Option.some.inj ho
                have f0 : (Fk.val (.bool false)).holds (a.tmps.getD 67 undef) w' := hd 8 _ _ rfl rfl (by kernel_rfl)
                have f1 : (Fk.val (.bool false)).holds (a.tmps.getD 75 undef) w' := hd 16 _ _ rfl rfl (by kernel_rfl)
                exact ⟨rfl, stp_pickf _ _ _ rfl f0 f1⟩
              | 18, ho, hd =>
                obtain rfl := Option.some.inj ho
                have f0 : (Fk.val (.bool false)).holds (a.tmps.getD 76 undef) w' := hd 17 _ _ rfl rfl (by kernel_rfl)
                exact ⟨rfl, stp_move _ (.inl rfl) f0⟩
              | 19, ho, hd =>
                obtain rfl := Option.some.inj ho
                have fg : (Fk.val (.bool false)).holds (a.tmps.getD 77 undef) w' := hd 18 _ _ rfl rfl (by kernel_rfl)
                exact ⟨wanted_ff 18 77 rfl rfl (by rw [hsz]; decide) fg, stp_load _ _ rfl _ ((hbase 8 (noDst_spec (by kernel_rfl))).trans hp8) _ (ldK (hbv.keep hw)) (Fk.keep (k := .cx K) hk0 hw)⟩
              | 20, ho, hd =>
                obtain rfl := Option.some.inj ho
                have fg : (Fk.val (.bool false)).holds (a.tmps.getD 77 undef) w' := hd 18 _ _ rfl rfl (by kernel_rfl)
                exact ⟨wanted_ff 18 77 rfl rfl (by rw [hsz]; decide) fg, stp_move _ (.inl rfl) ((hbase 9 (noDst_spec (by kernel_rfl))).trans ht9)⟩
              | 21, ho, hd =>
                obtain rfl := Option.some.inj ho
                have fg : (Fk.val (.bool false)).holds (a.tmps.getD 77 undef) w' := hd 18 _ _ rfl rfl (by kernel_rfl)
                exact ⟨wanted_ff 18 77 rfl rfl (by rw [hsz]; decide) fg, stp_move _ (.inl rfl) ((hbase 11 (noDst_spec (by kernel_rfl))).trans ht11)⟩
              | 22, ho, hd =>
                obtain rfl := Option.some.inj ho
                have f0 : (Fk.cx K).holds (a.tmps.getD 78 undef) w' := hd 19 _ _ rfl rfl (by kernel_rfl)
                have f1 : (Fk.val (.int .i64 d)).holds (a.tmps.getD 79 undef) w' := hd 20 _ _ rfl rfl (by kernel_rfl)
                have f2 : (Fk.val (.slice xa xn xc)).holds (a.tmps.getD 80 undef) w' := hd 21 _ _ rfl rfl (by kernel_rfl)
                have fg : (Fk.val (.bool false)).holds (a.tmps.getD 77 undef) w' := hd 18 _ _ rfl rfl (by kernel_rfl)
                exact ⟨wanted_ff 18 77 rfl rfl (by rw [hsz]; decide) fg, stp_call _ _ _ rfl ef_chains_In #[a.tmps.getD 78 undef, (.int .i64 d), (.slice xa xn xc)] (by simp [Act.eval, show a.tmps.getD 79 undef = (.int .i64 d) from f1, show a.tmps.getD 80 undef = (.slice xa xn xc) from f2]) (tChIn _ _ K (ctm L) d q 8 _ f0 (hvx _ hw) hK qt (by omega) (by omega) hq)⟩
              | 23, ho, hd =>
                obtain rfl := Option.some.inj ho
                have fg : (Fk.val (.bool false)).holds (a.tmps.getD 77 undef) w' := hd 18 _ _ rfl rfl (by kernel_rfl)
                exact ⟨wanted_ff 18 77 rfl rfl (by rw [hsz]; decide) fg, stp_load _ _ rfl _ ((hbase 8 (noDst_spec (by kernel_rfl))).trans hp8) _ (ldK (hbv.keep hw)) (Fk.keep (k := .cx K) hk0 hw)⟩
              | 24, ho, hd =>
                obtain rfl := Option.some.inj ho
                have fg : (Fk.val (.bool false)).holds (a.tmps.getD 77 undef) w' := hd 18 _ _ rfl rfl (by kernel_rfl)
                exact ⟨wanted_ff 18 77 rfl rfl (by rw [hsz]; decide) fg, stp_move _ (.inl rfl) ((hbase 9 (noDst_spec (by kernel_rfl))).trans ht9)⟩
              | 25, ho, hd =>
                obtain rfl := Option.some.inj ho
                have fg : (Fk.val (.bool false)).holds (a.tmps.getD 77 undef) w' := hd 18 _ _ rfl rfl (by kernel_rfl)
                exact ⟨wanted_ff 18 77 rfl rfl (by rw [hsz]; decide) fg, stp_move _ (.inl rfl) ((hbase 11 (noDst_spec (by kernel_rfl))).trans ht11)⟩
              | 26, ho, hd =>
                obtain rfl := Option.some.inj ho
                have f0 : (Fk.cx K).holds (a.tmps.getD 82 undef) w' := hd 23 _ _ rfl rfl (by kernel_rfl)
                have f1 : (Fk.val (.int .i64 d)).holds (a.tmps.getD 83 undef) w' := hd 24 _ _ rfl rfl (by kernel_rfl)
                have f2 : (Fk.val (.slice xa xn xc)).holds (a.tmps.getD 84 undef) w' := hd 25 _ _ rfl rfl (by kernel_rfl)
                have fg : (Fk.val (.bool false)).holds (a.tmps.getD 77 undef) w' := hd 18 _ _ rfl rfl (by kernel_rfl)
                exact ⟨wanted_ff 18 77 rfl rfl (by rw [hsz]; decide) fg, stp_call _ _ _ rfl ef_ref07_In #[a.tmps.getD 82 undef, (.int .i64 d), (.slice xa xn xc)] (by simp [Act.eval, show a.tmps.getD 83 undef = (.int .i64 d) from f1, show a.tmps.getD 84 undef = (.slice xa xn xc) from f2]) (tSvIn _ _ K (ctm L) d q 8 _ f0 (hvx _ hw) qt (by omega) hq)⟩
              | 27, ho, hd =>
                obtain rfl := Option.some.inj ho
                have f0 : (Fk.val (.bool q)).holds (a.tmps.getD 81 undef) w' := hd 22 _ _ rfl rfl (by kernel_rfl)
                have f1 : (Fk.val (.bool q)).holds (a.tmps.getD 85 undef) w' := hd 26 _ _ rfl rfl (by kernel_rfl)
                have fg : (Fk.val (.bool false)).holds (a.tmps.getD 77 undef) w' := hd 18 _ _ rfl rfl (by kernel_rfl)
                exact ⟨wanted_ff 18 77 rfl rfl (by rw [hsz]; decide) fg, stp_bin _ _ _ _ _ rfl _ _ f0 f1 _ (egNB _ _ _ _) (neB _ _) rfl⟩
              | 28, ho, hd =>
                obtain rfl := Option.some.inj ho
                have f0 : (Fk.val (.bool false)).holds (a.tmps.getD 77 undef) w' := hd 18 _ _ rfl rfl (by kernel_rfl)
                have f1 : (Fk.val (.bool false)).holds (a.tmps.getD 86 undef) w' := hd 27 _ _ rfl rfl (by kernel_rfl)
                exact ⟨rfl, stp_pickf _ _ _ rfl f0 f1⟩
              | 29, ho, hd =>
                obtain rfl := Option.some.inj ho
                have f0 : (Fk.val (.bool false)).holds (a.tmps.getD 87 undef) w' := hd 28 _ _ rfl rfl (by kernel_rfl)
                exact ⟨rfl, stp_move _ (.inl rfl) f0⟩
              | 30, ho, hd =>
                obtain rfl := Option.some.inj ho
                have fg : (Fk.val (.bool false)).holds (a.tmps.getD 88 undef) w' := hd 29 _ _ rfl rfl (by kernel_rfl)
                exact ⟨wanted_ff 29 88 rfl rfl (by rw [hsz]; decide) fg, stp_move _ (.inl rfl) ((hbase 13 (noDst_spec (by kernel_rfl))).trans ht13)⟩
              | 31, ho, hd =>
                obtain rfl := Option.some.inj ho
                have fg : (Fk.val (.bool false)).holds (a.tmps.getD 88 undef) w' := hd 29 _ _ rfl rfl (by kernel_rfl)
                exact ⟨wanted_ff 29 88 rfl rfl (by rw [hsz]; decide) fg, stp_move _ (.inl rfl) ((hbase 15 (noDst_spec (by kernel_rfl))).trans ht15)⟩
              | 32, ho, hd =>
                obtain rfl := Option.some.inj ho
                have f0 : (Fk.val (.bool q)).holds (a.tmps.getD 89 undef) w' := hd 30 _ _ rfl rfl (by kernel_rfl)
                have f1 : (Fk.val (.bool q)).holds (a.tmps.getD 90 undef) w' := hd 31 _ _ rfl rfl (by kernel_rfl)
                have fg : (Fk.val (.bool false)).holds (a.tmps.getD 88 undef) w' := hd 29 _ _ rfl rfl (by kernel_rfl)
                exact ⟨wanted_ff 29 88 rfl rfl (by rw [hsz]; decide) fg, stp_bin _ _ _ _ _ rfl _ _ f0 f1 _ (egNB _ _ _ _) (neB _ _) rfl⟩
              | 33, ho, hd =>
                obtain rfl := Option.some.inj ho
                have f0 : (Fk.val (.bool false)).holds (a.tmps.getD 88 undef) w' := hd 29 _ _ rfl rfl (by kernel_rfl)
                have f1 : (Fk.val (.bool false)).holds (a.tmps.getD 91 undef) w' := hd 32 _ _ rfl rfl (by kernel_rfl)
                exact ⟨rfl, stp_pickf _ _ _ rfl f0 f1⟩
              | 34, ho, hd =>
                obtain rfl := Option.some.inj ho
                have f0 : (Fk.val (.bool false)).holds (a.tmps.getD 92 undef) w' := hd 33 _ _ rfl rfl (by kernel_rfl)
                exact ⟨rfl, stp_move _ (.inl rfl) f0⟩
              | 35, ho, hd =>
                obtain rfl := Option.some.inj ho
                have fg : (Fk.val (.bool false)).holds (a.tmps.getD 93 undef) w' := hd 34 _ _ rfl rfl (by kernel_rfl)
                exact ⟨wanted_ff 34 93 rfl rfl (by rw [hsz]; decide) fg, stp_move _ (.inl rfl) ((hbase 12 (noDst_spec (by kernel_rfl))).trans ht12)⟩
              | 36, ho, hd =>
                obtain rfl := Option.some.inj ho
                have fg : (Fk.val (.bool false)).holds (a.tmps.getD 93 undef) w' := hd 34 _ _ rfl rfl (by kernel_rfl)
                exact ⟨wanted_ff 34 93 rfl rfl (by rw [hsz]; decide) fg, stp_move _ (.inl rfl) ((hbase 14 (noDst_spec (by kernel_rfl))).trans ht14)⟩
              | 37, ho, hd =>
                obtain rfl := Option.some.inj ho
                have f0 : (Fk.val rv).holds (a.tmps.getD 94 undef) w' := hd 35 _ _ rfl rfl (by kernel_rfl)
                have f1 : (Fk.val rw).holds (a.tmps.getD 95 undef) w' := hd 36 _ _ rfl rfl (by kernel_rfl)
                have fg : (Fk.val (.bool false)).holds (a.tmps.getD 93 undef) w' := hd 34 _ _ rfl rfl (by kernel_rfl)
                exact ⟨wanted_ff 34 93 rfl rfl (by rw [hsz]; decide) fg, stp_call _ _ _ rfl ef_ref04_Lists #[rv, rw] (by simp [Act.eval, show a.tmps.getD 94 undef = rv from f0, show a.tmps.getD 95 undef = rw from f1]) (refLists' _ _ _ _ (hvv _ hw) (hvw _ hw) hbn)⟩
              | 38, ho, hd =>
                obtain rfl := Option.some.inj ho
                have f0 : (Fk.tt).holds (a.tmps.getD 96 undef) w' := hd 37 _ _ rfl rfl (by kernel_rfl)
                have fg : (Fk.val (.bool false)).holds (a.tmps.getD 93 undef) w' := hd 34 _ _ rfl rfl (by kernel_rfl)
                exact ⟨wanted_ff 34 93 rfl rfl (by rw [hsz]; decide) fg, stp_not _ _ true rfl f0 rfl⟩
              | 39, ho, hd =>
                obtain rfl := Option.some.inj ho
                have f0 : (Fk.val (.bool false)).holds (a.tmps.getD 93 undef) w' := hd 34 _ _ rfl rfl (by kernel_rfl)
                have f1 : (Fk.val (.bool false)).holds (a.tmps.getD 97 undef) w' := hd 38 _ _ rfl rfl (by kernel_rfl)
                exact ⟨rfl, stp_pickf _ _ _ rfl f0 f1⟩
              | i + 40, ho, hd =>
                have : i + 40 < 40 := (Array.getElem?_eq_some_iff.1 ho).1
                omega
            case done =>
              intro a w10 hsz hdf hf hbase hw
              have ht : a.tmps.getD 98 undef = .bool false := hf 39 _ _ rfl rfl
              refine hK2 _ _ (Met.intro (hJ _ _ ⟨a.tmps.getD 59 undef, a.tmps.getD 60 undef, a.tmps.getD 61 undef, a.tmps.getD 62 undef, a.tmps.getD 63 undef, a.tmps.getD 64 undef, a.tmps.getD 65 undef, a.tmps.getD 66 undef, a.tmps.getD 67 undef, a.tmps.getD 68 undef, a.tmps.getD 69 undef, a.tmps.getD 70 undef, a.tmps.getD 71 undef, a.tmps.getD 72 undef, a.tmps.getD 73 undef, a.tmps.getD 74 undef, a.tmps.getD 75 undef, a.tmps.getD 76 undef, a.tmps.getD 77 undef, a.tmps.getD 78 undef, a.tmps.getD 79 undef, a.tmps.getD 80 undef, a.tmps.getD 81 undef, a.tmps.getD 82 undef, a.tmps.getD 83 undef, a.tmps.getD 84 undef, a.tmps.getD 85 undef, a.tmps.getD 86 undef, a.tmps.getD 87 undef, a.tmps.getD 88 undef, a.tmps.getD 89 undef, a.tmps.getD 90 undef, a.tmps.getD 91 undef, a.tmps.getD 92 undef, a.tmps.getD 93 undef, a.tmps.getD 94 undef, a.tmps.getD 95 undef, a.tmps.getD 96 undef, a.tmps.getD 97 undef, a.tmps.getD 98 undef, ⟨ht, Lib.hid hw⟩, (act_lit hsz hdf hbase).trans ?_⟩))
              kernel_rfl
          case rest =>
            obtain ⟨rfl, hB11⟩ := hcut
            go_wp2
            go_roundw
            case measure => simp [vI]; omega
            case rel => exact ⟨j + 1, i64_eq (by omega), by omega, HW.out.2.2.trans (hB11.out.mono HW.out.2.2.size)⟩
        · go_wp2
          go_ret
          exact ⟨rfl, hBw⟩

end Go.Proofs.YtfcmpolhcpbliaaGreatDoor
