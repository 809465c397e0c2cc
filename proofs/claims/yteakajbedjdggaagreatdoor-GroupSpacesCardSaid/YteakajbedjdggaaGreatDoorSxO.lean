import Derived.Test.YteakajbedjdggaaGreatDoorSxN
/-
  A region that draws its order: whatever the order, the end is that of the record.
-/
namespace Go.Sx
open Go Go.RowKit
section
variable {P : Program} {hd : Hand} {ih : Run}

/-- i must come before j -/
inductive Bef (ops : Array Oper) : Nat → Nat → Prop
  | edge {i j : Nat} {o : Oper} {e : Edge} (ho : ops[j]? = some o) (he : e ∈ o.after) (hb : Region.binds .any e = true) (hi : e.on = i) : Bef ops i j
  | trans {i j : Nat} {o : Oper} {e : Edge} (ho : ops[j]? = some o) (he : e ∈ o.after) (hb : Region.binds .any e = true) (h : Bef ops i e.on) : Bef ops i j
theorem maskOf_bef {ops : Array Oper} {o : Oper} {j : Nat} (ho : ops[j]? = some o) {ms : List Nat} (hms : ∀ l, ∀ i, (ms.getD l 0).testBit i = true → Bef ops i l) : ∀ i, (maskOf o ms).testBit i = true → Bef ops i j := by
  unfold maskOf
  have key : ∀ (l : List Edge) (s : Nat), (∀ e ∈ l, e ∈ o.after) → (∀ i, s.testBit i = true → Bef ops i j) → ∀ i, (l.foldl (fun s e => if Region.binds .any e then s ||| 2 ^ e.on ||| ms.getD e.on 0 else s) s).testBit i = true → Bef ops i j := by
    intro l
    induction l with
    | nil => exact fun s _ hs i hi => hs i hi
    | cons e l ihl =>
      intro s hl hs i hi
      rw [List.foldl_cons] at hi
      refine ihl _ (fun x hx => hl x (by simp [hx])) (fun i hi => ?_) i hi
      split at hi
      · rename_i hb
        rw [Nat.testBit_or, Nat.testBit_or, Nat.testBit_two_pow] at hi
        simp only [Bool.or_eq_true, decide_eq_true_eq] at hi
        rcases hi with (hi | hi) | hi
        · exact hs i hi
        · exact .edge ho (hl e (by simp)) hb hi
        · exact .trans ho (hl e (by simp)) hb (hms _ i hi)
      · exact hs i hi
  exact key o.after.toList 0 (fun e he => by simpa using he) (fun i hi => by simp at hi)
theorem masks_bef {ops : Array Oper} : ∀ (l : List Oper) (ms : List Nat), (∀ j, l[j]? = ops[ms.length + j]?) → (∀ k, ∀ i, (ms.getD k 0).testBit i = true → Bef ops i k) → ∀ k, ∀ i, ((masks l ms).getD k 0).testBit i = true → Bef ops i k
  | [], ms, _, h, k, i, hi => h k i hi
  | o :: l, ms, hl, h, k, i, hi => by
    have h0 : ops[ms.length]? = some o := by simpa using (hl 0).symm
    refine masks_bef l (ms ++ [maskOf o ms]) (fun j => ?_) (fun k i hi => ?_) k i hi
    · have := hl (j + 1)
      simpa [Nat.add_assoc, Nat.add_comm 1 j] using this
    · rcases Nat.lt_trichotomy k ms.length with hlt | rfl | hgt
      · rw [List.getD_eq_getElem?_getD, List.getElem?_append_left hlt, ← List.getD_eq_getElem?_getD] at hi
        exact h k i hi
      · rw [List.getD_eq_getElem?_getD, List.getElem?_append_right (Nat.le_refl _), Nat.sub_self] at hi
        exact maskOf_bef h0 h i (by simpa using hi)
      · rw [List.getD_eq_getElem?_getD, List.getElem?_eq_none (by simp; omega)] at hi
        simp at hi
theorem ms_bef {ops : Array Oper} {i k : Nat} (h : ((msOf ops).getD k 0).testBit i = true) : Bef ops i k :=
  masks_bef ops.toList [] (fun j => by simp) (fun k i hi => by simp at hi) k i h
def In (l : Array Bool) (i : Nat) : Prop := l[i]? = some true
theorem in_set {l : Array Bool} {i : Nat} (hi : i < l.size) (j : Nat) : In (l.setIfInBounds i true) j ↔ In l j ∨ j = i := by
  unfold In
  by_cases h : i = j
  · subst h
    simp [hi]
  · rw [Array.getElem?_setIfInBounds_ne h]
    constructor
    · exact .inl
    · rintro (h' | h')
      · exact h'
      · exact absurd h'.symm h
def Closed (ops : Array Oper) (l : Array Bool) : Prop := ∀ j o, In l j → ops[j]? = some o → ∀ e ∈ o.after, Region.binds .any e = true → In l e.on
theorem closed_bef {ops : Array Oper} {l : Array Bool} (hc : Closed ops l) {i j : Nat} (hb : Bef ops i j) : In l j → In l i := by
  induction hb with
  | edge ho he hb hi => exact fun hj => hi ▸ hc _ _ hj ho _ he hb
  | trans ho he hb _ ih => exact fun hj => ih (hc _ _ hj ho _ he hb)
/-- an operation that may come up: what must come before it has come -/
theorem ready_bef {ops : Array Oper} {l : Array Bool} (hc : Closed ops l) {j : Nat} {o : Oper} (ho : ops[j]? = some o) (hr : ∀ e ∈ o.after, Region.binds .any e = true → In l e.on) {i : Nat} (hb : Bef ops i j) : In l i := by
  cases hb with
  | edge ho' he hb hi => rw [ho] at ho'; cases ho'; exact hi ▸ hr _ he hb
  | trans ho' he hb h => rw [ho] at ho'; cases ho'; exact closed_bef hc h (hr _ he hb)
theorem chained_ok {ms : List Nat} : ∀ {l : List Nat}, chained ms l = true → ∀ {j a b : Nat}, l[j]? = some a → l[j + 1]? = some b → (ms.getD b 0).testBit a = true
  | [], _, j, a, b, h, _ => by simp at h
  | [x], _, j, a, b, _, h => by simp at h
  | x :: y :: r, hc, 0, a, b, h1, h2 => by
    simp only [chained, Bool.and_eq_true] at hc
    simp only [List.getElem?_cons_zero, Option.some.injEq] at h1
    simp only [Nat.zero_add, List.getElem?_cons_succ, List.getElem?_cons_zero, Option.some.injEq] at h2
    subst h1; subst h2
    exact hc.1
  | x :: y :: r, hc, j + 1, a, b, h1, h2 => by
    simp only [chained, Bool.and_eq_true] at hc
    exact chained_ok hc.2 (j := j) (by simpa using h1) (by simpa using h2)
/-- the record, whole -/
structure Tr (P : Program) (ops : Array Oper) (n : Nat) (tm0 : T V) (h0 : H) (nx0 : I) (f : Nat → Rc) (G : Nat → H) (AL : Nat → List Al) (nxE : I) : Prop where
  temps : tempsOk ops (msOf ops) = true
  edges : edgesOk ops = true
  chain : chained (msOf ops) (effs P ops) = true
  dst : dstOk n ops = true
  rc : ∀ i, i < ops.size → ∃ o, RcF P ops (msOf ops) (effs P ops) tm0 f G AL i o
  ids : ∀ i, i < ops.size → nx0.nat ≤ (f i).p.nat ∧ (f i).q.nat ≤ nxE.nat
  apart : ∀ i j, i < ops.size → j < ops.size → i ≠ j → (f i).q.nat ≤ (f j).p.nat ∨ (f j).q.nat ≤ (f i).p.nat
  alf : ∀ k a, a ∈ AL k → ALF P ops f k a
  g0 : G 0 = h0
/-- the state in the middle of some order -/
structure SI' (P : Program) (ops : Array Oper) (n : Nat) (tm0 : T V) (h0 : H) (nx0 : I) (f : Nat → Rc) (G : Nat → H) (AL : Nat → List Al) (nxE : I) (n0 : Nat) (e0 : Env) (w0 : World) (df : List I) (l : Array Bool) (k : Nat) (e : Env) (a : Act) (w : World) : Prop where
  size : l.size = ops.size
  closed : Closed ops l
  kle : k ≤ (effs P ops).length
  eff : ∀ j x, (effs P ops)[j]? = some x → (In l x ↔ j < k)
  sat : Sat n0 e (G k) w
  al : ∀ k' x, k ≤ k' → x ∈ AL k' → In l x.i → ∃ q, e x.b = some q ∧ n0 ≤ q.blk ∧ BR e w q x.x ∧ Out e (G k) q.blk
  dis : ∀ k1 k2 x1 x2 q1 q2, k ≤ k1 → k ≤ k2 → x1 ∈ AL k1 → x2 ∈ AL k2 → In l x1.i → In l x2.i → e x1.b = some q1 → e x2.b = some q2 → x1.b ≠ x2.b → q1.blk ≠ q2.blk
  fresh : ∀ i, i < ops.size → ¬ In l i → ∀ b : I, (f i).p.nat ≤ b.nat → b.nat < (f i).q.nat → e b = none
  tmps : ∀ t, (∃ j, In l j ∧ dstI ops j = some t ∧ (∀ j', In l j' → dstI ops j' = some t → j' ≤ j) ∧ den e (f j).v = some (a.tmps.getD t undef)) ∨ ((∀ j', In l j' → dstI ops j' ≠ some t) ∧ den e (tmV tm0 t) = some (a.tmps.getD t undef))
  asize : a.tmps.size = n
  adf : DfR e df a.defers
  os : w.os = w0.os
  tape : w.tape = w0.tape
  output : w.output = w0.output
  wsize : w0.heap.size ≤ w.heap.size
  keep : ∀ c, c < w0.heap.size → Out e0 h0 c → w.heap[c]? = w0.heap[c]?
  im : ∀ c, c < w0.heap.size → Out e0 h0 c → Out e (G k) c ∧ ∀ k' x q, k ≤ k' → x ∈ AL k' → In l x.i → e x.b = some q → q.blk ≠ c
  le : e0.le e
  out : ∀ b : I, (b.nat < nx0.nat ∨ nxE.nat ≤ b.nat) → e b = e0 b

variable {ops : Array Oper} {n : Nat} {tm0 : T V} {h0 : H} {nx0 : I} {f : Nat → Rc} {G : Nat → H} {AL : Nat → List Al} {nxE : I} {n0 : Nat} {e0 : Env} {w0 : World} {df : List I} {l : Array Bool} {k : Nat} {e : Env} {a : Act} {w : World}
theorem lt_of_get {α : Type} {xs : Array α} {i : Nat} {x : α} (h : xs[i]? = some x) : i < xs.size := by
  rcases Nat.lt_or_ge i xs.size with g | g
  · exact g
  · rw [Array.getElem?_eq_none g] at h; cases h
/-- the temporaries that operation i names hold what they held in the record -/
theorem names_den (tr : Tr P ops n tm0 h0 nx0 f G AL nxE) (s : SI' P ops n tm0 h0 nx0 f G AL nxE n0 e0 w0 df l k e a w) {i : Nat} {o : Oper} (r : RcF P ops (msOf ops) (effs P ops) tm0 f G AL i o) (hni : ¬ In l i)
    (hr : ∀ e ∈ o.after, Region.binds .any e = true → In l e.on) : ∀ t ∈ namesT ops o, den e (tmV (f i).tm t) = some (a.tmps.getD t undef) := by
  intro t ht
  have hiff : ∀ j, dstI ops j = some t → (In l j ↔ j < i) := by
    intro j hj
    rcases Nat.lt_trichotomy j i with hlt | rfl | hgt
    · have := temps_ok tr.temps r.op hj ht (by omega)
      rw [Nat.max_eq_left (by omega), Nat.min_eq_right (by omega)] at this
      exact ⟨fun _ => hlt, fun _ => ready_bef s.closed r.op hr (ms_bef this)⟩
    · exact ⟨fun h => absurd h hni, fun h => by omega⟩
    · have := temps_ok tr.temps r.op hj ht (by omega)
      rw [Nat.max_eq_right (by omega), Nat.min_eq_left (by omega)] at this
      exact ⟨fun h => absurd (closed_bef s.closed (ms_bef this) h) hni, fun h => by omega⟩
  rcases r.tmps t ht with ⟨j, h1, h2, h3, h4⟩ | ⟨h1, h2⟩ <;> rcases s.tmps t with ⟨j', g1, g2, g3, g4⟩ | ⟨g1, g2⟩
  · have e1 : j = j' := Nat.le_antisymm (g3 j ((hiff j h2).2 h1) h2) (h3 j' ((hiff j' g2).1 g1) g2)
    rw [h4, e1]; exact g4
  · exact absurd h2 (g1 j ((hiff j h2).2 h1))
  · exact absurd g2 (h1 j' ((hiff j' g2).1 g1))
  · rw [h2]; exact g2
theorem names_op {o : Oper} {x : Operand} (hx : x ∈ o.op.operands) {t : Tmp} (ht : x = .tmp t) : t ∈ namesT ops o := by
  unfold namesT
  simp only [List.mem_append, List.mem_filterMap]
  exact .inl (.inr ⟨x, by simpa using hx, by rw [ht]⟩)
theorem names_gd {o : Oper} {j : Nat} {w : Bool} {t : Tmp} (hg : o.guard = some (j, w)) (ht : (ops[j]?).bind (·.dst) = some t) : t ∈ namesT ops o := by
  unfold namesT
  simp [hg, ht]
/-- the temporaries behind operation i -/
theorem tmps_step (tr : Tr P ops n tm0 h0 nx0 f G AL nxE) (s : SI' P ops n tm0 h0 nx0 f G AL nxE n0 e0 w0 df l k e a w) {i : Nat} {o : Oper} (r : RcF P ops (msOf ops) (effs P ops) tm0 f G AL i o) (hni : ¬ In l i)
    {e' : Env} (hle : e.le e') {x : Value} (hx : den e' (f i).v = some x) :
    (∀ t, (∃ j, In (l.setIfInBounds i true) j ∧ dstI ops j = some t ∧ (∀ j', In (l.setIfInBounds i true) j' → dstI ops j' = some t → j' ≤ j) ∧ den e' (f j).v = some ((a.put o.dst x).tmps.getD t undef)) ∨
      ((∀ j', In (l.setIfInBounds i true) j' → dstI ops j' ≠ some t) ∧ den e' (tmV tm0 t) = some ((a.put o.dst x).tmps.getD t undef))) ∧ (a.put o.dst x).tmps.size = n ∧ DfR e' df (a.put o.dst x).defers := by
  have hlt : i < l.size := by rw [s.size]; exact lt_of_get r.op
  have hdi : dstI ops i = o.dst := by simp [dstI, r.op]
  refine ⟨fun t => ?_, ?_, ?_⟩
  · by_cases hd : o.dst = some t
    · refine .inl ⟨i, (in_set hlt i).2 (.inr rfl), by rw [hdi]; exact hd, fun j' hj' hdj => ?_, ?_⟩
      · rcases (in_set hlt j').1 hj' with hj' | rfl
        · rcases Nat.lt_or_ge i j' with hgt | hle
          · have := temps_ok tr.temps r.op hdj (mem_dst hd) (by omega)
            rw [Nat.max_eq_right (by omega), Nat.min_eq_left (by omega)] at this
            exact absurd (closed_bef s.closed (ms_bef this) hj') hni
          · exact hle
        · exact Nat.le_refl _
      · have htn : t < a.tmps.size := by rw [s.asize]; exact dst_of tr.dst r.op t hd
        rw [hx, hd]
        simp [Act.put, Array.getD_eq_getD_getElem?, htn]
    · have hsame : (a.put o.dst x).tmps.getD t undef = a.tmps.getD t undef := by
        cases hod : o.dst with
        | none => rfl
        | some d =>
          have hne : d ≠ t := fun hh => hd (by rw [hod, hh])
          simp [Act.put, Array.getD_eq_getD_getElem?, Array.getElem?_setIfInBounds_ne hne]
      rw [hsame]
      rcases s.tmps t with ⟨j, g1, g2, g3, g4⟩ | ⟨g1, g2⟩
      · refine .inl ⟨j, (in_set hlt j).2 (.inl g1), g2, fun j' hj' hdj => ?_, den_mono hle _ _ g4⟩
        rcases (in_set hlt j').1 hj' with hj' | rfl
        · exact g3 j' hj' hdj
        · rw [hdi] at hdj; exact absurd hdj hd
      · refine .inr ⟨fun j' hj' hdj => ?_, den_mono hle _ _ g2⟩
        rcases (in_set hlt j').1 hj' with hj' | rfl
        · exact g1 j' hj' hdj
        · rw [hdi] at hdj; exact hd hdj
  · rw [← s.asize]
    cases o.dst with
    | none => rfl
    | some d => simp [Act.put]
  · have : (a.put o.dst x).defers = a.defers := by cases o.dst <;> rfl
    rw [this]
    exact s.adf.mono hle
theorem closed_step (s : SI' P ops n tm0 h0 nx0 f G AL nxE n0 e0 w0 df l k e a w) {i : Nat} {o : Oper} (ho : ops[i]? = some o) (hr : ∀ e ∈ o.after, Region.binds .any e = true → In l e.on) : Closed ops (l.setIfInBounds i true) := by
  have hlt : i < l.size := by rw [s.size]; exact lt_of_get ho
  intro j oj hj hoj ed hed hb
  rcases (in_set hlt j).1 hj with hj | rfl
  · exact (in_set hlt _).2 (.inl (s.closed j oj hj hoj ed hed hb))
  · rw [ho] at hoj; cases hoj
    exact (in_set hlt _).2 (.inl (hr ed hed hb))
/-- what lies in a described heap lies in memory -/
theorem desc_rd (_tr : Tr P ops n tm0 h0 nx0 f G AL nxE) (s : SI' P ops n tm0 h0 nx0 f G AL nxE n0 e0 w0 df l k e a w) {F : H} (hin : ∀ x ∈ AL k, In l x.i) (hF : DescF (G k) (AL k) F) : Sat n0 e F w ∧ (∀ c, Out e (G k) c → (∀ x ∈ AL k, ∀ q, e x.b = some q → q.blk ≠ c) → Out e F c) := by
  refine ⟨⟨fun b x hb => ?_, s.sat.base, fun b b' x x' q q' hb hb' h1 h2 h3 => ?_⟩, fun c ho hx b y q hb hq => ?_⟩
  · rcases hF b x hb with hg | ⟨y, hy, h1, h2⟩
    · exact s.sat.rd b x hg
    · obtain ⟨q, g1, g2, g3, _⟩ := s.al k y (Nat.le_refl _) hy (hin y hy)
      rw [h1] at g1
      rw [h2] at g3
      exact ⟨q, g1, g2, g3⟩
  · rcases hF b x hb with hg | ⟨y, hy, e1, _⟩ <;> rcases hF b' x' hb' with hg' | ⟨y', hy', e1', _⟩
    · exact s.sat.inj b b' x x' q q' hg hg' h1 h2 h3
    · obtain ⟨q2, g1, _, _, g4⟩ := s.al k y' (Nat.le_refl _) hy' (hin y' hy')
      rw [e1', h2] at g1; cases g1
      exact absurd h3 (g4 b x q hg h1)
    · obtain ⟨q2, g1, _, _, g4⟩ := s.al k y (Nat.le_refl _) hy (hin y hy)
      rw [e1, h1] at g1; cases g1
      exact absurd h3.symm (g4 b' x' q' hg' h2)
    · by_cases hbb : b = b'
      · exact hbb
      · exact absurd h3 (s.dis k k y y' q q' (Nat.le_refl _) (Nat.le_refl _) hy hy' (hin y hy) (hin y' hy') (by rw [e1]; exact h1) (by rw [e1']; exact h2) (by rw [e1, e1']; exact hbb))
  · rcases hF b y hb with hg | ⟨z, hz, e1, _⟩
    · exact ho b y q hg hq
    · exact hx z hz q (by rw [e1]; exact hq)
end
end Go.Sx
