import Derived.Test.YteakajbedjdggaaGreatDoorSxL
/-
  A region that draws its order: the record of the run in one order ('Tr'), taken out of the executor's answer.
-/
namespace Go.Sx
open Go Go.RowKit
section
variable {P : Program} {hd : Hand} {ih : Run}

structure Rc where
  v : V
  tm : T V
  p : I
  q : I
  k : Nat
  w : Bool
  x : B
/-- F holds no more than g and what al lists -/
def DescF (g : H) (al : List Al) (F : H) : Prop := ∀ b x, F.get b = some x → g.get b = some x ∨ ∃ a ∈ al, a.b = b ∧ a.x = x
def dstI (ops : Array Oper) (j : Nat) : Option Tmp := (ops[j]?).bind (·.dst)
/-- the last writer of t below i -/
def TF (ops : Array Oper) (f : Nat → Rc) (tm0 : T V) (S : Nat → Prop) (tm : T V) (t : Tmp) : Prop :=
  (∃ j, S j ∧ dstI ops j = some t ∧ (∀ j', S j' → dstI ops j' = some t → j' ≤ j) ∧ tmV tm t = (f j).v) ∨ ((∀ j', S j' → dstI ops j' ≠ some t) ∧ tmV tm t = tmV tm0 t)
/-- what the run has shown of operation i -/
structure RcF (P : Program) (ops : Array Oper) (ms es : List Nat) (tm0 : T V) (f : Nat → Rc) (G : Nat → H) (AL : Nat → List Al) (i : Nat) (o : Oper) : Prop where
  op : ops[i]? = some o
  want : wantB (gdOf ops o) (f i).tm = (f i).w
  pq : (f i).p.nat ≤ (f i).q.nat
  un : (f i).w = false → (f i).v = V.un
  tmps : ∀ t ∈ namesT ops o, TF ops f tm0 (fun j => j < i) (f i).tm t
  q : cls P o.op = .q → (f i).w = true → ∀ t, loOf ms es i ≤ t → t ≤ (f i).k → ∃ hp, (∀ b x, hp.get b = some x → (G t).get b = some x ∨ ∃ k' a, t ≤ k' ∧ a ∈ AL k' ∧ (ms.getD i 0).testBit a.i = true ∧ a.b = b ∧ a.x = x) ∧ QS P o.op (f i).tm hp (f i).v
  qd : cls P o.op = .q → ∀ c, o.op ≠ .defer c ∨ (f i).w = false
  a : cls P o.op = .a → (f i).w = true → (f i).q = (f i).p.inc ∧ AS P o.op (f i).tm (f i).p (f i).v (f i).x ∧ ∀ c, o.op ≠ .defer c
  e : cls P o.op = .e → (f i).w = true → ∃ F, DescF (G (f i).k) (AL (f i).k) F ∧ OneS P o (f i).tm F (f i).p (f i).v (G ((f i).k + 1)) (f i).q
  ue : cls P o.op = .e → (f i).w = false → DescF (G (f i).k) (AL (f i).k) (G ((f i).k + 1))
  phE : cls P o.op = .e → es[(f i).k]? = some i
  phN : cls P o.op ≠ .e → ((f i).k = es.length ∨ ∃ e, es[(f i).k]? = some e ∧ (ms.getD e 0).testBit i = true) ∧ loOf ms es i ≤ (f i).k ∧ (loOf ms es i = 0 ∨ ∃ e, es[loOf ms es i - 1]? = some e ∧ (ms.getD i 0).testBit e = true)
/-- where a listed block comes from -/
def ALF (P : Program) (ops : Array Oper) (f : Nat → Rc) (k : Nat) (a : Al) : Prop := ∃ o, ops[a.i]? = some o ∧ cls P o.op = .a ∧ (f a.i).w = true ∧ (f a.i).k = k ∧ a.b = (f a.i).p ∧ a.x = (f a.i).x

/-! heaps with listed blocks -/
theorem addA_ok : ∀ {l : List Al} {h : H} {k : H → Bool}, addA l h k = true → ∃ F, k F = true ∧ DescF h l F
  | [], h, k, hk => ⟨h, hk, fun b x hb => .inl hb⟩
  | a :: l, h, k, hk => by
    have hk : h.putK a.b (some a.x) (fun h => addA l h k) = true := hk
    rw [T.putK_eq] at hk
    obtain ⟨F, h1, h2⟩ := addA_ok hk
    refine ⟨F, h1, fun b x hb => ?_⟩
    rcases h2 b x hb with hg | ⟨c, hc, h3, h4⟩
    · rcases T.get_put h a.b b (some a.x) with ⟨e1, e2⟩ | ⟨_, e2⟩
      · rw [e2] at hg; exact .inr ⟨a, by simp, e1, Option.some.inj hg⟩
      · rw [e2] at hg; exact .inl hg
    · exact .inr ⟨c, by simp [hc], h3, h4⟩
theorem addM_ok : ∀ {l : List Al} {m : Nat} {h : H} {k : H → Bool}, addM l m h k = true → ∃ F, k F = true ∧ ∀ b x, F.get b = some x → h.get b = some x ∨ ∃ a ∈ l, m.testBit a.i = true ∧ a.b = b ∧ a.x = x
  | [], m, h, k, hk => ⟨h, hk, fun b x hb => .inl hb⟩
  | a :: l, m, h, k, hk => by
    have hk : br (m.testBit a.i) (h.putK a.b (some a.x) fun h => addM l m h k) (addM l m h k) = true := hk
    rcases br_cases hk with ⟨hm, hk⟩ | ⟨_, hk⟩
    · rw [T.putK_eq] at hk
      obtain ⟨F, h1, h2⟩ := addM_ok hk
      refine ⟨F, h1, fun b x hb => ?_⟩
      rcases h2 b x hb with hg | ⟨c, hc, h3, h4⟩
      · rcases T.get_put h a.b b (some a.x) with ⟨e1, e2⟩ | ⟨_, e2⟩
        · rw [e2] at hg; exact .inr ⟨a, by simp, hm, e1, Option.some.inj hg⟩
        · rw [e2] at hg; exact .inl hg
      · exact .inr ⟨c, by simp [hc], h3, h4⟩
    · obtain ⟨F, h1, h2⟩ := addM_ok hk
      refine ⟨F, h1, fun b x hb => ?_⟩
      rcases h2 b x hb with hg | ⟨c, hc, h3, h4⟩
      · exact .inl hg
      · exact .inr ⟨c, by simp [hc], h3, h4⟩
mutual
theorem V.same_ok : ∀ {a b : V}, V.same a b = true → a = b
  | .bool a, .bool b, h => by simp only [V.same, beq_iff_eq] at h; rw [h]
  | .int k a, .int l b, h => by
    simp only [V.same] at h
    obtain ⟨h1, h2⟩ := gd_ok h
    rw [eqI_eq] at h2
    have : k = l := by
      cases k <;> cases l <;> first | rfl | exact absurd h1 (by decide)
    rw [this]; simp only [beq_iff_eq] at h2; rw [h2]
  | .str a, .str b, h => by simp only [V.same, decide_eq_true_eq] at h; rw [h]
  | .ptr a o, .ptr b p, h => by
    simp only [V.same] at h
    obtain ⟨h1, h2⟩ := gd_ok h
    rw [I.same_ok h1, beqN h2]
  | .nptr, .nptr, _ => rfl
  | .slice a o l c p, .slice b q m d r, h => by
    simp only [V.same] at h
    obtain ⟨h1, h⟩ := gd_ok h
    obtain ⟨h2, h⟩ := gd_ok h
    obtain ⟨h3, h⟩ := gd_ok h
    obtain ⟨h4, h⟩ := gd_ok h
    simp only [beq_iff_eq] at h
    rw [I.same_ok h1, beqN h2, beqN h3, beqN h4, h]
  | .nslice, .nslice, _ => rfl
  | .esl a o q, .esl b p r, h => by
    simp only [V.same] at h
    obtain ⟨h1, h⟩ := gd_ok h
    obtain ⟨h2, h⟩ := gd_ok h
    rw [I.same_ok h1, beqN h2, beqN h]
  | .map a, .map b, h => by simp only [V.same] at h; rw [I.same_ok h]
  | .nmap, .nmap, _ => rfl
  | .func f a c, .func g b d, h => by
    simp only [V.same] at h
    obtain ⟨h1, h⟩ := gd_ok h
    obtain ⟨h2, h⟩ := gd_ok h
    rw [beqN h1, V.sameL_ok h2, V.sameL_ok h]
  | .yld a, .yld b, h => by simp only [V.same] at h; rw [I.same_ok h]
  | .nfunc, .nfunc, _ => rfl
  | .nif, .nif, _ => rfl
  | .agg a, .agg b, h => by simp only [V.same] at h; rw [V.sameL_ok h]
  | .tup a, .tup b, h => by simp only [V.same] at h; rw [V.sameL_ok h]
theorem V.sameL_ok : ∀ {a b : List V}, V.sameL a b = true → a = b
  | [], [], _ => rfl
  | a :: x, b :: y, h => by
    simp only [V.sameL] at h
    obtain ⟨h1, h2⟩ := gd_ok h
    rw [V.same_ok h1, V.sameL_ok h2]
end
/-- the same answer at earlier stages -/
theorem sameK_ok : ∀ {n : Nat} {op : Op} {m : Nat} {v : V} {tm : T V} {acc : List Al} {st : List Stg}, sameK n op m v P tm acc st = true → n ≤ st.length ∧ ∀ j, j < n → ∃ s hp, st[j]? = some s ∧ QS P op tm hp v ∧
    ∀ b x, hp.get b = some x → s.g.get b = some x ∨ ∃ a, (a ∈ acc ∨ ∃ j' s', j' ≤ j ∧ st[j']? = some s' ∧ a ∈ s'.al) ∧ m.testBit a.i = true ∧ a.b = b ∧ a.x = x
  | 0, _, _, _, _, _, _, _ => ⟨Nat.zero_le _, fun j hj => absurd hj (Nat.not_lt_zero _)⟩
  | n + 1, op, m, v, tm, acc, [], h => absurd h Bool.false_ne_true
  | n + 1, op, m, v, tm, acc, s :: st, h => by
    have h : addM (s.al ++ acc) m s.g (fun hp => opQ op P tm hp fun w => gd (V.same v w) (sameK n op m v P tm (s.al ++ acc) st)) = true := h
    obtain ⟨hp, h1, h2⟩ := addM_ok h
    obtain ⟨w, h3, h4⟩ := opQ_ok h1
    obtain ⟨h5, h6⟩ := gd_ok h3
    have := V.same_ok h5
    subst this
    obtain ⟨h7, h8⟩ := sameK_ok h6
    refine ⟨by simpa using h7, fun j hj => ?_⟩
    cases j with
    | zero =>
      refine ⟨s, hp, rfl, h4, fun b x hb => ?_⟩
      rcases h2 b x hb with hg | ⟨a, ha, h9⟩
      · exact .inl hg
      · rcases List.mem_append.1 ha with ha | ha
        · exact .inr ⟨a, .inr ⟨0, s, Nat.le_refl _, rfl, ha⟩, h9⟩
        · exact .inr ⟨a, .inl ha, h9⟩
    | succ j =>
      obtain ⟨s', hp', g1, g2, g3⟩ := h8 j (by omega)
      refine ⟨s', hp', by simpa using g1, g2, fun b x hb => ?_⟩
      rcases g3 b x hb with hg | ⟨a, ha, h9⟩
      · exact .inl hg
      · refine .inr ⟨a, ?_, h9⟩
        rcases ha with ha | ⟨j', s'', h10, h11, h12⟩
        · rcases List.mem_append.1 ha with ha | ha
          · exact .inr ⟨0, s, Nat.zero_le _, rfl, ha⟩
          · exact .inl ha
        · exact .inr ⟨j' + 1, s'', by omega, by simpa using h11, h12⟩
end
end Go.Sx
