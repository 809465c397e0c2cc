import Derived.Test.YteakajbedjdggaaGreatDoorSxV
/-
  Memos: a call's answer, found once on a small heap of its own ('canonK', 'canon_ok'), answers that call wherever the arguments fit ('memoK', 'memo_ok').
-/
noncomputable section
namespace Go.Sx
open Go Go.RowKit

structure PB where
  p : I
  x : B
def mBs (M : T Bool) (h : H) (L : List PB) : T I → (T I → Bool) → Bool :=
  List.rec (motive := fun _ => T I → (T I → Bool) → Bool) (fun s k => k s) (fun b _ ih s k => onS (s.get b.p) fun q => mO M b.x (h.get q) s fun s => ih s k) L
def disK (s : T I) (L : List PB) : T Bool → Bool → Bool :=
  List.rec (motive := fun _ => T Bool → Bool → Bool) (fun _ k => k) (fun b _ ih a k => onS (s.get b.p) fun q => onO (a.get q) (a.putK q (some true) fun a => ih a k) (fun _ => false)) L
def mkH (L : List PB) : H → (H → Bool) → Bool :=
  List.rec (motive := fun _ => H → (H → Bool) → Bool) (fun h k => k h) (fun b _ ih h k => h.putK b.p (some b.x) fun h => ih h k) L
def idS (L : List PB) : T I → (T I → Bool) → Bool :=
  List.rec (motive := fun _ => T I → (T I → Bool) → Bool) (fun s k => k s) (fun b _ ih s k => s.putK b.p (some b.p) fun s => ih s k) L
def domK (L : List PB) : T Bool → (T Bool → Bool) → Bool :=
  List.rec (motive := fun _ => T Bool → (T Bool → Bool) → Bool) (fun s k => k s) (fun b _ ih s k => s.putK b.p (some true) fun s => ih s k) L
def newK (N : List PB) : T I → I → (T I → I → Bool) → Bool :=
  List.rec (motive := fun _ => T I → I → (T I → I → Bool) → Bool) (fun s nx k => k s nx) (fun b _ ih s nx k => onO (s.get b.p) (s.putK b.p (some nx) fun s => ih s nx.inc k) (fun _ => false)) N
def layK (s : T I) (N : List PB) : H → (H → Bool) → Bool :=
  List.rec (motive := fun _ => H → (H → Bool) → Bool) (fun h k => k h) (fun b _ ih h k => onS (s.get b.p) fun q => renB s b.x fun y => h.putK q (some y) fun h => ih h k) N

theorem mBs_ok {M : T Bool} {h : H} : ∀ (L : List PB) {s : T I} {k : T I → Bool}, mBs M h L s k = true → ∃ s', Ext M s s' ∧ (∀ b ∈ L, ∃ q y, s'.get b.p = some q ∧ h.get q = some y ∧ RB s' b.x y) ∧ k s' = true
  | [], s, k, hk => ⟨s, Ext.refl _ _, by simp, hk⟩
  | b :: L, s, k, hk => by
    obtain ⟨q, hq, hk⟩ := onS_ok (show onS (s.get b.p) (fun q => mO M b.x (h.get q) s fun s => mBs M h L s k) = true from hk)
    obtain ⟨y, s1, hy, e1, r1, hk⟩ := mO_ok hk
    obtain ⟨s2, e2, r2, hk⟩ := mBs_ok L hk
    refine ⟨s2, e1.trans e2, fun c hc => ?_, hk⟩
    rcases List.mem_cons.1 hc with rfl | hc
    · exact ⟨q, y, e2.le _ _ (e1.le _ _ hq), hy, r1.ext e2⟩
    · exact r2 c hc
theorem disK_ok {s : T I} : ∀ (L : List PB) {a : T Bool} {k : Bool}, disK s L a k = true → k = true ∧ (∀ b ∈ L, ∀ q, s.get b.p = some q → a.get q = none) ∧ ∀ b ∈ L, ∀ b' ∈ L, ∀ q, s.get b.p = some q → s.get b'.p = some q → b.p = b'.p
  | [], a, k, h => ⟨h, by simp, by simp⟩
  | b :: L, a, k, h => by
    obtain ⟨q, hq, h⟩ := onS_ok (show onS (s.get b.p) (fun q => onO (a.get q) (a.putK q (some true) fun a => disK s L a k) (fun _ => false)) = true from h)
    rcases onO_ok h with ⟨ha, h⟩ | ⟨_, _, h⟩
    · rw [T.putK_eq] at h
      obtain ⟨hk, h1, h2⟩ := disK_ok L h
      have h3 : ∀ c ∈ L, ∀ q', s.get c.p = some q' → q' ≠ q ∧ a.get q' = none := fun c hc q' hq' => by
        have := h1 c hc q' hq'
        rcases T.get_put a q q' (some true) with ⟨g1, g2⟩ | ⟨g1, g2⟩
        · rw [g2] at this; cases this
        · rw [g2] at this; exact ⟨fun hh => g1 hh.symm, this⟩
      refine ⟨hk, fun c hc q' hq' => ?_, fun c hc c' hc' q' g1 g2 => ?_⟩
      · rcases List.mem_cons.1 hc with rfl | hc
        · rw [hq] at hq'; cases hq'; exact ha
        · exact (h3 c hc q' hq').2
      · rcases List.mem_cons.1 hc with e1 | k1 <;> rcases List.mem_cons.1 hc' with e2 | k2
        · rw [e1, e2]
        · rw [e1, hq] at g1; cases g1; exact absurd rfl (h3 c' k2 _ g2).1
        · rw [e2, hq] at g2; cases g2; exact absurd rfl (h3 c k1 _ g1).1
        · exact h2 c k1 c' k2 q' g1 g2
    · exact absurd h Bool.false_ne_true
theorem mkH_ok : ∀ (L : List PB) {h : H} {k : H → Bool}, mkH L h k = true → ∃ h', k h' = true ∧ ∀ p x, h'.get p = some x → h.get p = some x ∨ ∃ b ∈ L, b.p = p ∧ b.x = x
  | [], h, k, hk => ⟨h, hk, fun _ _ h => .inl h⟩
  | b :: L, h, k, hk => by
    have hk : h.putK b.p (some b.x) (fun h => mkH L h k) = true := hk
    rw [T.putK_eq] at hk
    obtain ⟨h', hk', hm⟩ := mkH_ok L hk
    refine ⟨h', hk', fun p x hp => ?_⟩
    rcases hm p x hp with h1 | ⟨c, hc, h1⟩
    · rcases T.get_put h b.p p (some b.x) with ⟨g1, g2⟩ | ⟨g1, g2⟩
      · rw [g2] at h1; cases h1; exact .inr ⟨b, by simp, g1, rfl⟩
      · rw [g2] at h1; exact .inl h1
    · exact .inr ⟨c, by simp [hc], h1⟩
theorem idS_ok : ∀ (L : List PB) {s : T I} {k : T I → Bool}, idS L s k = true → ∃ s', k s' = true ∧ (∀ p, s.get p = some p → s'.get p = some p) ∧ ∀ b ∈ L, s'.get b.p = some b.p
  | [], s, k, hk => ⟨s, hk, fun _ h => h, by simp⟩
  | b :: L, s, k, hk => by
    have hk : s.putK b.p (some b.p) (fun s => idS L s k) = true := hk
    rw [T.putK_eq] at hk
    obtain ⟨s', hk', h1, h2⟩ := idS_ok L hk
    have h3 : ∀ p, (s.get p = some p ∨ p = b.p) → (s.put b.p (some b.p)).get p = some p := fun p hp => by
      rcases T.get_put s b.p p (some b.p) with ⟨g1, g2⟩ | ⟨g1, g2⟩
      · rw [g2, g1]
      · rw [g2]; exact hp.resolve_right fun hh => g1 hh.symm
    refine ⟨s', hk', fun p hp => h1 p (h3 p (.inl hp)), fun c hc => ?_⟩
    rcases List.mem_cons.1 hc with rfl | hc
    · exact h1 _ (h3 _ (.inr rfl))
    · exact h2 c hc
theorem domK_ok : ∀ (L : List PB) {s : T Bool} {k : T Bool → Bool}, domK L s k = true → ∃ s', k s' = true ∧ ∀ p x, s'.get p = some x → s.get p = some x ∨ ∃ b ∈ L, b.p = p
  | [], s, k, hk => ⟨s, hk, fun _ _ h => .inl h⟩
  | b :: L, s, k, hk => by
    have hk : s.putK b.p (some true) (fun s => domK L s k) = true := hk
    rw [T.putK_eq] at hk
    obtain ⟨s', hk', h1⟩ := domK_ok L hk
    refine ⟨s', hk', fun p x hp => ?_⟩
    rcases h1 p x hp with h1 | ⟨c, hc, h1⟩
    · rcases T.get_put s b.p p (some true) with ⟨g1, g2⟩ | ⟨g1, g2⟩
      · exact .inr ⟨b, by simp, g1⟩
      · rw [g2] at h1; exact .inl h1
    · exact .inr ⟨c, by simp [hc], h1⟩
theorem newK_ok : ∀ (N : List PB) {s : T I} {nx : I} {k : T I → I → Bool}, newK N s nx k = true → ∃ s2 nx2, k s2 nx2 = true ∧ nx.nat ≤ nx2.nat ∧ (∀ p q, s.get p = some q → s2.get p = some q) ∧
    (∀ b ∈ N, ∃ q, s2.get b.p = some q ∧ nx.nat ≤ q.nat ∧ q.nat < nx2.nat) ∧ (∀ p q, s2.get p = some q → s.get p = some q ∨ ∃ b ∈ N, b.p = p) ∧
    ∀ b ∈ N, ∀ b' ∈ N, ∀ q, s2.get b.p = some q → s2.get b'.p = some q → b.p = b'.p
  | [], s, nx, k, hk => ⟨s, nx, hk, Nat.le_refl _, fun _ _ h => h, by simp, fun _ _ h => .inl h, by simp⟩
  | b :: N, s, nx, k, hk => by
    rcases onO_ok (show onO (s.get b.p) (s.putK b.p (some nx) fun s => newK N s nx.inc k) (fun _ => false) = true from hk) with ⟨hn, hk⟩ | ⟨_, _, hk⟩
    · rw [T.putK_eq] at hk
      obtain ⟨s2, nx2, hk, h1, h2, h3, h4, h5⟩ := newK_ok N hk
      rw [I.nat_inc] at h1
      have hb : s2.get b.p = some nx := h2 _ _ (T.get_put_same _ _ _)
      have h3' : ∀ c ∈ N, ∃ q, s2.get c.p = some q ∧ nx.nat + 1 ≤ q.nat ∧ q.nat < nx2.nat := fun c hc => by
        have := h3 c hc
        rwa [I.nat_inc] at this
      refine ⟨s2, nx2, hk, by omega, fun p q hp => h2 p q ?_, fun c hc => ?_, fun p q hp => ?_, fun c hc c' hc' q g1 g2 => ?_⟩
      · have hne : b.p ≠ p := fun hh => by rw [← hh, hn] at hp; cases hp
        rw [T.get_put_ne _ _ _ _ hne]; exact hp
      · rcases List.mem_cons.1 hc with rfl | hc
        · exact ⟨nx, hb, Nat.le_refl _, by omega⟩
        · obtain ⟨q, g1, g2, g3⟩ := h3' c hc
          exact ⟨q, g1, by omega, g3⟩
      · rcases h4 p q hp with g | ⟨c, hc, g⟩
        · rcases T.get_put s b.p p (some nx) with ⟨g1, g2⟩ | ⟨g1, g2⟩
          · exact .inr ⟨b, by simp, g1⟩
          · rw [g2] at g; exact .inl g
        · exact .inr ⟨c, by simp [hc], g⟩
      · rcases List.mem_cons.1 hc with e1 | m1 <;> rcases List.mem_cons.1 hc' with e2 | m2
        · rw [e1, e2]
        · rw [e1, hb] at g1; cases g1
          obtain ⟨q', k1, k2, _⟩ := h3' c' m2
          rw [g2] at k1; cases k1; omega
        · rw [e2, hb] at g2; cases g2
          obtain ⟨q', k1, k2, _⟩ := h3' c m1
          rw [g1] at k1; cases k1; omega
        · exact h5 c m1 c' m2 q g1 g2
    · exact absurd hk Bool.false_ne_true
theorem layK_ok {s : T I} : ∀ (N : List PB) {h : H} {k : H → Bool}, layK s N h k = true → ∃ h2, k h2 = true ∧ ∀ p x, h2.get p = some x → h.get p = some x ∨ ∃ b ∈ N, s.get b.p = some p ∧ RB s b.x x
  | [], h, k, hk => ⟨h, hk, fun _ _ h => .inl h⟩
  | b :: N, h, k, hk => by
    obtain ⟨q, hq, hk⟩ := onS_ok (show onS (s.get b.p) (fun q => renB s b.x fun y => h.putK q (some y) fun h => layK s N h k) = true from hk)
    obtain ⟨y, hy, hk⟩ := renB_ok hk
    rw [T.putK_eq] at hk
    obtain ⟨h2, hk, hm⟩ := layK_ok N hk
    refine ⟨h2, hk, fun p x hp => ?_⟩
    rcases hm p x hp with h1 | ⟨c, hc, h1⟩
    · rcases T.get_put h q p (some y) with ⟨g1, g2⟩ | ⟨g1, g2⟩
      · rw [g2] at h1; cases h1; exact .inr ⟨b, by simp, by rw [hq, g1], hy⟩
      · rw [g2] at h1; exact .inl h1
    · exact .inr ⟨c, by simp [hc], h1⟩

/-- a call's contract on arguments that are known up to the blocks' places: blocks L lie as they lay, blocks N are new -/
def CanonS (P : Program) (f : FuncId) (L : List PB) (a : List V) (N : List PB) (vo : V) : Prop :=
  ∀ (n0 : Nat) (e : Env) (w : World) (vs : List Value), (∀ b ∈ L, ∃ q, e b.p = some q ∧ n0 ≤ q.blk ∧ BR e w q b.x) → n0 ≤ w.heap.size →
    (∀ b ∈ L, ∀ b' ∈ L, ∀ q q', e b.p = some q → e b'.p = some q' → q.blk = q'.blk → b.p = b'.p) → denL e a = some vs → (∀ p q, e p = some q → ∃ b ∈ L, b.p = p) → ∀ R : Ending → World → Prop,
    (∀ (ep : Env) (x : Value) (w' : World), den ep vo = some x → (∀ b ∈ L, ep b.p = e b.p) → (∀ b ∈ L ++ N, ∃ q, ep b.p = some q ∧ n0 ≤ q.blk ∧ BR ep w' q b.x) →
      (∀ b ∈ L ++ N, ∀ b' ∈ L ++ N, ∀ q q', ep b.p = some q → ep b'.p = some q' → q.blk = q'.blk → b.p = b'.p) → w'.os = w.os → w'.tape = w.tape → w'.output = w.output → w.heap.size ≤ w'.heap.size →
      (∀ c, c < w.heap.size → (∀ b ∈ L, ∀ q, e b.p = some q → q.blk ≠ c) → w'.heap[c]? = w.heap[c]? ∧ ∀ b ∈ L ++ N, ∀ q, ep b.p = some q → q.blk ≠ c) → R (.returned x) w') → Calls P f vs.toArray w R
def canonK (P : Program) (hd : Hand) (ih : Run) (f : FuncId) (nx : I) (L : List PB) (a : List V) (N : List PB) (vo : V) : Bool :=
  mkH L .lf fun h0 => domK (L ++ N) .lf fun D => callF P hd f ih a h0 nx fun v h' _ => idS L .lf fun s => mV D vo v s fun s => mBs D h' (L ++ N) s fun s => disK s (L ++ N) .lf true
def ltAll (nx : I) (L : List PB) : Bool := L.all fun b => decide (b.p.nat < nx.nat)
theorem canon_ok {P : Program} {hd : Hand} {ih : Run} (hih : IH P ih) (hho : HO P hd) {f : FuncId} {nx : I} {L N : List PB} {a : List V} {vo : V} (hlt : ltAll nx L = true) (h : canonK P hd ih f nx L a N vo = true) : CanonS P f L a N vo := by
  obtain ⟨h0, h1, hm⟩ := mkH_ok L h
  obtain ⟨D, h2, _⟩ := domK_ok _ h1
  obtain ⟨v, h', nx', ⟨hn, hs⟩, h3, _⟩ := callF_ok hih hho h2
  obtain ⟨s0, h4, _, hid⟩ := idS_ok L h3
  obtain ⟨s1, e1, rv, h5⟩ := mV_ok vo h4
  obtain ⟨s2, e2, hb, h6⟩ := mBs_ok _ h5
  obtain ⟨_, _, hdis⟩ := disK_ok _ h6
  have hm' : ∀ p x, h0.get p = some x → ∃ b ∈ L, b.p = p ∧ b.x = x := fun p x hp => (hm p x hp).resolve_left (by rw [T.get_lf]; simp)
  have hids : ∀ b ∈ L, s2.get b.p = some b.p := fun b hb => e2.le _ _ (e1.le _ _ (hid b hb))
  intro n0 e w vs hL hbase hinj ha hdom R hR
  have hfr : Fresh nx nx' e := fun b h1 _ => by
    cases hb : e b with
    | none => rfl
    | some q =>
      obtain ⟨c, hc, rfl⟩ := hdom b q hb
      have := (List.all_eq_true.1 hlt) c hc
      simp only [decide_eq_true_eq] at this
      omega
  refine hs n0 e w vs ⟨fun b x hbx => ?_, hbase, fun b b' x x' q q' g1 g2 g3 g4 g5 => ?_⟩ ha hfr R fun e' x w' hx st => ?_
  · obtain ⟨c, hc, rfl, rfl⟩ := hm' b x hbx
    exact hL c hc
  · obtain ⟨c, hc, rfl, _⟩ := hm' b x g1
    obtain ⟨c', hc', rfl, _⟩ := hm' b' x' g2
    exact hinj c hc c' hc' q q' g3 g4 g5
  · have hgl : Gl s2 e' (fun p => match s2.get p with | some q => e' q | none => e p) := fun p q hp => by simp only [hp]
    have hblk : ∀ b ∈ L ++ N, ∃ q0 y q, s2.get b.p = some q0 ∧ h'.get q0 = some y ∧ e' q0 = some q ∧ (match s2.get b.p with | some q => e' q | none => e b.p) = some q ∧ n0 ≤ q.blk ∧ BR (fun p => match s2.get p with | some q => e' q | none => e p) w' q b.x := fun b hbm => by
      obtain ⟨q0, y, g1, g2, g3⟩ := hb b hbm
      obtain ⟨q, g4, g5, g6⟩ := st.sat.rd q0 y g2
      exact ⟨q0, y, q, g1, g2, g4, by simp only [g1]; exact g4, g5, (RB.den hgl g3).2 g6⟩
    refine hR (fun p => match s2.get p with | some q => e' q | none => e p) x w' ?_ (fun b hbm => ?_) (fun b hbm => ?_) (fun b hbm b' hbm' q q' g1 g2 g3 => ?_) st.fr.os st.fr.tape st.fr.output st.fr.size fun c hc ho => ?_
    · rw [(rv.ext e2) e' _ hgl]; exact hx
    · obtain ⟨q, g1, _⟩ := hL b hbm
      simp only [hids b hbm]
      rw [g1]; exact st.le _ _ g1
    · obtain ⟨q0, y, q, _, _, _, g4, g5, g6⟩ := hblk b hbm
      exact ⟨q, g4, g5, g6⟩
    · obtain ⟨p1, y1, r1, k1, k2, k3, k4, _⟩ := hblk b hbm
      obtain ⟨p2, y2, r2, m1, m2, m3, m4, _⟩ := hblk b' hbm'
      rw [k4] at g1; rw [m4] at g2
      cases g1; cases g2
      have := st.sat.inj p1 p2 y1 y2 _ _ k2 m2 k3 m3 g3
      subst this
      exact hdis b hbm b' hbm' p1 k1 m1
    · have hout : Out e h0 c := fun b x q hbx hq => by
        obtain ⟨d, hd, rfl, _⟩ := hm' b x hbx
        exact ho d hd q hq
      refine ⟨st.fr.keep c hc hout, fun b hbm q hq => ?_⟩
      obtain ⟨q0, y, r, k1, k2, k3, k4, _⟩ := hblk b hbm
      rw [k4] at hq; cases hq
      exact st.im c hc hout q0 y _ k2 k3
end Go.Sx
