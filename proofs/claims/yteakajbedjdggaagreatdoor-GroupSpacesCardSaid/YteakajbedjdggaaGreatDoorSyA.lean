import Derived.Test.YteakajbedjdggaaGreatDoorSxZ
/-
  Memos of calls that write to what they are given: blocks L before, La (the same blocks) after, N new.
-/
noncomputable section
namespace Go.Sx
open Go Go.RowKit

theorem layK_ok2 {s : T I} : ∀ (N : List PB) {h : H} {k : H → Bool}, layK s N h k = true → ∃ h2, k h2 = true ∧ ∀ p x, h2.get p = some x → (h.get p = some x ∧ ∀ b ∈ N, s.get b.p ≠ some p) ∨ ∃ b ∈ N, s.get b.p = some p ∧ RB s b.x x
  | [], h, k, hk => ⟨h, hk, fun _ _ h => .inl ⟨h, fun _ hb => (by cases hb)⟩⟩
  | b :: N, h, k, hk => by
    obtain ⟨q, hq, hk⟩ := onS_ok (show onS (s.get b.p) (fun q => renB s b.x fun y => h.putK q (some y) fun h => layK s N h k) = true from hk)
    obtain ⟨y, hy, hk⟩ := renB_ok hk
    rw [T.putK_eq] at hk
    obtain ⟨h2, hk, hm⟩ := layK_ok2 N hk
    refine ⟨h2, hk, fun p x hp => ?_⟩
    rcases hm p x hp with ⟨h1, h0⟩ | ⟨c, hc, h1⟩
    · rcases T.get_put h q p (some y) with ⟨g1, g2⟩ | ⟨g1, g2⟩
      · rw [g2] at h1; cases h1; exact .inr ⟨b, by simp, by rw [hq, g1], hy⟩
      · rw [g2] at h1
        refine .inl ⟨h1, fun c hc => ?_⟩
        rcases List.mem_cons.1 hc with rfl | hc
        · rw [hq]; intro hh; cases hh; exact g1 rfl
        · exact h0 c hc
    · exact .inr ⟨c, by simp [hc], h1⟩

/-- a call's contract on arguments that are known up to the blocks' places: blocks L lie as they lay before, as La says behind it, blocks N are new -/
def CanonC (P : Program) (f : FuncId) (L : List PB) (a : List V) (La N : List PB) (vo : V) : Prop :=
  ∀ (n0 : Nat) (e : Env) (w : World) (vs : List Value), (∀ b ∈ L, ∃ q, e b.p = some q ∧ n0 ≤ q.blk ∧ BR e w q b.x) → n0 ≤ w.heap.size →
    (∀ b ∈ L, ∀ b' ∈ L, ∀ q q', e b.p = some q → e b'.p = some q' → q.blk = q'.blk → b.p = b'.p) → denL e a = some vs → (∀ p q, e p = some q → ∃ b ∈ L, b.p = p) → ∀ R : Ending → World → Prop,
    (∀ (ep : Env) (x : Value) (w' : World), den ep vo = some x → (∀ b ∈ L, ep b.p = e b.p) → (∀ b ∈ La ++ N, ∃ q, ep b.p = some q ∧ n0 ≤ q.blk ∧ BR ep w' q b.x) →
      (∀ b ∈ La ++ N, ∀ b' ∈ La ++ N, ∀ q q', ep b.p = some q → ep b'.p = some q' → q.blk = q'.blk → b.p = b'.p) → w'.os = w.os → w'.tape = w.tape → w'.output = w.output → w.heap.size ≤ w'.heap.size →
      (∀ c, c < w.heap.size → (∀ b ∈ L, ∀ q, e b.p = some q → q.blk ≠ c) → w'.heap[c]? = w.heap[c]? ∧ ∀ b ∈ La ++ N, ∀ q, ep b.p = some q → q.blk ≠ c) → R (.returned x) w') → Calls P f vs.toArray w R
def canonC (P : Program) (hd : Hand) (ih : Run) (f : FuncId) (nx : I) (L : List PB) (a : List V) (La N : List PB) (vo : V) : Bool :=
  mkH L .lf fun h0 => domK (L ++ N) .lf fun D => callF P hd f ih a h0 nx fun v h' _ => idS L .lf fun s => mV D vo v s fun s => mBs D h' (La ++ N) s fun s => disK s (La ++ N) .lf true
theorem canonC_ok {P : Program} {hd : Hand} {ih : Run} (hih : IH P ih) (hho : HO P hd) {f : FuncId} {nx : I} {L La N : List PB} {a : List V} {vo : V} (hlt : ltAll nx L = true) (h : canonC P hd ih f nx L a La N vo = true) : CanonC P f L a La N vo := by
  obtain ⟨h0, h1, hm⟩ := mkH_ok L h
  obtain ⟨D, h2, _⟩ := domK_ok _ h1
  obtain ⟨v, h', nx', ⟨hn, hs⟩, h3, _⟩ := callF_ok hih hho h2
  obtain ⟨s0, h4, _, hid⟩ := idS_ok L h3
  obtain ⟨s1, e1, rv, h5⟩ := mV_ok vo h4
  obtain ⟨s2, e2, hb, h6⟩ := mBs_ok _ h5
  obtain ⟨_, _, hdis⟩ := disK_ok _ h6
  have hm' : ∀ p x, h0.get p = some x → ∃ b ∈ L, b.p = p ∧ b.x = x := fun p x hp => (hm p x hp).resolve_left (by rw [T.get_lf]; simp)
  have hids : ∀ b ∈ L, s2.get b.p = some b.p := fun b hb => e2.le _ _ (e1.le _ _ (hid b hb))
  intro n0 e w vs hL hbase hinj ha hdom R hR
  have hfr : Fresh nx nx' e := fun b h1 _ => by
    cases hb : e b with
    | none => rfl
    | some q =>
      obtain ⟨c, hc, rfl⟩ := hdom b q hb
      have := (List.all_eq_true.1 hlt) c hc
      simp only [decide_eq_true_eq] at this
      omega
  refine hs n0 e w vs ⟨fun b x hbx => ?_, hbase, fun b b' x x' q q' g1 g2 g3 g4 g5 => ?_⟩ ha hfr R fun e' x w' hx st => ?_
  · obtain ⟨c, hc, rfl, rfl⟩ := hm' b x hbx
    exact hL c hc
  · obtain ⟨c, hc, rfl, _⟩ := hm' b x g1
    obtain ⟨c', hc', rfl, _⟩ := hm' b' x' g2
    exact hinj c hc c' hc' q q' g3 g4 g5
  · have hgl : Gl s2 e' (fun p => match s2.get p with | some q => e' q | none => e p) := fun p q hp => by simp only [hp]
    have hblk : ∀ b ∈ La ++ N, ∃ q0 y q, s2.get b.p = some q0 ∧ h'.get q0 = some y ∧ e' q0 = some q ∧ (match s2.get b.p with | some q => e' q | none => e b.p) = some q ∧ n0 ≤ q.blk ∧ BR (fun p => match s2.get p with | some q => e' q | none => e p) w' q b.x := fun b hbm => by
      obtain ⟨q0, y, g1, g2, g3⟩ := hb b hbm
      obtain ⟨q, g4, g5, g6⟩ := st.sat.rd q0 y g2
      exact ⟨q0, y, q, g1, g2, g4, by simp only [g1]; exact g4, g5, (RB.den hgl g3).2 g6⟩
    refine hR (fun p => match s2.get p with | some q => e' q | none => e p) x w' ?_ (fun b hbm => ?_) (fun b hbm => ?_) (fun b hbm b' hbm' q q' g1 g2 g3 => ?_) st.fr.os st.fr.tape st.fr.output st.fr.size fun c hc ho => ?_
    · rw [(rv.ext e2) e' _ hgl]; exact hx
    · obtain ⟨q, g1, _⟩ := hL b hbm
      simp only [hids b hbm]
      rw [g1]; exact st.le _ _ g1
    · obtain ⟨q0, y, q, _, _, _, g4, g5, g6⟩ := hblk b hbm
      exact ⟨q, g4, g5, g6⟩
    · obtain ⟨p1, y1, r1, k1, k2, k3, k4, _⟩ := hblk b hbm
      obtain ⟨p2, y2, r2, m1, m2, m3, m4, _⟩ := hblk b' hbm'
      rw [k4] at g1; rw [m4] at g2
      cases g1; cases g2
      have := st.sat.inj p1 p2 y1 y2 _ _ k2 m2 k3 m3 g3
      subst this
      exact hdis b hbm b' hbm' p1 k1 m1
    · have hout : Out e h0 c := fun b x q hbx hq => by
        obtain ⟨d, hd, rfl, _⟩ := hm' b x hbx
        exact ho d hd q hq
      refine ⟨st.fr.keep c hc hout, fun b hbm q hq => ?_⟩
      obtain ⟨q0, y, r, k1, k2, k3, k4, _⟩ := hblk b hbm
      rw [k4] at hq; cases hq
      exact st.im c hc hout q0 y _ k2 k3

/-- the same blocks, in the same order -/
def sameP (L La : List PB) : Bool := List.rec (motive := fun _ => List PB → Bool) (fun l => List.rec (motive := fun _ => Bool) true (fun _ _ _ => false) l) (fun b _ ih l => List.rec (motive := fun _ => Bool) false (fun c r _ => gd (I.same b.p c.p) (ih r)) l) L La
theorem sameP_ok : ∀ {L La : List PB}, sameP L La = true → (∀ b ∈ L, ∃ c ∈ La, c.p = b.p) ∧ ∀ c ∈ La, ∃ b ∈ L, b.p = c.p
  | [], [], _ => ⟨fun _ h => (by cases h), fun _ h => (by cases h)⟩
  | b :: L, c :: La, h => by
    obtain ⟨h1, h2⟩ := gd_ok (show gd (I.same b.p c.p) (sameP L La) = true from h)
    have h1 := I.same_ok h1
    obtain ⟨h3, h4⟩ := sameP_ok h2
    refine ⟨fun x hx => ?_, fun x hx => ?_⟩
    · rcases List.mem_cons.1 hx with rfl | hx
      · exact ⟨c, by simp, h1.symm⟩
      · obtain ⟨y, hy, e⟩ := h3 x hx
        exact ⟨y, by simp [hy], e⟩
    · rcases List.mem_cons.1 hx with rfl | hx
      · exact ⟨b, by simp, h1⟩
      · obtain ⟨y, hy, e⟩ := h4 x hx
        exact ⟨y, by simp [hy], e⟩
  | [], _ :: _, h => absurd h Bool.false_ne_true
  | _ :: _, [], h => absurd h Bool.false_ne_true
def memoC (L : List PB) (a : List V) (La N : List PB) (vo : V) : HF := fun args h nx k =>
  domK L .lf fun D => mLr D a args .lf fun s => mBs D h L s fun s => gd (disK s L .lf true) (gd (sameP L La) (newK N s nx fun s2 nx2 => layK s2 (La ++ N) h fun h2 => renK s2 vo fun v => k v h2 nx2))
theorem memoC_ok {P : Program} {f : FuncId} {L La N : List PB} {a : List V} {vo : V} (hc : CanonC P f L a La N vo) {args : List V} {h : H} {nx : I} {k : KC} (hk : memoC L a La N vo args h nx k = true) :
    ∃ v h' nx', SemF P f args h nx v h' nx' ∧ k v h' nx' = true := by
  obtain ⟨D, hk, hD⟩ := domK_ok L hk
  obtain ⟨s1, e1, ra, hk⟩ := mLr_ok a hk
  obtain ⟨s, e2, hb, hk⟩ := mBs_ok L hk
  obtain ⟨hd, hk⟩ := gd_ok hk
  obtain ⟨_, _, hdis⟩ := disK_ok L hd
  obtain ⟨hsp, hk⟩ := gd_ok hk
  obtain ⟨hsp1, hsp2⟩ := sameP_ok hsp
  obtain ⟨s2, nx2, hk, hnx, hle, hnew, hcase, hinjN⟩ := newK_ok N hk
  obtain ⟨h2, hk, hlay⟩ := layK_ok2 _ hk
  obtain ⟨v, hv, hk⟩ := renK_ok vo hk
  have hdom : ∀ p q, s.get p = some q → ∃ b ∈ L, b.p = p := fun p q hp => by
    have hh : ∀ x, D.get p = some x → ∃ b ∈ L, b.p = p := fun x hx => (hD p x hx).resolve_left (by rw [T.get_lf]; simp)
    rcases e2.dom p q hp with g | ⟨x, g⟩
    · rcases e1.dom p q g with g | ⟨x, g⟩
      · rw [T.get_lf] at g; cases g
      · exact hh x g
    · exact hh x g
  refine ⟨v, h2, nx2, ⟨hnx, fun n0 e w vs st hvs fr R hR => ?_⟩, hk⟩
  have hgl : Gl s e (fun p => (s.get p).bind e) := fun p q hp => by simp only [hp, Option.bind_some]
  -- the arguments' blocks
  have hblk : ∀ b ∈ L, ∃ q y l, s.get b.p = some q ∧ h.get q = some y ∧ e q = some l ∧ RB s b.x y ∧ n0 ≤ l.blk ∧ BR e w l y := fun b hbm => by
    obtain ⟨q, y, g1, g2, g3⟩ := hb b hbm
    obtain ⟨l, g4, g5, g6⟩ := st.rd q y g2
    exact ⟨q, y, l, g1, g2, g4, g3, g5, g6⟩
  have hnone : ∀ b : I, nx.nat ≤ b.nat → b.nat < nx2.nat → e b = none := fr
  refine hc n0 (fun p => (s.get p).bind e) w vs (fun b hbm => ?_) st.base (fun b hbm b' hbm' q q' g1 g2 g3 => ?_) ?_ (fun p q hp => ?_) R fun ep x w' hx hsame hall hinj hos htape hout hsize hkeep => ?_
  · obtain ⟨q, y, l, g1, g2, g3, g4, g5, g6⟩ := hblk b hbm
    exact ⟨l, by simp only [g1, Option.bind_some]; exact g3, g5, (RB.den hgl g4).2 g6⟩
  · obtain ⟨p1, y1, l1, k1, k2, k3, _⟩ := hblk b hbm
    obtain ⟨p2, y2, l2, m1, m2, m3, _⟩ := hblk b' hbm'
    simp only [k1, Option.bind_some] at g1
    simp only [m1, Option.bind_some] at g2
    have := st.inj p1 p2 y1 y2 _ _ k2 m2 g1 g2 g3
    subst this
    exact hdis b hbm b' hbm' p1 k1 m1
  · rw [(ra.ext e2) e _ hgl]; exact hvs
  · cases hs : s.get p with
    | none => simp only [hs, Option.bind_none] at hp; cases hp
    | some r => exact hdom p r hs
  · -- the new environment
    classical
    let E2 : Env := fun b => if hh : ∃ c ∈ N, s2.get c.p = some b then ep hh.choose.p else e b
    have hE2n : ∀ c ∈ N, ∀ b, s2.get c.p = some b → E2 b = ep c.p := fun c hcm b hb => by
      have hh : ∃ c ∈ N, s2.get c.p = some b := ⟨c, hcm, hb⟩
      show (if hh : ∃ c ∈ N, s2.get c.p = some b then ep hh.choose.p else e b) = _
      rw [dif_pos hh]
      rw [hinjN _ hh.choose_spec.1 c hcm b hh.choose_spec.2 hb]
    have hE2o : ∀ b, (b.nat < nx.nat ∨ nx2.nat ≤ b.nat) → E2 b = e b := fun b hb => by
      show (if hh : ∃ c ∈ N, s2.get c.p = some b then ep hh.choose.p else e b) = _
      rw [dif_neg]
      rintro ⟨c, hcm, g⟩
      obtain ⟨q, g1, g2, g3⟩ := hnew c hcm
      rw [g] at g1; cases g1
      omega
    have hE2e : ∀ b l, e b = some l → E2 b = some l := fun b l hb => by
      rw [hE2o b, hb]
      apply Classical.byContradiction
      intro hn
      rw [hnone b (by omega) (by omega)] at hb
      cases hb
    have hepL : ∀ b ∈ L, ∀ q l, s.get b.p = some q → e q = some l → ep b.p = some l := fun b hbm q l g1 g2 => by
      rw [hsame b hbm]; simp only [g1, Option.bind_some]; exact g2
    have hgl2 : Gl s2 E2 ep := fun p q hp => by
      rcases hcase p q hp with g | ⟨c, hcm, g⟩
      · obtain ⟨b, hbm, rfl⟩ := hdom p q g
        obtain ⟨q', y, l, g1, g2, g3, _⟩ := hblk b hbm
        rw [g] at g1; cases g1
        rw [hepL b hbm q l g g3, hE2e q l g3]
      · subst g
        exact (hE2n c hcm q hp).symm
    have hmemN : ∀ b ∈ N, b ∈ La ++ N := fun b hbm => List.mem_append_right _ hbm
    -- every block that is known: where it lies
    have hkn : ∀ p y, h2.get p = some y → (∃ b ∈ La ++ N, ∃ l, s2.get b.p = some p ∧ RB s2 b.x y ∧ ep b.p = some l ∧ E2 p = some l) ∨ (∃ l, h.get p = some y ∧ e p = some l ∧ E2 p = some l ∧ ∀ b ∈ L, s.get b.p ≠ some p) := fun p y hp => by
      rcases hlay p y hp with ⟨g, g0⟩ | ⟨b, hbm, g1, g2⟩
      · obtain ⟨l, k1, _⟩ := st.rd p y g
        refine .inr ⟨l, g, k1, hE2e p l k1, fun b hb hh => ?_⟩
        obtain ⟨c, hc, e1⟩ := hsp1 b hb
        exact g0 c (List.mem_append_left _ hc) (by rw [e1]; exact hle _ _ hh)
      · obtain ⟨l, k1, _⟩ := hall b hbm
        refine .inl ⟨b, hbm, l, g1, g2, k1, ?_⟩
        rcases List.mem_append.1 hbm with hl | hn
        · obtain ⟨c, hc, e1⟩ := hsp2 b hl
          obtain ⟨q, y', l', r1, r2, r3, _⟩ := hblk c hc
          have r4 := hle _ _ r1
          rw [e1, g1] at r4; cases r4
          have r5 := hepL c hc _ _ r1 r3
          rw [e1, k1] at r5; cases r5
          exact hE2e _ _ r3
        · rw [hE2n b hn p g1]; exact k1
    have hold : ∀ p y l, h.get p = some y → e p = some l → l.blk < w.heap.size := fun p y l g1 g2 => by
      obtain ⟨l', k1, _, k3⟩ := st.rd p y g1
      rw [g2] at k1; cases k1
      exact k3.lt
    have hout1 : ∀ c, (∀ b ∈ L, ∀ q, (fun p => (s.get p).bind e) b.p = some q → q.blk ≠ c) ∨ ∃ b ∈ L, ∃ q l y, s.get b.p = some q ∧ h.get q = some y ∧ e q = some l ∧ l.blk = c := fun c => by
      by_cases hh : ∃ b ∈ L, ∃ q l y, s.get b.p = some q ∧ h.get q = some y ∧ e q = some l ∧ l.blk = c
      · exact .inr hh
      · refine .inl fun b hbm q hq hc' => hh ?_
        obtain ⟨q', y, l, g1, g2, g3, _⟩ := hblk b hbm
        simp only [g1, Option.bind_some] at hq
        exact ⟨b, hbm, q', q, y, g1, g2, hq, hc'⟩
    -- what is known as it was lies apart from L
    have hfar : ∀ p y l, h.get p = some y → e p = some l → (∀ b ∈ L, s.get b.p ≠ some p) → ∀ b ∈ L, ∀ q, (fun p => (s.get p).bind e) b.p = some q → q.blk ≠ l.blk := fun p y l g1 g2 g0 => by
      rcases hout1 l.blk with ho | ⟨b, hbm, q, l2, y2, m1, m2, m3, m4⟩
      · exact ho
      · have := st.inj q p y2 y l2 l m2 g1 m3 g2 m4
        subst this
        exact absurd m1 (g0 b hbm)
    have hrd : Rd n0 E2 h2 w' := fun p y hp => by
      rcases hkn p y hp with ⟨b, hbm, l, g1, g2, g3, g4⟩ | ⟨l, g1, g2, g3, g0⟩
      · obtain ⟨l', k1, k2, k3⟩ := hall b hbm
        rw [g3] at k1; cases k1
        exact ⟨l, g4, k2, (RB.den hgl2 g2).1 k3⟩
      · obtain ⟨l', k1, k2, k3⟩ := st.rd p y g1
        rw [g2] at k1; cases k1
        exact ⟨l, g3, k2, (k3.world (hkeep _ k3.lt (hfar p y l g1 g2 g0)).1).mono (fun c l hc => hE2e c l hc)⟩
    refine hR E2 x w' ?_ ⟨⟨hrd, Nat.le_trans st.base hsize, fun p1 p2 y1 y2 l1 l2 a1 a2 a3 a4 a5 => ?_⟩, fun b l hb => hE2e b l hb, hE2o, ⟨hos, htape, hout, hsize, fun c hcs ho => ?_⟩, fun c hcs ho p y l hp hl => ?_, hnx⟩
    · rw [← hv E2 ep hgl2]; exact hx
    · have cross : ∀ b ∈ La ++ N, ∀ l l', ep b.p = some l → ∀ p' y, h.get p' = some y → e p' = some l' → (∀ b ∈ L, s.get b.p ≠ some p') → l.blk = l'.blk → False := fun b hbm l l' g2 p' y g3 g4 g0 g5 =>
        (hkeep _ (hold p' y l' g3 g4) (hfar p' y l' g3 g4 g0)).2 b hbm l g2 g5
      rcases hkn p1 y1 a1 with ⟨b1, hb1, r1, g1, _, g3, g4⟩ | ⟨r1, g1, g2, g3, g0⟩ <;> rcases hkn p2 y2 a2 with ⟨b2, hb2, r2, t1, _, t3, t4⟩ | ⟨r2, t1, t2, t3, t0⟩
      · rw [g4] at a3; cases a3; rw [t4] at a4; cases a4
        have := hinj b1 hb1 b2 hb2 _ _ g3 t3 a5
        rw [this, t1] at g1; cases g1; rfl
      · rw [g4] at a3; cases a3; rw [t3] at a4; cases a4
        exact (cross b1 hb1 _ _ g3 p2 _ t1 t2 t0 a5).elim
      · rw [g3] at a3; cases a3; rw [t4] at a4; cases a4
        exact (cross b2 hb2 _ _ t3 p1 _ g1 g2 g0 a5.symm).elim
      · rw [g3] at a3; cases a3; rw [t3] at a4; cases a4
        exact st.inj p1 p2 y1 y2 _ _ g1 t1 g2 t2 a5
    · exact (hkeep c hcs fun b hbm q hq => by
        obtain ⟨q', y, l, g1, g2, g3, _⟩ := hblk b hbm
        simp only [g1, Option.bind_some] at hq
        exact ho q' y q g2 hq).1
    · rcases hkn p y hp with ⟨b, hbm, r, g1, _, g3, g4⟩ | ⟨r, g1, g2, g3, _⟩
      · rw [g4] at hl; cases hl
        exact (hkeep c hcs fun b hbm q hq => by
          obtain ⟨q', y, l, g1, g2, g3, _⟩ := hblk b hbm
          simp only [g1, Option.bind_some] at hq
          exact ho q' y q g2 hq).2 b hbm _ g3
      · rw [g3] at hl; cases hl
        exact ho p y _ g1 g2
theorem memoC_run {P : Program} {hd : Hand} (hho : HO P hd) {n : Nat} {f : FuncId} {nx : I} {L La N : List PB} {a : List V} {vo : V} (h : gd (ltAll nx L) (canonC P hd (run P hd n) f nx L a La N vo) = true) : Snd P f (memoC L a La N vo) := fun _ _ _ _ hk =>
  memoC_ok (canonC_ok (run_ok hho n) hho (gd_ok h).1 (gd_ok h).2) hk
end Go.Sx
namespace Go.Sx
/-- many checks at once (the kernel's caches serve them all) -/
def andB (l : List Bool) : Bool := List.rec (motive := fun _ => Bool) true (fun x _ ih => gd x ih) l
theorem andB_ok : ∀ {l : List Bool}, andB l = true → ∀ (k : Nat) (b : Bool), l[k]? = some b → b = true
  | [], _, _, _, h => (by simp at h)
  | x :: l, h, 0, b, hb => by
    obtain ⟨h1, _⟩ := gd_ok (show gd x (andB l) = true from h)
    simp only [List.getElem?_cons_zero, Option.some.injEq] at hb
    rw [← hb]; exact h1
  | x :: l, h, k + 1, b, hb => by
    obtain ⟨_, h2⟩ := gd_ok (show gd x (andB l) = true from h)
    exact andB_ok h2 k b (by simpa using hb)
end Go.Sx
namespace Go.Sx
/-! the same, the blocks' numbers gathered once (a closed term, so that a pattern that does not fit costs little) -/
def domT (L : List PB) : T Bool → T Bool := List.rec (motive := fun _ => T Bool → T Bool) (fun s => s) (fun b _ ih s => ih (s.put b.p (some true))) L
theorem domK_eq : ∀ (L : List PB) (s : T Bool) (k : T Bool → Bool), domK L s k = k (domT L s)
  | [], _, _ => rfl
  | b :: L, s, k => by
    show s.putK b.p (some true) (fun s => domK L s k) = _
    rw [T.putK_eq, domK_eq L]
    rfl
def memoK2 (L : List PB) (a : List V) (N : List PB) (vo : V) : HF := fun args h nx k =>
  mLr (domT L .lf) a args .lf fun s => mBs (domT L .lf) h L s fun s => gd (disK s L .lf true) (newK N s nx fun s2 nx2 => layK s2 N h fun h2 => renK s2 vo fun v => k v h2 nx2)
def memoC2 (L : List PB) (a : List V) (La N : List PB) (vo : V) : HF := fun args h nx k =>
  mLr (domT L .lf) a args .lf fun s => mBs (domT L .lf) h L s fun s => gd (disK s L .lf true) (gd (sameP L La) (newK N s nx fun s2 nx2 => layK s2 (La ++ N) h fun h2 => renK s2 vo fun v => k v h2 nx2))
theorem memoK2_eq (L : List PB) (a : List V) (N : List PB) (vo : V) (args : List V) (h : H) (nx : I) (k : KC) : memoK L a N vo args h nx k = memoK2 L a N vo args h nx k := domK_eq _ _ _
theorem memoC2_eq (L : List PB) (a : List V) (La N : List PB) (vo : V) (args : List V) (h : H) (nx : I) (k : KC) : memoC L a La N vo args h nx k = memoC2 L a La N vo args h nx k := domK_eq _ _ _
theorem memoK2_snd {P : Program} {f : FuncId} {L N : List PB} {a : List V} {vo : V} (h : Snd P f (memoK L a N vo)) : Snd P f (memoK2 L a N vo) := fun args hp nx k hk => h args hp nx k ((memoK2_eq ..).trans hk)
theorem memoC2_snd {P : Program} {f : FuncId} {L La N : List PB} {a : List V} {vo : V} (h : Snd P f (memoC L a La N vo)) : Snd P f (memoC2 L a La N vo) := fun args hp nx k hk => h args hp nx k ((memoC2_eq ..).trans hk)
/-- a call on a small memory of its own: blocks before, arguments, new blocks, result -/
structure Pk where
  nx : I
  L : List PB
  a : List V
  N : List PB
  vo : V
def Pk.hf (p : Pk) : HF := memoK2 p.L p.a p.N p.vo
def Pk.ck (p : Pk) (P : Program) (hd : Hand) (n : Nat) (f : FuncId) : Bool := gd (ltAll p.nx p.L) (canonK P hd (run P hd n) f p.nx p.L p.a p.N p.vo)
theorem Pk.snd {p : Pk} {P : Program} {hd : Hand} {n : Nat} {f : FuncId} (hho : HO P hd) (h : p.ck P hd n f = true) : Snd P f p.hf := memoK2_snd (memo_run hho h)
/-- the same of a call that writes to what it is given: La behind it -/
structure Pc where
  nx : I
  L : List PB
  a : List V
  La : List PB
  N : List PB
  vo : V
def Pc.hf (p : Pc) : HF := memoC2 p.L p.a p.La p.N p.vo
def Pc.ck (p : Pc) (P : Program) (hd : Hand) (n : Nat) (f : FuncId) : Bool := gd (ltAll p.nx p.L) (canonC P hd (run P hd n) f p.nx p.L p.a p.La p.N p.vo)
theorem Pc.snd {p : Pc} {P : Program} {hd : Hand} {n : Nat} {f : FuncId} (hho : HO P hd) (h : p.ck P hd n f = true) : Snd P f p.hf := memoC2_snd (memoC_run hho h)
end Go.Sx
