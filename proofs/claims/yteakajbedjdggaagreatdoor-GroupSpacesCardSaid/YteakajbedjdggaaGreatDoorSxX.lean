import Derived.Test.YteakajbedjdggaaGreatDoorSxW
/-
  'memo_ok': the answer of a call, found once, wherever the arguments fit.
-/
noncomputable section
namespace Go.Sx
open Go Go.RowKit

def memoK (L : List PB) (a : List V) (N : List PB) (vo : V) : HF := fun args h nx k =>
  domK L .lf fun D => mLr D a args .lf fun s => mBs D h L s fun s => gd (disK s L .lf true) (newK N s nx fun s2 nx2 => layK s2 N h fun h2 => renK s2 vo fun v => k v h2 nx2)
theorem memo_ok {P : Program} {f : FuncId} {L N : List PB} {a : List V} {vo : V} (hc : CanonS P f L a N vo) {args : List V} {h : H} {nx : I} {k : KC} (hk : memoK L a N vo args h nx k = true) :
    ∃ v h' nx', SemF P f args h nx v h' nx' ∧ k v h' nx' = true := by
  obtain ⟨D, hk, hD⟩ := domK_ok L hk
  obtain ⟨s1, e1, ra, hk⟩ := mLr_ok a hk
  obtain ⟨s, e2, hb, hk⟩ := mBs_ok L hk
  obtain ⟨hd, hk⟩ := gd_ok hk
  obtain ⟨_, _, hdis⟩ := disK_ok L hd
  obtain ⟨s2, nx2, hk, hnx, hle, hnew, hcase, hinjN⟩ := newK_ok N hk
  obtain ⟨h2, hk, hlay⟩ := layK_ok N hk
  obtain ⟨v, hv, hk⟩ := renK_ok vo hk
  have hdom : ∀ p q, s.get p = some q → ∃ b ∈ L, b.p = p := fun p q hp => by
    have hh : ∀ x, D.get p = some x → ∃ b ∈ L, b.p = p := fun x hx => (hD p x hx).resolve_left (by rw [T.get_lf]; simp)
    rcases e2.dom p q hp with g | ⟨x, g⟩
    · rcases e1.dom p q g with g | ⟨x, g⟩
      · rw [T.get_lf] at g; cases g
      · exact hh x g
    · exact hh x g
  refine ⟨v, h2, nx2, ⟨hnx, fun n0 e w vs st hvs fr R hR => ?_⟩, hk⟩
  have hgl : Gl s e (fun p => (s.get p).bind e) := fun p q hp => by simp only [hp, Option.bind_some]
  -- the arguments' blocks
  have hblk : ∀ b ∈ L, ∃ q y l, s.get b.p = some q ∧ h.get q = some y ∧ e q = some l ∧ RB s b.x y ∧ n0 ≤ l.blk ∧ BR e w l y := fun b hbm => by
    obtain ⟨q, y, g1, g2, g3⟩ := hb b hbm
    obtain ⟨l, g4, g5, g6⟩ := st.rd q y g2
    exact ⟨q, y, l, g1, g2, g4, g3, g5, g6⟩
  have hnone : ∀ b : I, nx.nat ≤ b.nat → b.nat < nx2.nat → e b = none := fr
  refine hc n0 (fun p => (s.get p).bind e) w vs (fun b hbm => ?_) st.base (fun b hbm b' hbm' q q' g1 g2 g3 => ?_) ?_ (fun p q hp => ?_) R fun ep x w' hx hsame hall hinj hos htape hout hsize hkeep => ?_
  · obtain ⟨q, y, l, g1, g2, g3, g4, g5, g6⟩ := hblk b hbm
    exact ⟨l, by simp only [g1, Option.bind_some]; exact g3, g5, (RB.den hgl g4).2 g6⟩
  · obtain ⟨p1, y1, l1, k1, k2, k3, _⟩ := hblk b hbm
    obtain ⟨p2, y2, l2, m1, m2, m3, _⟩ := hblk b' hbm'
    simp only [k1, Option.bind_some] at g1
    simp only [m1, Option.bind_some] at g2
    have := st.inj p1 p2 y1 y2 _ _ k2 m2 g1 g2 g3
    subst this
    exact hdis b hbm b' hbm' p1 k1 m1
  · rw [(ra.ext e2) e _ hgl]; exact hvs
  · cases hs : s.get p with
    | none => simp only [hs, Option.bind_none] at hp; cases hp
    | some r => exact hdom p r hs
  · -- the new environment
    classical
    let E2 : Env := fun b => if hh : ∃ c ∈ N, s2.get c.p = some b then ep hh.choose.p else e b
    have hE2n : ∀ c ∈ N, ∀ b, s2.get c.p = some b → E2 b = ep c.p := fun c hcm b hb => by
      have hh : ∃ c ∈ N, s2.get c.p = some b := ⟨c, hcm, hb⟩
      show (if hh : ∃ c ∈ N, s2.get c.p = some b then ep hh.choose.p else e b) = _
      rw [dif_pos hh]
      rw [hinjN _ hh.choose_spec.1 c hcm b hh.choose_spec.2 hb]
    have hE2o : ∀ b, (b.nat < nx.nat ∨ nx2.nat ≤ b.nat) → E2 b = e b := fun b hb => by
      show (if hh : ∃ c ∈ N, s2.get c.p = some b then ep hh.choose.p else e b) = _
      rw [dif_neg]
      rintro ⟨c, hcm, g⟩
      obtain ⟨q, g1, g2, g3⟩ := hnew c hcm
      rw [g] at g1; cases g1
      omega
    have hE2e : ∀ b l, e b = some l → E2 b = some l := fun b l hb => by
      rw [hE2o b, hb]
      apply Classical.byContradiction
      intro hn
      rw [hnone b (by omega) (by omega)] at hb
      cases hb
    have hepL : ∀ b ∈ L, ∀ q l, s.get b.p = some q → e q = some l → ep b.p = some l := fun b hbm q l g1 g2 => by
      rw [hsame b hbm]; simp only [g1, Option.bind_some]; exact g2
    have hgl2 : Gl s2 E2 ep := fun p q hp => by
      rcases hcase p q hp with g | ⟨c, hcm, g⟩
      · obtain ⟨b, hbm, rfl⟩ := hdom p q g
        obtain ⟨q', y, l, g1, g2, g3, _⟩ := hblk b hbm
        rw [g] at g1; cases g1
        rw [hepL b hbm q l g g3, hE2e q l g3]
      · subst g
        exact (hE2n c hcm q hp).symm
    have hmemL : ∀ b ∈ L, b ∈ L ++ N := fun b hbm => List.mem_append_left _ hbm
    have hmemN : ∀ b ∈ N, b ∈ L ++ N := fun b hbm => List.mem_append_right _ hbm
    -- every block that is known: where it lies
    have hkn : ∀ p y, h2.get p = some y → (∃ b ∈ N, ∃ l, s2.get b.p = some p ∧ RB s2 b.x y ∧ ep b.p = some l ∧ E2 p = some l) ∨ (∃ l, h.get p = some y ∧ e p = some l ∧ E2 p = some l) := fun p y hp => by
      rcases hlay p y hp with g | ⟨b, hbm, g1, g2⟩
      · obtain ⟨l, k1, _⟩ := st.rd p y g
        exact .inr ⟨l, g, k1, hE2e p l k1⟩
      · obtain ⟨l, k1, _⟩ := hall b (hmemN b hbm)
        exact .inl ⟨b, hbm, l, g1, g2, k1, by rw [hE2n b hbm p g1]; exact k1⟩
    have hold : ∀ p y l, h.get p = some y → e p = some l → l.blk < w.heap.size := fun p y l g1 g2 => by
      obtain ⟨l', k1, _, k3⟩ := st.rd p y g1
      rw [g2] at k1; cases k1
      exact k3.lt
    have hout1 : ∀ c, (∀ b ∈ L, ∀ q, (fun p => (s.get p).bind e) b.p = some q → q.blk ≠ c) ∨ ∃ b ∈ L, ∃ q l y, s.get b.p = some q ∧ h.get q = some y ∧ e q = some l ∧ l.blk = c := fun c => by
      by_cases hh : ∃ b ∈ L, ∃ q l y, s.get b.p = some q ∧ h.get q = some y ∧ e q = some l ∧ l.blk = c
      · exact .inr hh
      · refine .inl fun b hbm q hq hc' => hh ?_
        obtain ⟨q', y, l, g1, g2, g3, _⟩ := hblk b hbm
        simp only [g1, Option.bind_some] at hq
        exact ⟨b, hbm, q', q, y, g1, g2, hq, hc'⟩
    have hrd : Rd n0 E2 h2 w' := fun p y hp => by
      rcases hkn p y hp with ⟨b, hbm, l, g1, g2, g3, g4⟩ | ⟨l, g1, g2, g3⟩
      · obtain ⟨l', k1, k2, k3⟩ := hall b (hmemN b hbm)
        rw [g3] at k1; cases k1
        exact ⟨l, g4, k2, (RB.den hgl2 g2).1 k3⟩
      · obtain ⟨l', k1, k2, k3⟩ := st.rd p y g1
        rw [g2] at k1; cases k1
        refine ⟨l, g3, k2, ?_⟩
        rcases hout1 l.blk with ho | ⟨b, hbm, q, l2, y2, m1, m2, m3, m4⟩
        · exact (k3.world (hkeep _ k3.lt ho).1).mono (fun c l hc => hE2e c l hc)
        · have := st.inj q p y2 y l2 l m2 g1 m3 g2 m4
          subst this
          rw [g2] at m3; cases m3
          rw [g1] at m2; cases m2
          obtain ⟨q', y', l', r1, r2, r3, r4, _⟩ := hblk b hbm
          rw [m1] at r1; cases r1
          rw [g1] at r2; cases r2
          obtain ⟨l3, t1, t2, t3⟩ := hall b (hmemL b hbm)
          rw [hepL b hbm _ _ m1 g2] at t1; cases t1
          exact (RB.den hgl2 (r4.le hle)).1 t3
    refine hR E2 x w' ?_ ⟨⟨hrd, Nat.le_trans st.base hsize, fun p1 p2 y1 y2 l1 l2 a1 a2 a3 a4 a5 => ?_⟩, fun b l hb => hE2e b l hb, hE2o, ⟨hos, htape, hout, hsize, fun c hcs ho => ?_⟩, fun c hcs ho p y l hp hl => ?_, hnx⟩
    · rw [← hv E2 ep hgl2]; exact hx
    · have cross : ∀ b ∈ N, ∀ p l l' y, s2.get b.p = some p → ep b.p = some l → ∀ p', h.get p' = some y → e p' = some l' → l.blk = l'.blk → p = p' := fun b hbm p l l' y g1 g2 p' g3 g4 g5 => by
        rcases hout1 l'.blk with ho | ⟨b2, hbm2, q, l2, y2, m1, m2, m3, m4⟩
        · exact absurd g5 ((hkeep _ (hold p' y l' g3 g4) ho).2 b (hmemN b hbm) l g2)
        · have hp := hinj b (hmemN b hbm) b2 (hmemL b2 hbm2) l l2 g2 (hepL b2 hbm2 q l2 m1 m3) (g5.trans m4.symm)
          have hq := st.inj q p' y2 y l2 l' m2 g3 m3 g4 m4
          have := hle _ _ m1
          rw [← hp, g1] at this
          cases this
          exact hq
      rcases hkn p1 y1 a1 with ⟨b1, hb1, r1, g1, _, g3, g4⟩ | ⟨r1, g1, g2, g3⟩ <;> rcases hkn p2 y2 a2 with ⟨b2, hb2, r2, t1, _, t3, t4⟩ | ⟨r2, t1, t2, t3⟩
      · rw [g4] at a3; cases a3; rw [t4] at a4; cases a4
        have := hinj b1 (hmemN b1 hb1) b2 (hmemN b2 hb2) _ _ g3 t3 a5
        rw [this, t1] at g1; cases g1; rfl
      · rw [g4] at a3; cases a3; rw [t3] at a4; cases a4
        exact cross b1 hb1 p1 _ _ y2 g1 g3 p2 t1 t2 a5
      · rw [g3] at a3; cases a3; rw [t4] at a4; cases a4
        exact (cross b2 hb2 p2 _ _ y1 t1 t3 p1 g1 g2 a5.symm).symm
      · rw [g3] at a3; cases a3; rw [t3] at a4; cases a4
        exact st.inj p1 p2 y1 y2 _ _ g1 t1 g2 t2 a5
    · exact (hkeep c hcs fun b hbm q hq => by
        obtain ⟨q', y, l, g1, g2, g3, _⟩ := hblk b hbm
        simp only [g1, Option.bind_some] at hq
        exact ho q' y q g2 hq).1
    · rcases hkn p y hp with ⟨b, hbm, r, g1, _, g3, g4⟩ | ⟨r, g1, g2, g3⟩
      · rw [g4] at hl; cases hl
        exact (hkeep c hcs fun b hbm q hq => by
          obtain ⟨q', y, l, g1, g2, g3, _⟩ := hblk b hbm
          simp only [g1, Option.bind_some] at hq
          exact ho q' y q g2 hq).2 b (hmemN b hbm) _ g3
      · rw [g3] at hl; cases hl
        exact ho p y _ g1 g2
end Go.Sx
