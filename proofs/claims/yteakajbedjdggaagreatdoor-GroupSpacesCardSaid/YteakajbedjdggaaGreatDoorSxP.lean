import Derived.Test.YteakajbedjdggaaGreatDoorSxO
/-
  A region that draws its order: one more operation; the end; the law of the region.
-/
namespace Go.Sx
open Go Go.RowKit
section
variable {P : Program} {hd : Hand} {ih : Run} {ops : Array Oper} {n : Nat} {tm0 : T V} {h0 : H} {nx0 : I} {f : Nat → Rc} {G : Nat → H} {AL : Nat → List Al} {nxE : I} {n0 : Nat} {e0 : Env} {w0 : World} {df : List I} {l : Array Bool} {k : Nat} {e : Env} {a : Act} {w : World}
theorem eff_cls {j y : Nat} (hj : (effs P ops)[j]? = some y) {o : Oper} (ho : ops[y]? = some o) : cls P o.op = .e := by
  have hy := List.mem_of_getElem? hj
  unfold effs at hy
  rw [List.mem_filter] at hy
  have := hy.2
  simp only [ho] at this
  cases hc : cls P o.op <;> simp only [hc] at this <;> first | rfl | cases this
theorem eff_once {j k y : Nat} (hj : (effs P ops)[j]? = some y) (hk : (effs P ops)[k]? = some y) : j = k := by
  have hlt : j < (effs P ops).length := by
    rcases Nat.lt_or_ge j (effs P ops).length with h | h
    · exact h
    · rw [List.getElem?_eq_none h] at hj; cases hj
  have hnd : (effs P ops).Nodup := List.Pairwise.filter _ List.nodup_range
  exact (List.getElem?_inj hlt hnd).1 (hj.trans hk.symm)
/-- an operation that changes no memory -/
theorem si_plain (tr : Tr P ops n tm0 h0 nx0 f G AL nxE) (s : SI' P ops n tm0 h0 nx0 f G AL nxE n0 e0 w0 df l k e a w) {i : Nat} {o : Oper} (r : RcF P ops (msOf ops) (effs P ops) tm0 f G AL i o) (hni : ¬ In l i)
    (hr : ∀ e ∈ o.after, Region.binds .any e = true → In l e.on) (hcl : cls P o.op ≠ .e) (hna : cls P o.op = .a → (f i).w = false) {x : Value} (hx : den e (f i).v = some x) :
    SI' P ops n tm0 h0 nx0 f G AL nxE n0 e0 w0 df (l.setIfInBounds i true) k e (a.put o.dst x) w := by
  have hlt : i < l.size := by rw [s.size]; exact lt_of_get r.op
  obtain ⟨t1, t2, t3⟩ := tmps_step tr s r hni (Env.le_refl e) hx
  -- no listed block is that of i
  have hno : ∀ k' y, y ∈ AL k' → In (l.setIfInBounds i true) y.i → In l y.i := by
    intro k' y hy hin
    rcases (in_set hlt _).1 hin with h | h
    · exact h
    · obtain ⟨o', ho', hc', hw', _⟩ := tr.alf k' y hy
      rw [h, r.op] at ho'; cases ho'
      rw [h, hna hc'] at hw'; cases hw'
  exact {
    size := by simpa using s.size
    closed := closed_step s r.op hr
    kle := s.kle
    eff := fun j y hj => by
      rw [in_set hlt, s.eff j y hj]
      constructor
      · rintro (h | h)
        · exact h
        · subst h
          exact absurd (eff_cls hj r.op) hcl
      · exact .inl
    sat := s.sat
    al := fun k' y hk hy hin => s.al k' y hk hy (hno k' y hy hin)
    dis := fun k1 k2 x1 x2 q1 q2 h1 h2 h3 h4 h5 h6 => s.dis k1 k2 x1 x2 q1 q2 h1 h2 h3 h4 (hno k1 x1 h3 h5) (hno k2 x2 h4 h6)
    fresh := fun j hj hnj => s.fresh j hj fun h => hnj ((in_set hlt j).2 (.inl h))
    tmps := t1
    asize := t2
    adf := t3
    os := s.os
    tape := s.tape
    output := s.output
    wsize := s.wsize
    keep := s.keep
    im := fun c hc ho => ⟨(s.im c hc ho).1, fun k' y q hk hy hin => (s.im c hc ho).2 k' y q hk hy (hno k' y hy hin)⟩
    le := s.le
    out := s.out }
/-- an operation that lays a block -/
theorem si_alloc (tr : Tr P ops n tm0 h0 nx0 f G AL nxE) (s : SI' P ops n tm0 h0 nx0 f G AL nxE n0 e0 w0 df l k e a w) {i : Nat} {o : Oper} (r : RcF P ops (msOf ops) (effs P ops) tm0 f G AL i o) (hni : ¬ In l i)
    (hr : ∀ e ∈ o.after, Region.binds .any e = true → In l e.on) (hcl : cls P o.op = .a) (hq : (f i).q = (f i).p.inc) {w' : World} {q0 : Loc} (hnew : New w w') (hq0 : q0.blk = w.heap.size)
    (hb : BR (Env.upd e (f i).p q0) w' q0 (f i).x) {x : Value} (hx : den (Env.upd e (f i).p q0) (f i).v = some x) :
    SI' P ops n tm0 h0 nx0 f G AL nxE n0 e0 w0 df (l.setIfInBounds i true) k (Env.upd e (f i).p q0) (a.put o.dst x) w' := by
  have hlt : i < l.size := by rw [s.size]; exact lt_of_get r.op
  have hi : i < ops.size := lt_of_get r.op
  have hpn : e (f i).p = none := s.fresh i hi hni _ (Nat.le_refl _) (by rw [hq, I.nat_inc]; omega)
  have hle : e.le (Env.upd e (f i).p q0) := Env.le_upd hpn
  obtain ⟨t1, t2, t3⟩ := tmps_step tr s r hni hle hx
  have hold : ∀ b q, e b = some q → Env.upd e (f i).p q0 b = some q := fun b q hb => hle b q hb
  have hback : ∀ b q, b ≠ (f i).p → Env.upd e (f i).p q0 b = some q → e b = some q := fun b q hb hh => by rwa [Env.upd_ne hb] at hh
  have hgne : ∀ b y, (G k).get b = some y → b ≠ (f i).p := fun b y hb hh => by
    obtain ⟨q, h1, _⟩ := s.sat.rd b y hb
    rw [hh, hpn] at h1; cases h1
  have hglt : ∀ b y q, (G k).get b = some y → e b = some q → q.blk < w.heap.size := fun b y q hb hq => by
    obtain ⟨q', h1, _, h3⟩ := s.sat.rd b y hb
    rw [hq] at h1; cases h1
    exact h3.lt
  -- the block of i has no other name
  have hbi : ∀ k' y, y ∈ AL k' → (y.i = i ↔ y.b = (f i).p) := by
    intro k' y hy
    obtain ⟨o', ho', hc', hw', hk', hb', _⟩ := tr.alf k' y hy
    constructor
    · intro h; rw [hb', h]
    · intro h
      by_cases hh : y.i = i
      · exact hh
      · have h1 := tr.apart y.i i (lt_of_get ho') hi hh
        obtain ⟨oy, ry⟩ := tr.rc y.i (lt_of_get ho')
        have h2 := (ry.a (by have := ry.op; rw [ho'] at this; cases this; exact hc') hw').1
        rw [hb'] at h
        rw [h2, hq, I.nat_inc, I.nat_inc, h] at h1
        omega
  have hin : ∀ y : Al, y.i ≠ i → In (l.setIfInBounds i true) y.i → In l y.i := fun y hy h => by
    rcases (in_set hlt _).1 h with h | h
    · exact h
    · exact absurd h hy
  exact {
    size := by simpa using s.size
    closed := closed_step s r.op hr
    kle := s.kle
    eff := fun j y hj => by
      rw [in_set hlt, s.eff j y hj]
      constructor
      · rintro (h | h)
        · exact h
        · subst h
          have := eff_cls hj r.op
          rw [hcl] at this; cases this
      · exact .inl
    sat := ⟨fun b y hb => by
        obtain ⟨q, h1, h2, h3⟩ := s.sat.rd b y hb
        exact ⟨q, hold b q h1, h2, (h3.world (hnew.keep _ h3.lt)).mono hle⟩, by rw [hnew.size]; have := s.sat.base; omega,
      fun b b' y y' q q' h1 h2 h3 h4 h5 => s.sat.inj b b' y y' q q' h1 h2 (hback b q (hgne b y h1) h3) (hback b' q' (hgne b' y' h2) h4) h5⟩
    al := fun k' y hk hy hyin => by
      by_cases hyi : y.i = i
      · refine ⟨q0, by rw [(hbi k' y hy).1 hyi, Env.upd_same], by rw [hq0]; exact s.sat.base, ?_, fun b z q hb hqb hh => ?_⟩
        · obtain ⟨_, _, _, _, _, _, hyx⟩ := tr.alf k' y hy
          rw [hyx, hyi]; exact hb
        · have := hglt b z q hb (hback b q (hgne b z hb) hqb)
          omega
      · obtain ⟨q, h1, h2, h3, h4⟩ := s.al k' y hk hy (hin y hyi hyin)
        exact ⟨q, hold _ _ h1, h2, (h3.world (hnew.keep _ h3.lt)).mono hle, fun b z q' hb hqb => h4 b z q' hb (hback b q' (hgne b z hb) hqb)⟩
    dis := fun k1 k2 x1 x2 q1 q2 h1 h2 h3 h4 h5 h6 h7 h8 h9 => by
      by_cases e1 : x1.i = i <;> by_cases e2 : x2.i = i
      · exact absurd (((hbi k1 x1 h3).1 e1).trans ((hbi k2 x2 h4).1 e2).symm) h9
      · rw [(hbi k1 x1 h3).1 e1, Env.upd_same] at h7
        cases h7
        have h8' := hback _ _ (fun hh => e2 ((hbi k2 x2 h4).2 hh)) h8
        obtain ⟨q, g1, _, g3, _⟩ := s.al k2 x2 h2 h4 (hin x2 e2 h6)
        rw [h8'] at g1; cases g1
        have := g3.lt
        omega
      · rw [(hbi k2 x2 h4).1 e2, Env.upd_same] at h8
        cases h8
        have h7' := hback _ _ (fun hh => e1 ((hbi k1 x1 h3).2 hh)) h7
        obtain ⟨q, g1, _, g3, _⟩ := s.al k1 x1 h1 h3 (hin x1 e1 h5)
        rw [h7'] at g1; cases g1
        have := g3.lt
        omega
      · exact s.dis k1 k2 x1 x2 q1 q2 h1 h2 h3 h4 (hin x1 e1 h5) (hin x2 e2 h6) (hback _ _ (fun hh => e1 ((hbi k1 x1 h3).2 hh)) h7) (hback _ _ (fun hh => e2 ((hbi k2 x2 h4).2 hh)) h8) h9
    fresh := fun j hj hnj b h1 h2 => by
      have hji : j ≠ i := fun hh => hnj ((in_set hlt j).2 (.inr hh))
      have hap := tr.apart j i hj hi hji
      rw [Env.upd_ne (fun hh => by rw [hh] at h1 h2; rw [hq, I.nat_inc] at hap; omega)]
      exact s.fresh j hj (fun h => hnj ((in_set hlt j).2 (.inl h))) b h1 h2
    tmps := t1
    asize := t2
    adf := t3
    os := hnew.os.trans s.os
    tape := hnew.tape.trans s.tape
    output := hnew.output.trans s.output
    wsize := by rw [hnew.size]; have := s.wsize; omega
    keep := fun c hc ho => (hnew.keep c (by have := s.wsize; omega)).trans (s.keep c hc ho)
    im := fun c hc ho => by
      obtain ⟨h1, h2⟩ := s.im c hc ho
      refine ⟨fun b y q hb hqb => h1 b y q hb (hback b q (hgne b y hb) hqb), fun k' y q hk hy hyin hqy => ?_⟩
      by_cases hyi : y.i = i
      · rw [(hbi k' y hy).1 hyi, Env.upd_same] at hqy
        cases hqy
        have := s.wsize
        omega
      · exact h2 k' y q hk hy (hin y hyi hyin) (hback _ _ (fun hh => hyi ((hbi k' y hy).2 hh)) hqy)
    le := Env.le_trans s.le hle
    out := fun b hb => by
      obtain ⟨g1, g2⟩ := tr.ids i hi
      rw [Env.upd_ne (fun hh => by rw [hh] at hb; rw [hq, I.nat_inc] at g2; omega)]
      exact s.out b hb }
/-- an operation with effects -/
theorem si_eff (tr : Tr P ops n tm0 h0 nx0 f G AL nxE) (s : SI' P ops n tm0 h0 nx0 f G AL nxE n0 e0 w0 df l k e a w) {i : Nat} {o : Oper} (r : RcF P ops (msOf ops) (effs P ops) tm0 f G AL i o) (hni : ¬ In l i)
    (hr : ∀ e ∈ o.after, Region.binds .any e = true → In l e.on) (hcl : cls P o.op = .e) (hk : (f i).k = k) {F : H} (hin : ∀ x ∈ AL k, In l x.i) (hF : DescF (G k) (AL k) F) {e' : Env} {w' : World}
    (st : Stp n0 e F w (f i).p e' (G (k + 1)) w' (f i).q) {x : Value} (hx : den e' (f i).v = some x) :
    SI' P ops n tm0 h0 nx0 f G AL nxE n0 e0 w0 df (l.setIfInBounds i true) (k + 1) e' (a.put o.dst x) w' := by
  have hlt : i < l.size := by rw [s.size]; exact lt_of_get r.op
  have hi : i < ops.size := lt_of_get r.op
  obtain ⟨t1, t2, t3⟩ := tmps_step tr s r hni st.le hx
  obtain ⟨_, hout⟩ := desc_rd tr s hin hF
  have hes := r.phE hcl
  rw [hk] at hes
  have hklt : k < (effs P ops).length := by
    rcases Nat.lt_or_ge k (effs P ops).length with h | h
    · exact h
    · rw [List.getElem?_eq_none h] at hes; cases hes
  have hno : ∀ k' y, y ∈ AL k' → In (l.setIfInBounds i true) y.i → In l y.i := by
    intro k' y hy hyin
    rcases (in_set hlt _).1 hyin with h | h
    · exact h
    · obtain ⟨o', ho', hc', _⟩ := tr.alf k' y hy
      rw [h, r.op] at ho'; cases ho'
      rw [hcl] at hc'; cases hc'
  -- blocks of later stages lie outside of F
  have hlater : ∀ k' y q, k + 1 ≤ k' → y ∈ AL k' → In l y.i → e y.b = some q → Out e F q.blk := by
    intro k' y q hk' hy hyin hqy
    obtain ⟨q2, g1, _, _, g4⟩ := s.al k' y (by omega) hy hyin
    rw [hqy] at g1; cases g1
    refine hout _ g4 fun z hz q3 hz3 hh => ?_
    have hne : z.b ≠ y.b := by
      intro hzy
      obtain ⟨oz, hoz, hcz, hwz, hkz, hbz, _⟩ := tr.alf k z hz
      obtain ⟨oy, hoy, hcy, hwy, hky, hby, _⟩ := tr.alf k' y hy
      have hzi : z.i ≠ y.i := fun hh => by rw [hh] at hkz; omega
      have h1 := tr.apart z.i y.i (lt_of_get hoz) (lt_of_get hoy) hzi
      obtain ⟨o1, r1⟩ := tr.rc z.i (lt_of_get hoz)
      obtain ⟨o2, r2⟩ := tr.rc y.i (lt_of_get hoy)
      have p1 := (r1.a (by have := r1.op; rw [hoz] at this; cases this; exact hcz) hwz).1
      have p2 := (r2.a (by have := r2.op; rw [hoy] at this; cases this; exact hcy) hwy).1
      rw [hbz, hby] at hzy
      rw [p1, p2, I.nat_inc, I.nat_inc, hzy] at h1
      omega
    exact s.dis k k' z y q3 q (Nat.le_refl _) (by omega) hz hy (hin z hz) hyin hz3 hqy hne hh
  exact {
    size := by simpa using s.size
    closed := closed_step s r.op hr
    kle := hklt
    eff := fun j y hj => by
      rw [in_set hlt, s.eff j y hj]
      constructor
      · rintro (h | h)
        · omega
        · subst h
          have := eff_once hj hes
          omega
      · intro h
        rcases Nat.lt_or_ge j k with h' | h'
        · exact .inl h'
        · have : j = k := by omega
          subst this
          rw [hes] at hj; cases hj
          exact .inr rfl
    sat := st.sat
    al := fun k' y hk' hy hyin => by
      have hyl := hno k' y hy hyin
      obtain ⟨q, g1, g2, g3, g4⟩ := s.al k' y (by omega) hy hyl
      have ho := hlater k' y q hk' hy hyl g1
      exact ⟨q, st.le _ _ g1, g2, (g3.world (st.fr.keep _ g3.lt ho)).mono st.le, st.im _ g3.lt ho⟩
    dis := fun k1 k2 x1 x2 q1 q2 h1 h2 h3 h4 h5 h6 h7 h8 h9 => by
      have i1 := hno k1 x1 h3 h5
      have i2 := hno k2 x2 h4 h6
      obtain ⟨p1, g1, _⟩ := s.al k1 x1 (by omega) h3 i1
      obtain ⟨p2, g2, _⟩ := s.al k2 x2 (by omega) h4 i2
      have e1 := st.le _ _ g1
      have e2 := st.le _ _ g2
      rw [h7] at e1; cases e1
      rw [h8] at e2; cases e2
      exact s.dis k1 k2 x1 x2 q1 q2 (by omega) (by omega) h3 h4 i1 i2 g1 g2 h9
    fresh := fun j hj hnj b h1 h2 => by
      have hji : j ≠ i := fun hh => hnj ((in_set hlt j).2 (.inr hh))
      have hap := tr.apart j i hj hi hji
      rw [st.out b (by omega)]
      exact s.fresh j hj (fun h => hnj ((in_set hlt j).2 (.inl h))) b h1 h2
    tmps := t1
    asize := t2
    adf := t3
    os := st.fr.os.trans s.os
    tape := st.fr.tape.trans s.tape
    output := st.fr.output.trans s.output
    wsize := Nat.le_trans s.wsize st.fr.size
    keep := fun c hc ho => by
      obtain ⟨h1, h2⟩ := s.im c hc ho
      have := s.wsize
      exact (st.fr.keep c (by omega) (hout c h1 fun z hz q hq => h2 k z q (Nat.le_refl _) hz (hin z hz) hq)).trans (s.keep c hc ho)
    im := fun c hc ho => by
      obtain ⟨h1, h2⟩ := s.im c hc ho
      have := s.wsize
      refine ⟨st.im c (by omega) (hout c h1 fun z hz q hq => h2 k z q (Nat.le_refl _) hz (hin z hz) hq), fun k' y q hk' hy hyin hqy => ?_⟩
      have hyl := hno k' y hy hyin
      obtain ⟨p, g1, _⟩ := s.al k' y (by omega) hy hyl
      have e1 := st.le _ _ g1
      rw [hqy] at e1; cases e1
      exact h2 k' y q (by omega) hy hyl g1
    le := Env.le_trans s.le st.le
    out := fun b hb => by
      obtain ⟨g1, g2⟩ := tr.ids i hi
      rw [st.out b (by omega)]
      exact s.out b hb }
end
end Go.Sx
