import Derived.Test.YteakajbedjdggaaGreatDoorSxP
/-
  The law of a region that draws its order.
-/
namespace Go.Sx
open Go Go.RowKit
section
variable {P : Program} {hd : Hand} {ih : Run} {ops : Array Oper} {n : Nat} {tm0 : T V} {h0 : H} {nx0 : I} {f : Nat → Rc} {G : Nat → H} {AL : Nat → List Al} {nxE : I} {n0 : Nat} {e0 : Env} {w0 : World} {df : List I}

theorem ready_mem {l : Array Bool} (hs : l.size = ops.size) {i : Nat} (h : i ∈ Region.ready .any ops l) : ∃ o, ops[i]? = some o ∧ ¬ In l i ∧ ∀ e ∈ o.after, Region.binds .any e = true → In l e.on := by
  unfold Region.ready at h
  rw [List.mem_filter, List.mem_range] at h
  obtain ⟨hi, h⟩ := h
  simp only [Bool.and_eq_true, Bool.not_eq_true'] at h
  obtain ⟨h1, h2⟩ := h
  have hl : i < l.size := by omega
  refine ⟨ops[i], by simp [hi], ?_, ?_⟩
  · unfold In
    rw [Array.getD_eq_getD_getElem?] at h1
    intro hh
    rw [hh] at h1
    cases h1
  · intro e he hb
    have hoi : ops[i]? = some ops[i] := by simp [hi]
    rw [hoi] at h2
    simp only [Option.map_some, Option.getD_some] at h2
    rw [Array.all_eq_true_iff_forall_mem] at h2
    have := h2 e he
    simp only [hb, Bool.not_true, Bool.false_or] at this
    rw [Array.getD_eq_getD_getElem?] at this
    unfold In
    cases hx : l[e.on]? with
    | none => rw [hx] at this; cases this
    | some b => rw [hx] at this; simp only [Option.getD_some] at this; rw [this]
theorem all_in {l : Array Bool} (hs : l.size = ops.size) (hed : edgesOk ops = true) (h : Region.ready .any ops l = []) : ∀ i, i < ops.size → In l i := by
  intro i
  induction i using Nat.strongRecOn with
  | _ i ih =>
    intro hi
    apply Classical.byContradiction
    intro hni
    have hmem : i ∈ Region.ready .any ops l := by
      unfold Region.ready
      rw [List.mem_filter, List.mem_range]
      refine ⟨hi, ?_⟩
      simp only [Bool.and_eq_true, Bool.not_eq_true']
      have hl : i < l.size := by omega
      refine ⟨?_, ?_⟩
      · rw [Array.getD_eq_getD_getElem?]
        unfold In at hni
        rw [Array.getElem?_eq_getElem hl] at hni ⊢
        simp only [Option.getD_some]
        rw [Bool.eq_false_iff]
        intro hh; exact hni (by rw [hh])
      · have hoi : ops[i]? = some ops[i] := by simp [hi]
        rw [hoi]
        simp only [Option.map_some, Option.getD_some]
        rw [Array.all_eq_true_iff_forall_mem]
        intro e he
        cases hb : Region.binds .any e with
        | false => rfl
        | true =>
          unfold edgesOk at hed
          rw [List.all_eq_true] at hed
          have m1 : (ops[i], i) ∈ ops.toList.zipIdx := by
            rw [List.mem_zipIdx_iff_getElem?]; simp [hi]
          have h1 := hed _ m1
          simp only [List.all_eq_true] at h1
          have h2 := h1 e (by simpa using he)
          simp only [hb, Bool.not_true, Bool.false_or, decide_eq_true_eq] at h2
          have := ih e.on h2 (by omega)
          unfold In at this
          rw [Array.getD_eq_getD_getElem?, this]
          rfl
    rw [h] at hmem
    exact absurd hmem List.not_mem_nil
/-- how many have not come up -/
def left (l : Array Bool) : Nat := l.toList.count false
theorem left_set {l : Array Bool} {i : Nat} (hi : i < l.size) (hn : ¬ In l i) : left (l.setIfInBounds i true) + 1 = left l := by
  have hf : l[i] = false := by
    rw [Bool.eq_false_iff]; intro h
    exact hn (by unfold In; simp [hi, h])
  unfold left
  have h0 : i < l.toList.length := by simpa using hi
  have h1 : l.toList[i] = false := by simpa using hf
  have hpos : 0 < l.toList.count false := List.count_pos_iff.2 (by rw [← h1]; exact List.getElem_mem _)
  have hc : (l.toList.set i true).count false = l.toList.count false - (if (l.toList[i] == false) = true then 1 else 0) + (if (true == false) = true then 1 else 0) := List.count_set h0
  rw [h1] at hc
  rw [if_pos (show ((false == false) = true) from rfl), if_neg (show ¬ ((true == false) = true) from Bool.false_ne_true)] at hc
  rw [Array.toList_setIfInBounds, hc]
  omega
theorem left_zero {l : Array Bool} (h : left l = 0) {i : Nat} (hi : i < l.size) : In l i := by
  unfold left at h
  rw [List.count_eq_zero] at h
  unfold In
  have : l[i] = true := by
    cases hb : l[i] with
    | true => rfl
    | false => exact absurd (by rw [← hb]; simp) h
  simp [hi, this]
theorem run_any (tr : Tr P ops n tm0 h0 nx0 f G AL nxE) {ro : Option Nat} {Q : Exit → Act → World → Prop}
    (fin : ∀ l e a w, (∀ i, i < ops.size → In l i) → SI' P ops n tm0 h0 nx0 f G AL nxE n0 e0 w0 df l (effs P ops).length e a w → Q .normal a w) :
    ∀ (fuel : Nat) (l : Array Bool) (k : Nat) (e : Env) (a : Act) (w : World), left l = fuel → SI' P ops n tm0 h0 nx0 f G AL nxE n0 e0 w0 df l k e a w → wpAnyIn (FW ro) 0 P .any ops Q fuel l a w := by
  have hall : ∀ {l k e a w}, SI' P ops n tm0 h0 nx0 f G AL nxE n0 e0 w0 df l k e a w → (∀ i, i < ops.size → In l i) → Q .normal a w := by
    intro l k e a w s hin
    have hk : k = (effs P ops).length := by
      apply Classical.byContradiction
      intro hne
      have hlt : k < (effs P ops).length := by have := s.kle; omega
      have hm : (effs P ops)[k] ∈ effs P ops := List.getElem_mem hlt
      have hx : (effs P ops)[k] < ops.size := by
        have h2 := hm
        unfold effs at h2
        exact List.mem_range.1 (List.mem_filter.1 h2).1
      have := (s.eff k _ (List.getElem?_eq_getElem hlt)).1 (hin _ hx)
      omega
    subst hk
    exact fin l e a w hin s
  intro fuel
  induction fuel with
  | zero =>
    intro l k e a w hl s
    have hin : ∀ i, i < ops.size → In l i := fun i hi => left_zero hl (by rw [s.size]; exact hi)
    refine ⟨?_, hall s hin⟩
    apply Classical.byContradiction
    intro hne
    obtain ⟨x, hx⟩ := List.exists_mem_of_ne_nil _ hne
    obtain ⟨o, ho, hni, _⟩ := ready_mem s.size hx
    exact hni (hin x (lt_of_get ho))
  | succ fuel ihf =>
    intro l k e a w hl s
    refine ⟨fun hnil => hall s (all_in s.size tr.edges hnil), fun i hi => ?_⟩
    obtain ⟨o, ho, hni, hr⟩ := ready_mem s.size hi
    obtain ⟨o', r⟩ := tr.rc i (lt_of_get ho)
    have hoo := r.op
    rw [ho] at hoo; cases hoo
    have hlt : i < l.size := by rw [s.size]; exact lt_of_get ho
    have hleft : left (l.setIfInBounds i true) = fuel := by
      have := left_set hlt hni; omega
    have hnm := names_den tr s r hni hr
    have hto : TmO o.op e (f i).tm a.tmps := fun x hx t ht => hnm t (names_op hx ht)
    have hwant : Region.wanted o (yielded ops a.tmps) = (f i).w := by
      rw [← r.want]
      exact (wantB_eq' fun j w t hg ht => hnm t (names_gd hg ht)).symm
    unfold wpOpIn
    rw [ho]
    simp only [hwant]
    -- an effect comes up at its place
    have hphE : cls P o.op = .e → (f i).k = k ∧ ∀ x ∈ AL k, In l x.i := by
      intro hcl
      have hes := r.phE hcl
      have hge : k ≤ (f i).k := by
        rcases Nat.lt_or_ge (f i).k k with h | h
        · exact absurd ((s.eff _ _ hes).2 h) hni
        · exact h
      have hle : (f i).k ≤ k := by
        rcases Nat.lt_or_ge k (f i).k with h | h
        · exfalso
          have hl2 : (f i).k < (effs P ops).length := by
            rcases Nat.lt_or_ge (f i).k (effs P ops).length with h | h
            · exact h
            · rw [List.getElem?_eq_none h] at hes; cases hes
          obtain ⟨z, hz⟩ : ∃ z, (effs P ops)[(f i).k - 1]? = some z := ⟨_, List.getElem?_eq_getElem (by omega)⟩
          have e1 : (f i).k - 1 + 1 = (f i).k := by omega
          have hb := ms_bef (chained_ok tr.chain hz (by rw [e1]; exact hes))
          have := (s.eff _ _ hz).1 (ready_bef s.closed ho hr hb)
          omega
        · exact h
      have hk : (f i).k = k := by omega
      refine ⟨hk, fun x hx => ?_⟩
      obtain ⟨ox, hox, hcx, hwx, hkx, _, _⟩ := tr.alf k x hx
      obtain ⟨o2, r2⟩ := tr.rc x.i (lt_of_get hox)
      have ho2 := r2.op
      rw [hox] at ho2; cases ho2
      obtain ⟨h1, _, _⟩ := r2.phN (fun hh => by rw [hcx] at hh; cases hh)
      rw [hkx] at h1
      rw [hk] at hes
      rcases h1 with h1 | ⟨z, hz, hb⟩
      · rw [List.getElem?_eq_none (by omega)] at hes; cases hes
      · rw [hes] at hz; cases hz
        exact ready_bef s.closed ho hr (ms_bef hb)
    -- the others may come up at several stages
    have hphN : cls P o.op ≠ .e → loOf (msOf ops) (effs P ops) i ≤ k ∧ k ≤ (f i).k := by
      intro hcl
      obtain ⟨h1, _, h3⟩ := r.phN hcl
      constructor
      · rcases h3 with h3 | ⟨z, hz, hb⟩
        · omega
        · have := (s.eff _ _ hz).1 (ready_bef s.closed ho hr (ms_bef hb))
          omega
      · rcases h1 with h1 | ⟨z, hz, hb⟩
        · rw [h1]; exact s.kle
        · rcases Nat.lt_or_ge (f i).k k with h | h
          · exact absurd (closed_bef s.closed (ms_bef hb) ((s.eff _ _ hz).2 h)) hni
          · exact h
    cases hw : (f i).w with
    | false =>
      simp only [Bool.false_eq_true, if_false]
      refine ⟨fun _ _ => trivial, ?_⟩
      have hun : den e (f i).v = some undef := by rw [r.un hw]; exact den_un
      by_cases hcl : cls P o.op = .e
      · obtain ⟨hk, hin⟩ := hphE hcl
        have hd := r.ue hcl hw
        rw [hk] at hd
        -- no memory is written: the next stage is the same memory
        obtain ⟨hsat, hout⟩ := desc_rd tr s hin hd
        have st : Stp n0 e (G (k + 1)) w (f i).p e (G (k + 1)) w (f i).q := ⟨hsat, Env.le_refl e, fun _ _ => rfl, Fr.refl _ _ _, fun _ _ h => h, r.pq⟩
        exact ihf _ (k + 1) e _ w hleft (si_eff tr s r hni hr hcl hk hin hd st hun)
      · exact ihf _ k e _ w hleft (si_plain tr s r hni hr hcl (fun _ => hw) hun)
    | true =>
      simp only [if_true]
      cases hcl : cls P o.op with
      | q =>
        obtain ⟨h1, h2⟩ := hphN (fun hh => by rw [hcl] at hh; cases hh)
        obtain ⟨hp, hhp, hq⟩ := r.q hcl hw k h1 h2
        have hrd : Rd n0 e hp w := fun b x hb => by
          rcases hhp b x hb with hg | ⟨k', y, hk', hy, hb', e1, e2⟩
          · exact s.sat.rd b x hg
          · obtain ⟨q, g1, g2, g3, _⟩ := s.al k' y hk' hy (ready_bef s.closed ho hr (ms_bef hb'))
            rw [e1] at g1
            rw [e2] at g3
            exact ⟨q, g1, g2, g3⟩
        obtain ⟨x, hx, hrun⟩ := hq n0 e a w o rfl hto hrd
        have hnd : ∀ c, o.op ≠ .defer c := fun c hh => by
          rcases r.qd hcl c with h | h
          · exact h hh
          · rw [hw] at h; cases h
        exact wpIn_value hnd hrun (ihf _ k e _ w hleft (si_plain tr s r hni hr (fun hh => by rw [hcl] at hh; cases hh) (fun hh => by rw [hcl] at hh; cases hh) hx))
      | a =>
        obtain ⟨hq, has, hnd⟩ := r.a hcl hw
        have hpn : e (f i).p = none := s.fresh i (lt_of_get ho) hni _ (Nat.le_refl _) (by rw [hq, I.nat_inc]; omega)
        obtain ⟨q0, x, w', hrun, hq0, hnew, hx, hb⟩ := has e a w o rfl hto hpn
        exact wpIn_value hnd hrun (ihf _ k _ _ w' hleft (si_alloc tr s r hni hr hcl hq hnew hq0 hb hx))
      | e =>
        obtain ⟨hk, hin⟩ := hphE hcl
        obtain ⟨F, hF, _, hone⟩ := r.e hcl hw
        rw [hk] at hF hone
        obtain ⟨hsat, _⟩ := desc_rd tr s hin hF
        refine hone n0 e a w hto hsat (fun b h1 h2 => s.fresh i (lt_of_get ho) hni b h1 h2) ro _ Q fun e' x w' hx st => ?_
        exact ihf _ (k + 1) e' _ w' hleft (si_eff tr s r hni hr hcl hk hin hF st hx)
/-- A REGION THAT DRAWS ITS ORDER -/
theorem drawR_ok (hih : IH P ih) (hho : HO P hd) (hdst : dstOk n ops = true) {tm : T V} {h : H} {nx : I} {K : KT} (hk : drawR P hd ih ops tm h nx K = true) :
    ∃ tm' h' nx', K tm' h' nx' = true ∧ nx.nat ≤ nx'.nat ∧ ∀ n0 e a w ro df, Sat n0 e h w → AR e n tm df a → Fresh nx nx' e → ∀ Q : Exit → Act → World → Prop,
      (∀ e' a' w', Stp n0 e h w nx e' h' w' nx' → AR e' n tm' df a' → Q .normal a' w') → ∀ id, (Code.region id ops true).wpIn (FW ro) 0 P Q a w := by
  obtain ⟨hok, hk⟩ := gd_ok hk
  unfold drawOk at hok
  simp only [Bool.and_eq_true] at hok
  obtain ⟨⟨⟨⟨hmix, hch⟩, hte⟩, hed⟩, hpl⟩ := hok
  have htop0 : Topo (msOf ops) 0 := fun j hj => by simp at hj
  obtain ⟨f, G, AL, tmE, nxE, curE, oldE, hK, R⟩ := dSeq_ok hih hho (tm0 := tm) hte (planL P ops) 0 0 hpl rfl htop0 hk (fun _ => ⟨.un, tm, nx, nx, 0, false, .defd⟩) (fun t => .inr ⟨fun j hj => by simp at hj, rfl⟩)
  obtain ⟨FE, hKE, hFE⟩ := addA_ok hK
  have hinL : ∀ i, i < ops.size → i ∈ planL P ops := fun i hi => by
    rcases R.all i hi with h | h
    · simp at h
    · exact h
  refine ⟨tmE, FE, nxE, hKE, R.nx, fun n0 e a w ro df st ar fr Q hQ id => ?_⟩
  have tr : Tr P ops n tm h nx f G AL nxE :=
    { temps := hte, edges := hed, chain := hch, dst := hdst
      rc := fun i hi => R.rc i (hinL i hi)
      ids := fun i hi => R.ids i (hinL i hi)
      apart := fun i j hi hj => R.apart i (hinL i hi) j (hinL j hj)
      alf := fun k a ha => by
        rcases R.from_ k (Nat.zero_le _) a ha with ⟨_, h2⟩ | ⟨_, h2⟩
        · exact absurd h2 List.not_mem_nil
        · exact h2
      g0 := R.g }
  refine wpIn_region_any hmix ?_
  have hrep : ∀ i, ¬ In (Array.replicate ops.size false) i := fun i hi => by
    unfold In at hi
    rw [Array.getElem?_replicate] at hi
    split at hi <;> cases hi
  have hg0 : G 0 = h := R.g
  refine run_any (n0 := n0) (e0 := e) (w0 := w) (df := df) tr (fun l e' a' w' hin s => ?_) ops.size _ 0 e a w.drew (by unfold left; simp) ?_
  · rw [R.fin.1, R.fin.2] at hFE
    obtain ⟨hsat, hout⟩ := desc_rd tr s (fun x hx => by
      obtain ⟨o, ho, _⟩ := tr.alf _ x hx
      exact hin _ (lt_of_get ho)) hFE
    refine hQ e' a' w' ⟨hsat, s.le, s.out, ⟨s.os, s.tape, s.output, s.wsize, s.keep⟩, fun c hc ho => ?_, R.nx⟩ ⟨s.asize, fun t => ?_, s.adf⟩
    · obtain ⟨h1, h2⟩ := s.im c hc ho
      exact hout c h1 fun x hx q hq => h2 _ x q (Nat.le_refl _) hx (by
        obtain ⟨o, ho, _⟩ := tr.alf _ x hx
        exact hin _ (lt_of_get ho)) hq
    · have hlt : ∀ j u, dstI ops j = some u → j < ops.size := fun j u hj => by
        unfold dstI at hj
        rw [Option.bind_eq_some_iff] at hj
        obtain ⟨o, ho, _⟩ := hj
        exact lt_of_get ho
      rcases R.tm t with ⟨j, h1, h2, h3, h4⟩ | ⟨h1, h2⟩ <;> rcases s.tmps t with ⟨j', g1, g2, g3, g4⟩ | ⟨g1, g2⟩
      · have e1 : j = j' := Nat.le_antisymm (g3 j (hin j (hlt j t h2)) h2) (h3 j' (.inr (hinL j' (hlt j' t g2))) g2)
        rw [h4, e1]; exact g4
      · exact absurd h2 (g1 j (hin j (hlt j t h2)))
      · exact absurd g2 (h1 j' (.inr (hinL j' (hlt j' t g2))))
      · rw [h2]; exact g2
  · exact {
      size := by simp
      closed := fun j o hj => absurd hj (hrep j)
      kle := Nat.zero_le _
      eff := fun j x _ => ⟨fun h => absurd h (hrep x), fun h => by omega⟩
      sat := by rw [hg0]; exact ⟨st.rd.drew rfl, st.base, st.inj⟩
      al := fun k' x _ _ hx => absurd hx (hrep _)
      dis := fun k1 k2 x1 x2 q1 q2 _ _ _ _ hx => absurd hx (hrep _)
      fresh := fun i hi _ b h1 h2 => fr b (by have := (R.ids i (hinL i hi)).1; omega) (by have := (R.ids i (hinL i hi)).2; omega)
      tmps := fun t => .inr ⟨fun j hj => absurd hj (hrep j), ar.tm t⟩
      asize := ar.size
      adf := ar.df
      os := rfl
      tape := rfl
      output := rfl
      wsize := Nat.le_refl _
      keep := fun c _ _ => rfl
      im := fun c hc ho => ⟨by rw [hg0]; exact ho, fun k' x q _ _ hx => absurd hx (hrep _)⟩
      le := Env.le_refl e
      out := fun b _ => rfl }
end
end Go.Sx
