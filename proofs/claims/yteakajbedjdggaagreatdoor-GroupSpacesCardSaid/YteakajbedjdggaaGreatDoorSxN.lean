import Derived.Test.YteakajbedjdggaaGreatDoorSxM
/-
  The record of a drawn region's run ('dSeq_ok').
-/
namespace Go.Sx
open Go Go.RowKit
section
variable {P : Program} {hd : Hand} {ih : Run}

theorem tb_or (d i j : Nat) : (d ||| 2 ^ i).testBit j = true ↔ d.testBit j = true ∨ i = j := by
  rw [Nat.testBit_or, Nat.testBit_two_pow]
  simp
theorem and_eq {m d : Nat} (h : (m &&& d) = m) {i : Nat} (hi : m.testBit i = true) : d.testBit i = true := by
  rw [← h, Nat.testBit_and] at hi
  simp only [Bool.and_eq_true] at hi
  exact hi.2
structure Stat (P : Program) (ops : Array Oper) (ms es : List Nat) (n : Nat) : Prop where
  temps : tempsOk ops ms = true
  dst : dstOk n ops = true
theorem temps_ok {ops : Array Oper} {ms : List Nat} (h : tempsOk ops ms = true) {i j : Nat} {o : Oper} (hi : ops[i]? = some o) {t : Tmp} (hj : dstI ops j = some t) (ht : t ∈ namesT ops o) (hne : i ≠ j) : (ms.getD (max i j) 0).testBit (min i j) = true := by
  unfold tempsOk at h
  rw [List.all_eq_true] at h
  unfold dstI at hj
  rw [Option.bind_eq_some_iff] at hj
  obtain ⟨oj, hoj, hd⟩ := hj
  have m1 : (oj, j) ∈ ops.toList.zipIdx := by
    rw [List.mem_zipIdx_iff_getElem?]; simpa using hoj
  have m2 : (o, i) ∈ ops.toList.zipIdx := by
    rw [List.mem_zipIdx_iff_getElem?]; simpa using hi
  have h1 := h _ m1
  simp only [hd] at h1
  rw [List.all_eq_true] at h1
  have h2 := h1 _ m2
  simp only [Bool.or_eq_true, beq_iff_eq, Bool.not_eq_true', List.contains_eq_mem, decide_eq_false_iff_not] at h2
  rcases h2 with (h2 | h2) | h2
  · exact absurd h2 hne
  · exact absurd ht h2
  · exact h2
/-- who has run is closed under what must come before -/
def Topo (ms : List Nat) (done : Nat) : Prop := ∀ j, done.testBit j = true → ∀ i, (ms.getD j 0).testBit i = true → done.testBit i = true
theorem done_lt {ops : Array Oper} {ms : List Nat} (h : tempsOk ops ms = true) {done : Nat} (ht : Topo ms done) {i : Nat} {o : Oper} (hi : ops[i]? = some o) (hn : done.testBit i = false) (hm : (ms.getD i 0 &&& done) = ms.getD i 0) {t : Tmp} (hin : t ∈ namesT ops o) {j : Nat} (hj : dstI ops j = some t) :
    done.testBit j = true ↔ j < i := by
  rcases Nat.lt_trichotomy j i with hlt | rfl | hgt
  · have := temps_ok h hi hj hin (by omega)
    rw [Nat.max_eq_left (by omega), Nat.min_eq_right (by omega)] at this
    exact ⟨fun _ => hlt, fun _ => and_eq hm this⟩
  · simp [hn]
  · have := temps_ok h hi hj hin (by omega)
    rw [Nat.max_eq_right (by omega), Nat.min_eq_left (by omega)] at this
    constructor
    · intro hd
      have := ht j hd i this
      rw [hn] at this; cases this
    · intro hlt; omega
theorem tmPut_same (tm : T V) (t : Tmp) (v : V) : tmV (tmPut tm (some t) v) t = v := by
  unfold tmV tmPut
  rw [T.get_put_same]; rfl
theorem tmPut_ne (tm : T V) {d : Option Tmp} {t : Tmp} (h : d ≠ some t) (v : V) : tmV (tmPut tm d v) t = tmV tm t := by
  cases d with
  | none => rfl
  | some u =>
    unfold tmV tmPut
    rw [T.get_put_ne _ _ _ _ fun hh => h (by rw [I.of_inj hh])]
def upF (f : Nat → Rc) (i : Nat) (r : Rc) : Nat → Rc := fun j => if j = i then r else f j
theorem upF_same (f : Nat → Rc) (i : Nat) (r : Rc) : upF f i r i = r := by simp [upF]
theorem upF_ne {f : Nat → Rc} {i j : Nat} {r : Rc} (h : j ≠ i) : upF f i r j = f j := by simp [upF, h]
theorem mem_dst {ops : Array Oper} {o : Oper} {t : Tmp} (h : o.dst = some t) : t ∈ namesT ops o := by
  simp [namesT, h]
/-- the temporaries behind one more operation -/
theorem ct_step {ops : Array Oper} {ms : List Nat} {tm0 : T V} (h : tempsOk ops ms = true) {done : Nat} (ht : Topo ms done) {i : Nat} {o : Oper} (hi : ops[i]? = some o) (hn : done.testBit i = false) (hm : (ms.getD i 0 &&& done) = ms.getD i 0)
    {f : Nat → Rc} {tm : T V} (hc : ∀ t, TF ops f tm0 (fun j => done.testBit j = true) tm t) (r : Rc) : ∀ t, TF ops (upF f i r) tm0 (fun j => (done ||| 2 ^ i).testBit j = true) (tmPut tm o.dst r.v) t := by
  intro t
  have hdi : dstI ops i = o.dst := by simp [dstI, hi]
  by_cases hd : o.dst = some t
  · refine .inl ⟨i, (tb_or _ _ _).2 (.inr rfl), by rw [hdi]; exact hd, fun j' hj' hdj => ?_, by rw [hd, tmPut_same, upF_same]⟩
    rcases (tb_or _ _ _).1 hj' with hj' | rfl
    · exact Nat.le_of_lt ((done_lt h ht hi hn hm (mem_dst hd) hdj).1 hj')
    · exact Nat.le_refl _
  · rcases hc t with ⟨j, h1, h2, h3, h4⟩ | ⟨h1, h2⟩
    · have hji : j ≠ i := fun hh => by rw [hh, hn] at h1; cases h1
      refine .inl ⟨j, (tb_or _ _ _).2 (.inl h1), h2, fun j' hj' hdj => ?_, by rw [tmPut_ne _ hd, upF_ne hji]; exact h4⟩
      rcases (tb_or _ _ _).1 hj' with hj' | rfl
      · exact h3 j' hj' hdj
      · rw [hdi] at hdj; exact absurd hdj hd
    · refine .inr ⟨fun j' hj' hdj => ?_, by rw [tmPut_ne _ hd]; exact h2⟩
      rcases (tb_or _ _ _).1 hj' with hj' | rfl
      · exact h1 j' hj' hdj
      · rw [hdi] at hdj; exact hd hdj
theorem TF.congr {ops : Array Oper} {f g : Nat → Rc} {tm0 : T V} {S S' : Nat → Prop} {tm : T V} {t : Tmp} (h : TF ops f tm0 S tm t) (hs : ∀ j, dstI ops j = some t → (S j ↔ S' j)) (hf : ∀ j, S j → f j = g j) : TF ops g tm0 S' tm t := by
  rcases h with ⟨j, h1, h2, h3, h4⟩ | ⟨h1, h2⟩
  · exact .inl ⟨j, (hs j h2).1 h1, h2, fun j' hj' hd => h3 j' ((hs j' hd).2 hj') hd, by rw [← hf j h1]; exact h4⟩
  · exact .inr ⟨fun j' hj' hd => h1 j' ((hs j' hd).2 hj') hd, h2⟩
theorem plan_cons {ops : Array Oper} {ms es : List Nat} {i : Nat} {L : List Nat} {done k : Nat} (h : planOk P ops ms es (i :: L) done k = true) : ∃ o, ops[i]? = some o ∧ done.testBit i = false ∧ (ms.getD i 0 &&& done) = ms.getD i 0 ∧
    ((cls P o.op = .e ∧ es[k]? = some i ∧ planOk P ops ms es L (done ||| 2 ^ i) (k + 1) = true) ∨
     (cls P o.op ≠ .e ∧ (k = es.length ∨ ∃ e, es[k]? = some e ∧ (ms.getD e 0).testBit i = true) ∧ loOf ms es i ≤ k ∧ (loOf ms es i = 0 ∨ ∃ e, es[loOf ms es i - 1]? = some e ∧ (ms.getD i 0).testBit e = true) ∧ planOk P ops ms es L (done ||| 2 ^ i) k = true)) := by
  unfold planOk at h
  split at h
  · rename_i o ho
    simp only [Bool.and_eq_true, Bool.not_eq_true', beq_iff_eq] at h
    obtain ⟨⟨h1, h2⟩, h3⟩ := h
    refine ⟨o, ho, h1, h2, ?_⟩
    have opt : ∀ {a : Option Nat} {g : Nat → Bool}, (match a with | some e => g e | none => false) = true → ∃ e, a = some e ∧ g e = true := by
      intro a g hh
      cases a with
      | none => cases hh
      | some e => exact ⟨e, rfl, hh⟩
    cases hc : cls P o.op with
    | e =>
      rw [hc] at h3
      simp only [Bool.and_eq_true, beq_iff_eq] at h3
      exact .inl ⟨rfl, h3.1, h3.2⟩
    | q =>
      rw [hc] at h3
      simp only [Bool.and_eq_true, Bool.or_eq_true, decide_eq_true_eq] at h3
      obtain ⟨⟨⟨h4, h5⟩, h6⟩, h7⟩ := h3
      exact .inr ⟨(fun hh => (by cases hh)), h4.imp id opt, h5, h6.imp id opt, h7⟩
    | a =>
      rw [hc] at h3
      simp only [Bool.and_eq_true, Bool.or_eq_true, decide_eq_true_eq] at h3
      obtain ⟨⟨⟨h4, h5⟩, h6⟩, h7⟩ := h3
      exact .inr ⟨(fun hh => (by cases hh)), h4.imp id opt, h5, h6.imp id opt, h7⟩
  · cases h
theorem topo_step {ms : List Nat} {done : Nat} (ht : Topo ms done) {i : Nat} (hm : (ms.getD i 0 &&& done) = ms.getD i 0) : Topo ms (done ||| 2 ^ i) := by
  intro j hj l hl
  rcases (tb_or _ _ _).1 hj with hj | rfl
  · exact (tb_or _ _ _).2 (.inl (ht j hj l hl))
  · exact (tb_or _ _ _).2 (.inl (and_eq hm hl))
/-- what the run's record says, from a place of the plan on -/
structure Rec (P : Program) (ops : Array Oper) (ms es : List Nat) (tm0 : T V) (L : List Nat) (done k : Nat) (nx : I) (cur : Stg) (old : List Stg) (fp f : Nat → Rc) (G : Nat → H) (AL : Nat → List Al) (tm' : T V) (nx' : I) (cur' : Stg) : Prop where
  ext : ∀ j, done.testBit j = true → f j = fp j
  g : G k = cur.g
  old : ∀ j s, old[j]? = some s → G (k - 1 - j) = s.g ∧ AL (k - 1 - j) = s.al
  al : ∀ a ∈ cur.al, a ∈ AL k
  from_ : ∀ k', k ≤ k' → ∀ a ∈ AL k', (k' = k ∧ a ∈ cur.al) ∨ (a.i ∈ L ∧ ALF P ops f k' a)
  rc : ∀ i ∈ L, ∃ o, RcF P ops ms es tm0 f G AL i o
  ids : ∀ i ∈ L, nx.nat ≤ (f i).p.nat ∧ (f i).q.nat ≤ nx'.nat
  apart : ∀ i ∈ L, ∀ j ∈ L, i ≠ j → (f i).q.nat ≤ (f j).p.nat ∨ (f j).q.nat ≤ (f i).p.nat
  nx : nx.nat ≤ nx'.nat
  tm : ∀ t, TF ops f tm0 (fun j => done.testBit j = true ∨ j ∈ L) tm' t
  fin : cur'.g = G es.length ∧ cur'.al = AL es.length
  all : ∀ i, i < ops.size → done.testBit i = true ∨ i ∈ L
  fresh : ∀ i ∈ L, done.testBit i = false
theorem rec_plain {ops : Array Oper} {ms es : List Nat} {tm0 : T V} {i : Nat} {L : List Nat} {done k : Nat} {nx nx1 : I} {cur cur1 : Stg} {old : List Stg} {fp f : Nat → Rc} {G : Nat → H} {AL : Nat → List Al} {tm' : T V} {nx' : I} {cur' : Stg} {r : Rc}
    (hn : done.testBit i = false) (R : Rec P ops ms es tm0 L (done ||| 2 ^ i) k nx1 cur1 old (upF fp i r) f G AL tm' nx' cur') (hg : cur1.g = cur.g) (hal : ∀ a ∈ cur.al, a ∈ cur1.al)
    (hnew : f i = r → ∀ a ∈ cur1.al, a ∈ cur.al ∨ (a.i = i ∧ ALF P ops f k a)) (hp : r.p = nx) (hq : r.q = nx1) (hnx : nx.nat ≤ nx1.nat) (hrc : f i = r → (∀ j, done.testBit j = true → f j = fp j) → (∀ a ∈ cur1.al, a ∈ AL k) → G k = cur.g → (∀ j s, old[j]? = some s → G (k - 1 - j) = s.g ∧ AL (k - 1 - j) = s.al) → ∃ o, RcF P ops ms es tm0 f G AL i o) :
    Rec P ops ms es tm0 (i :: L) done k nx cur old fp f G AL tm' nx' cur' := by
  have hfi : f i = r := by rw [R.ext i ((tb_or _ _ _).2 (.inr rfl)), upF_same]
  have hext : ∀ j, done.testBit j = true → f j = fp j := fun j hj => by
    rw [R.ext j ((tb_or _ _ _).2 (.inl hj)), upF_ne (fun hh => by rw [hh, hn] at hj; cases hj)]
  have hfr : ∀ j ∈ L, done.testBit j = false ∧ j ≠ i := fun j hj => by
    have := R.fresh j hj
    constructor
    · rw [Bool.eq_false_iff]; intro hh
      rw [(tb_or _ _ _).2 (.inl hh)] at this; cases this
    · intro hh
      rw [(tb_or _ _ _).2 (.inr hh.symm)] at this; cases this
  refine ⟨hext, R.g.trans hg, R.old, fun a ha => R.al a (hal a ha), fun k' hk' a ha => ?_, fun j hj => ?_, fun j hj => ?_, fun j hj l hl hne => ?_, Nat.le_trans hnx R.nx, fun t => ?_, R.fin, fun j hj => ?_, fun j hj => ?_⟩
  · rcases R.from_ k' hk' a ha with ⟨h1, h2⟩ | ⟨h1, h2⟩
    · rcases hnew hfi a h2 with h3 | ⟨h3, h4⟩
      · exact .inl ⟨h1, h3⟩
      · exact .inr ⟨by rw [h3]; simp, by rw [h1]; exact h4⟩
    · exact .inr ⟨by simp [h1], h2⟩
  · rcases List.mem_cons.1 hj with rfl | hj
    · exact hrc hfi hext R.al (R.g.trans hg) R.old
    · exact R.rc j hj
  · rcases List.mem_cons.1 hj with rfl | hj
    · rw [hfi, hp, hq]; exact ⟨Nat.le_refl _, R.nx⟩
    · exact ⟨Nat.le_trans hnx (R.ids j hj).1, (R.ids j hj).2⟩
  · rcases List.mem_cons.1 hj with e1 | hj <;> rcases List.mem_cons.1 hl with e2 | hl
    · exact absurd (e1.trans e2.symm) hne
    · rw [e1, hfi, hq]; exact .inl (R.ids l hl).1
    · rw [e2, hfi, hq]; exact .inr (R.ids j hj).1
    · exact R.apart j hj l hl hne
  · refine (R.tm t).congr (fun j _ => ?_) fun _ _ => rfl
    rw [tb_or, List.mem_cons]
    constructor
    · rintro ((h | h) | h)
      · exact .inl h
      · exact .inr (.inl h.symm)
      · exact .inr (.inr h)
    · rintro (h | h | h)
      · exact .inl (.inl h)
      · exact .inl (.inr h.symm)
      · exact .inr h
  · rcases R.all j hj with h | h
    · rcases (tb_or _ _ _).1 h with h | h
      · exact .inl h
      · exact .inr (by simp [h])
    · exact .inr (by simp [h])
  · rcases List.mem_cons.1 hj with rfl | hj
    · exact hn
    · exact (hfr j hj).1
theorem rec_eff {ops : Array Oper} {ms es : List Nat} {tm0 : T V} {i : Nat} {L : List Nat} {done k : Nat} {nx nx1 : I} {cur cur1 : Stg} {old : List Stg} {fp f : Nat → Rc} {G : Nat → H} {AL : Nat → List Al} {tm' : T V} {nx' : I} {cur' : Stg} {r : Rc}
    (hn : done.testBit i = false) (hlen : old.length = k) (R : Rec P ops ms es tm0 L (done ||| 2 ^ i) (k + 1) nx1 cur1 (cur :: old) (upF fp i r) f G AL tm' nx' cur') (hal : cur1.al = [])
    (hp : r.p = nx) (hq : r.q = nx1) (hnx : nx.nat ≤ nx1.nat) (hrc : f i = r → (∀ j, done.testBit j = true → f j = fp j) → AL k = cur.al → G k = cur.g → G (k + 1) = cur1.g → ∃ o, RcF P ops ms es tm0 f G AL i o) :
    Rec P ops ms es tm0 (i :: L) done k nx cur old fp f G AL tm' nx' cur' := by
  have hfi : f i = r := by rw [R.ext i ((tb_or _ _ _).2 (.inr rfl)), upF_same]
  have hext : ∀ j, done.testBit j = true → f j = fp j := fun j hj => by
    rw [R.ext j ((tb_or _ _ _).2 (.inl hj)), upF_ne (fun hh => by rw [hh, hn] at hj; cases hj)]
  have hfr : ∀ j ∈ L, done.testBit j = false ∧ j ≠ i := fun j hj => by
    have := R.fresh j hj
    constructor
    · rw [Bool.eq_false_iff]; intro hh
      rw [(tb_or _ _ _).2 (.inl hh)] at this; cases this
    · intro hh
      rw [(tb_or _ _ _).2 (.inr hh.symm)] at this; cases this
  obtain ⟨hG, hAL⟩ := R.old 0 cur rfl
  have e0 : k + 1 - 1 - 0 = k := by omega
  rw [e0] at hG hAL
  refine ⟨hext, hG, fun j s hj => ?_, fun a ha => by rw [hAL]; exact ha, fun k' hk' a ha => ?_, fun j hj => ?_, fun j hj => ?_, fun j hj l hl hne => ?_, Nat.le_trans hnx R.nx, fun t => ?_, R.fin, fun j hj => ?_, fun j hj => ?_⟩
  · have := R.old (j + 1) s (by simpa using hj)
    have e1 : k + 1 - 1 - (j + 1) = k - 1 - j := by omega
    rwa [e1] at this
  · rcases Nat.lt_or_ge k k' with hlt | hge
    · rcases R.from_ k' hlt a ha with ⟨_, h2⟩ | ⟨h1, h2⟩
      · rw [hal] at h2; exact absurd h2 List.not_mem_nil
      · exact .inr ⟨by simp [h1], h2⟩
    · have : k' = k := by omega
      subst this
      rw [hAL] at ha
      exact .inl ⟨rfl, ha⟩
  · rcases List.mem_cons.1 hj with rfl | hj
    · exact hrc hfi hext hAL hG R.g
    · exact R.rc j hj
  · rcases List.mem_cons.1 hj with rfl | hj
    · rw [hfi, hp, hq]; exact ⟨Nat.le_refl _, R.nx⟩
    · exact ⟨Nat.le_trans hnx (R.ids j hj).1, (R.ids j hj).2⟩
  · rcases List.mem_cons.1 hj with e1 | hj <;> rcases List.mem_cons.1 hl with e2 | hl
    · exact absurd (e1.trans e2.symm) hne
    · rw [e1, hfi, hq]; exact .inl (R.ids l hl).1
    · rw [e2, hfi, hq]; exact .inr (R.ids j hj).1
    · exact R.apart j hj l hl hne
  · refine (R.tm t).congr (fun j _ => ?_) fun _ _ => rfl
    rw [tb_or, List.mem_cons]
    constructor
    · rintro ((h | h) | h)
      · exact .inl h
      · exact .inr (.inl h.symm)
      · exact .inr (.inr h)
    · rintro (h | h | h)
      · exact .inl (.inl h)
      · exact .inl (.inr h.symm)
      · exact .inr h
  · rcases R.all j hj with h | h
    · rcases (tb_or _ _ _).1 h with h | h
      · exact .inl h
      · exact .inr (by simp [h])
    · exact .inr (by simp [h])
  · rcases List.mem_cons.1 hj with rfl | hj
    · exact hn
    · exact (hfr j hj).1
theorem dSeq_ok (hih : IH P ih) (hho : HO P hd) {ops : Array Oper} {ms es : List Nat} {tm0 : T V} (hte : tempsOk ops ms = true) :
    ∀ (L : List Nat) (done k : Nat) {tm : T V} {nx : I} {cur : Stg} {old : List Stg} {K : DK}, planOk P ops ms es L done k = true → old.length = k → Topo ms done → dSeq (L.map (piOf P ops ms es)) P hd ih tm nx cur old K = true →
    ∀ fp : Nat → Rc, (∀ t, TF ops fp tm0 (fun j => done.testBit j = true) tm t) → ∃ f G AL tm' nx' cur' old', K tm' nx' cur' old' = true ∧ Rec P ops ms es tm0 L done k nx cur old fp f G AL tm' nx' cur'
  | [], done, k, tm, nx, cur, old, K, hp, hl, ht, hk, fp, hc => by
    simp only [planOk, Bool.and_eq_true, decide_eq_true_eq, List.all_eq_true, List.mem_range] at hp
    refine ⟨fp, fun t => if t = k then cur.g else ((old[k - 1 - t]?).map (·.g)).getD .lf, fun t => if t = k then cur.al else if t < k then ((old[k - 1 - t]?).map (·.al)).getD [] else [], tm, nx, cur, old, hk,
      ⟨fun _ _ => rfl, by simp, fun j s hj => ?_, fun a ha => by simpa using ha, fun k' hk' a ha => ?_, fun i hi => absurd hi List.not_mem_nil, fun i hi => absurd hi List.not_mem_nil, fun i hi => absurd hi List.not_mem_nil, Nat.le_refl _, fun t => ?_, ?_, fun i hi => .inl (hp.2 i hi), fun i hi => absurd hi List.not_mem_nil⟩⟩
    · have hjl : j < k := by
        rcases Nat.lt_or_ge j old.length with h | h
        · omega
        · rw [List.getElem?_eq_none h] at hj; cases hj
      have e1 : k - 1 - j ≠ k := by omega
      have e2 : k - 1 - (k - 1 - j) = j := by omega
      have e3 : k - 1 - j < k := by omega
      simp only [e1, if_false, e2, hj, Option.map_some, Option.getD_some, e3, if_true, and_self]
    · by_cases hkk : k' = k
      · subst hkk
        simp only [if_true] at ha
        exact .inl ⟨rfl, ha⟩
      · have e1 : ¬ k' < k := by omega
        simp only [hkk, e1, if_false] at ha
        exact absurd ha List.not_mem_nil
    · refine (hc t).congr (fun j _ => ?_) fun _ _ => rfl
      simp
    · rw [← hp.1]; simp
  | i :: L, done, k, tm, nx, cur, old, K, hp, hl, ht, hk, fp, hc => by
    obtain ⟨o, ho, hn, hm, hph⟩ := plan_cons hp
    have hpi : piOf P ops ms es i = ⟨i, poOf P ops o, ms.getD i 0, loOf ms es i⟩ := by
      unfold piOf
      rw [ho]
    have hdo : dOne ⟨i, poOf P ops o, ms.getD i 0, loOf ms es i⟩ (dSeq (L.map (piOf P ops ms es))) P hd ih tm nx cur old K = true := by
      have : dOne (piOf P ops ms es i) (dSeq (L.map (piOf P ops ms es))) P hd ih tm nx cur old K = true := hk
      rwa [hpi] at this
    have hk : br (wantB (gdOf ops o) tm) (dDo (cls P o.op) ⟨i, poOf P ops o, ms.getD i 0, loOf ms es i⟩ (dSeq (L.map (piOf P ops ms es))) P hd ih tm nx cur old K) (dNo (cls P o.op) ⟨i, poOf P ops o, ms.getD i 0, loOf ms es i⟩ (dSeq (L.map (piOf P ops ms es))) P hd ih tm nx cur old K) = true := hdo
    have htm : ∀ (f : Nat → Rc), (∀ j, done.testBit j = true → f j = fp j) → ∀ t ∈ namesT ops o, TF ops f tm0 (fun j => j < i) tm t := fun f hf t ht' =>
      (hc t).congr (fun j hj => done_lt hte ht ho hn hm ht' hj) fun j hj => (hf j hj).symm
    have htop := topo_step ht hm
    rcases br_cases hk with ⟨hw, hk⟩ | ⟨hw, hk⟩
    · cases hcl : cls P o.op with
      | q =>
        rw [hcl] at hk
        have hk : addM cur.al (ms.getD i 0) cur.g (fun h => opQ o.op P tm h fun v => gd (sameK (lenL old - loOf ms es i) o.op (ms.getD i 0) v P tm cur.al old) (putD (o.dst.map I.of) tm v fun tm => dSeq (L.map (piOf P ops ms es)) P hd ih tm nx cur old K)) = true := hk
        obtain ⟨F, hF, hFd⟩ := addM_ok hk
        obtain ⟨v, hv, hq⟩ := opQ_ok hF
        obtain ⟨hsame, hv⟩ := gd_ok hv
        rw [putD_eq] at hv
        obtain ⟨hsl, hsame⟩ := sameK_ok hsame
        rw [lenL_eq, hl] at hsl hsame
        obtain ⟨hph0, hp'⟩ : ((k = es.length ∨ ∃ e, es[k]? = some e ∧ (ms.getD e 0).testBit i = true) ∧ loOf ms es i ≤ k ∧ (loOf ms es i = 0 ∨ ∃ e, es[loOf ms es i - 1]? = some e ∧ (ms.getD i 0).testBit e = true)) ∧ planOk P ops ms es L (done ||| 2 ^ i) k = true := by
          rcases hph with ⟨h1, _⟩ | ⟨_, h2, h3, h4, h5⟩
          · rw [hcl] at h1; cases h1
          · exact ⟨⟨h2, h3, h4⟩, h5⟩
        let r : Rc := ⟨v, tm, nx, nx, k, true, .defd⟩
        obtain ⟨f, G, AL, tm', nx', cur', old', hK, R⟩ := dSeq_ok hih hho hte L (done ||| 2 ^ i) k hp' hl htop hv (upF fp i r) (ct_step hte ht ho hn hm hc r)
        refine ⟨f, G, AL, tm', nx', cur', old', hK, rec_plain hn R rfl (fun a ha => ha) (fun _ a ha => .inl ha) rfl rfl (Nat.le_refl _) fun hfi hext hal hg hold => ⟨o, ?_⟩⟩
        refine ⟨ho, by rw [hfi]; exact hw, by rw [hfi]; exact Nat.le_refl _, fun hh => (by rw [hfi] at hh; cases hh), by rw [hfi]; exact htm f hext, fun _ _ t h1 h2 => ?_, fun _ c => .inl (noDefQ hF c), fun hh => (by rw [hcl] at hh; cases hh), fun hh => (by rw [hcl] at hh; cases hh), fun hh => (by rw [hcl] at hh; cases hh), fun hh => (by rw [hcl] at hh; cases hh), fun _ => by rw [hfi]; exact hph0⟩
        rw [hfi] at h2 ⊢
        rcases Nat.lt_or_ge t k with hlt | hge
        · obtain ⟨s, hp1, g1, g2, g3⟩ := hsame (k - 1 - t) (by have : t < k := hlt; omega)
          obtain ⟨o1, o2⟩ := hold _ s g1
          have e1 : k - 1 - (k - 1 - t) = t := by omega
          rw [e1] at o1 o2
          refine ⟨hp1, fun b x hb => ?_, g2⟩
          rcases g3 b x hb with hg' | ⟨a, ha, hma, hab, hax⟩
          · exact .inl (by rw [o1]; exact hg')
          · rcases ha with ha | ⟨j', s', h3, h4, h5⟩
            · exact .inr ⟨k, a, by omega, hal a ha, hma, hab, hax⟩
            · obtain ⟨_, o3⟩ := hold j' s' h4
              exact .inr ⟨k - 1 - j', a, by omega, by rw [o3]; exact h5, hma, hab, hax⟩
        · have : t = k := by have : t ≤ k := h2; omega
          subst this
          refine ⟨F, fun b x hb => ?_, hq⟩
          rcases hFd b x hb with hg' | ⟨a, ha, hma, hab, hax⟩
          · exact .inl (by rw [hg]; exact hg')
          · exact .inr ⟨t, a, Nat.le_refl _, hal a ha, hma, hab, hax⟩
      | a =>
        rw [hcl] at hk
        have hk : opA o.op P tm nx (fun v b => putD (o.dst.map I.of) tm v fun tm => dSeq (L.map (piOf P ops ms es)) P hd ih tm nx.inc ⟨cur.g, ⟨i, nx, b⟩ :: cur.al⟩ old K) = true := hk
        obtain ⟨v, b, hv, ha⟩ := opA_ok hk
        rw [putD_eq] at hv
        obtain ⟨hph0, hp'⟩ : ((k = es.length ∨ ∃ e, es[k]? = some e ∧ (ms.getD e 0).testBit i = true) ∧ loOf ms es i ≤ k ∧ (loOf ms es i = 0 ∨ ∃ e, es[loOf ms es i - 1]? = some e ∧ (ms.getD i 0).testBit e = true)) ∧ planOk P ops ms es L (done ||| 2 ^ i) k = true := by
          rcases hph with ⟨h1, _⟩ | ⟨_, h2, h3, h4, h5⟩
          · rw [hcl] at h1; cases h1
          · exact ⟨⟨h2, h3, h4⟩, h5⟩
        let r : Rc := ⟨v, tm, nx, nx.inc, k, true, b⟩
        obtain ⟨f, G, AL, tm', nx', cur', old', hK, R⟩ := dSeq_ok hih hho hte L (done ||| 2 ^ i) k hp' hl htop hv (upF fp i r) (ct_step hte ht ho hn hm hc r)
        have hinc : nx.nat ≤ nx.inc.nat := by rw [I.nat_inc]; omega
        refine ⟨f, G, AL, tm', nx', cur', old', hK, rec_plain (cur := cur) hn R rfl (fun a ha => by simp [ha]) (fun hfi a ha => ?_) rfl rfl hinc fun hfi hext hal hg hold => ⟨o, ?_⟩⟩
        · rcases List.mem_cons.1 ha with rfl | ha
          · exact .inr ⟨rfl, o, ho, hcl, by rw [hfi], by rw [hfi], by rw [hfi], by rw [hfi]⟩
          · exact .inl ha
        · refine ⟨ho, by rw [hfi]; exact hw, by rw [hfi]; exact hinc, fun hh => (by rw [hfi] at hh; cases hh), by rw [hfi]; exact htm f hext, fun hh => (by rw [hcl] at hh; cases hh), fun hh => (by rw [hcl] at hh; cases hh), fun _ _ => ?_, fun hh => (by rw [hcl] at hh; cases hh), fun hh => (by rw [hcl] at hh; cases hh), fun hh => (by rw [hcl] at hh; cases hh), fun _ => by rw [hfi]; exact hph0⟩
          rw [hfi]
          exact ⟨rfl, ha, noDefA hk⟩
      | e =>
        rw [hcl] at hk
        have hk : addA cur.al cur.g (fun h => opE o.op P hd ih tm h nx fun v h nx => putD (o.dst.map I.of) tm v fun tm => dSeq (L.map (piOf P ops ms es)) P hd ih tm nx ⟨h, []⟩ (cur :: old) K) = true := hk
        obtain ⟨F, hF, hFd⟩ := addA_ok hk
        obtain ⟨v, h1, nx1, hv, he⟩ := opE_ok hih hho hF
        rw [putD_eq] at hv
        obtain ⟨hph0, hp'⟩ : es[k]? = some i ∧ planOk P ops ms es L (done ||| 2 ^ i) (k + 1) = true := by
          rcases hph with ⟨_, h2, h3⟩ | ⟨h1, _⟩
          · exact ⟨h2, h3⟩
          · exact absurd hcl h1
        let r : Rc := ⟨v, tm, nx, nx1, k, true, .defd⟩
        obtain ⟨f, G, AL, tm', nx', cur', old', hK, R⟩ := dSeq_ok hih hho hte L (done ||| 2 ^ i) (k + 1) (old := cur :: old) hp' (by simp [hl]) htop hv (upF fp i r) (ct_step hte ht ho hn hm hc r)
        refine ⟨f, G, AL, tm', nx', cur', old', hK, rec_eff hn hl R rfl rfl rfl he.1 fun hfi hext hAL hG hG1 => ⟨o, ?_⟩⟩
        refine ⟨ho, by rw [hfi]; exact hw, by rw [hfi]; exact he.1, fun hh => (by rw [hfi] at hh; cases hh), by rw [hfi]; exact htm f hext, fun hh => (by rw [hcl] at hh; cases hh), fun hh => (by rw [hcl] at hh; cases hh), fun hh => (by rw [hcl] at hh; cases hh), fun _ _ => ?_, fun _ hh => (by rw [hfi] at hh; cases hh), fun _ => by rw [hfi]; exact hph0, fun hh => absurd hcl hh⟩
        rw [hfi]
        refine ⟨F, ?_, ?_⟩
        · show DescF (G k) (AL k) F
          rw [hG, hAL]; exact hFd
        · show OneS P o tm F nx v (G (k + 1)) nx1
          rw [hG1]; exact one_e he
    · have hun : ∀ {L' : List PI} {cur1 : Stg} {old1 : List Stg}, putD (o.dst.map I.of) tm V.un (fun tm => dSeq L' P hd ih tm nx cur1 old1 K) = true → dSeq L' P hd ih (tmPut tm o.dst V.un) nx cur1 old1 K = true := fun hh => by rwa [putD_eq] at hh
      let r : Rc := ⟨V.un, tm, nx, nx, k, false, .defd⟩
      by_cases hcl : cls P o.op = .e
      · rw [hcl] at hk
        have hk : putD (o.dst.map I.of) tm V.un (fun tm => addA cur.al cur.g fun h => dSeq (L.map (piOf P ops ms es)) P hd ih tm nx ⟨h, []⟩ (cur :: old) K) = true := hk
        rw [putD_eq] at hk
        obtain ⟨F, hF, hFd⟩ := addA_ok hk
        obtain ⟨hph0, hp'⟩ : es[k]? = some i ∧ planOk P ops ms es L (done ||| 2 ^ i) (k + 1) = true := by
          rcases hph with ⟨_, h2, h3⟩ | ⟨h1, _⟩
          · exact ⟨h2, h3⟩
          · exact absurd hcl h1
        obtain ⟨f, G, AL, tm', nx', cur', old', hK, R⟩ := dSeq_ok hih hho hte L (done ||| 2 ^ i) (k + 1) (old := cur :: old) hp' (by simp [hl]) htop hF (upF fp i r) (ct_step hte ht ho hn hm hc r)
        refine ⟨f, G, AL, tm', nx', cur', old', hK, rec_eff hn hl R rfl rfl rfl (Nat.le_refl _) fun hfi hext hAL hG hG1 => ⟨o, ?_⟩⟩
        refine ⟨ho, by rw [hfi]; exact hw, by rw [hfi]; exact Nat.le_refl _, fun _ => by rw [hfi], by rw [hfi]; exact htm f hext, fun hh => (by rw [hcl] at hh; cases hh), fun hh => (by rw [hcl] at hh; cases hh), fun hh => (by rw [hcl] at hh; cases hh), fun _ hh => (by rw [hfi] at hh; cases hh), fun _ _ => ?_, fun _ => by rw [hfi]; exact hph0, fun hh => absurd hcl hh⟩
        rw [hfi]
        show DescF (G k) (AL k) (G (k + 1))
        rw [hG, hAL, hG1]; exact hFd
      · have hk : putD (o.dst.map I.of) tm V.un (fun tm => dSeq (L.map (piOf P ops ms es)) P hd ih tm nx cur old K) = true := by
          cases hc' : cls P o.op with
          | q => rw [hc'] at hk; exact hk
          | a => rw [hc'] at hk; exact hk
          | e => exact absurd hc' hcl
        have hk := hun hk
        obtain ⟨hph0, hp'⟩ : ((k = es.length ∨ ∃ e, es[k]? = some e ∧ (ms.getD e 0).testBit i = true) ∧ loOf ms es i ≤ k ∧ (loOf ms es i = 0 ∨ ∃ e, es[loOf ms es i - 1]? = some e ∧ (ms.getD i 0).testBit e = true)) ∧ planOk P ops ms es L (done ||| 2 ^ i) k = true := by
          rcases hph with ⟨h1, _⟩ | ⟨_, h2, h3, h4, h5⟩
          · exact absurd h1 hcl
          · exact ⟨⟨h2, h3, h4⟩, h5⟩
        obtain ⟨f, G, AL, tm', nx', cur', old', hK, R⟩ := dSeq_ok hih hho hte L (done ||| 2 ^ i) k hp' hl htop hk (upF fp i r) (ct_step hte ht ho hn hm hc r)
        refine ⟨f, G, AL, tm', nx', cur', old', hK, rec_plain hn R rfl (fun a ha => ha) (fun _ a ha => .inl ha) rfl rfl (Nat.le_refl _) fun hfi hext hal hg hold => ⟨o, ?_⟩⟩
        exact ⟨ho, by rw [hfi]; exact hw, by rw [hfi]; exact Nat.le_refl _, fun _ => by rw [hfi], by rw [hfi]; exact htm f hext, fun _ hh => (by rw [hfi] at hh; cases hh), fun _ c => .inr (by rw [hfi]), fun _ hh => (by rw [hfi] at hh; cases hh), fun hh => absurd hh hcl, fun hh => absurd hh hcl, fun hh => absurd hh hcl, fun _ => by rw [hfi]; exact hph0⟩
end
end Go.Sx
