/- cocycleref07: Vector. The numbers of a simplicial complex's cells, both ways. No program. -/
import Derived.Test.YtfcmpolhcpbliaaGreatDoorOp

namespace Go.Proofs.YtfcmpolhcpbliaaGreatDoor
open Go.RowKit Go.Cx
attribute [local go_sem ↓] Go.wp_at_zero Go.wp_at_succ

theorem wvs_snoc (l : List Int) (x : Int) : wvs (l ++ [x]) = wvs l ++ [.bool (decide (x < 0)), .string (mg x)] := by
  induction l with
  | nil => rfl
  | cons y l ih => show _ :: _ :: wvs (l ++ [x]) = _; rw [ih]; rfl
set_option maxRecDepth 100000 in
set_option maxHeartbeats 4000000 in
theorem svVector (v u : Value) (l : List Ce) (d : Int) (t : List Tm) (S : Nat) (w : World) (h : SlC w v l) (k : Sl w 3 u (tv t)) (hl : l.length ≤ 1099511627776) (hsl : ∀ x ∈ l, x.s.length ≤ 1099511627776) (hS : TOk S t) (hb : S + t.length ≤ 1099511627774) :
    Calls Tryz.prog 17 #[.agg #[v], .int .i64 d, u] w fun e w' => ∃ (r : Value) (q : Bool), e = .returned (.tuple #[r, .bool q]) ∧ (q = true ↔ ∀ c, co (prs t) c ≠ 0 → ∃ x ∈ l, x.id = c ∧ x.dim = d) ∧
      (q = true → w'.ownsRow w.heap.size 46 2 r (idsK (l.map Ce.cl) d).length (wvs ((idsK (l.map Ce.cl) d).map (co (prs t))))) ∧ (q = false → r = .slice none 0 0) ∧ Below w.heap.size w w' := by
  obtain ⟨a, len, cap, rfl⟩ := sl_shape h.1
  obtain ⟨a2, n2, cap2, rfl⟩ := sl_shape k
  have HH := Lib.hid (h.mono fun p u hc => keepAl hc (.cells #[.slice a len cap] 27))
  have HK := Lib.hid (k.alloc (.cells #[.slice a len cap] 27))
  have HSL := Lib.hid (And.intro hsl hS)
  clear h k hsl hS
  go_enter Tryz.func17, Tryz.ntmps17
  go_wp2_with fail
  obtain ⟨W, hW⟩ : ∃ W : World, W = w.alloc (.cells #[.slice a len cap] 27) := ⟨_, rfl⟩
  rw [← hW] at HH HK ⊢
  have q0 : W.cell? ⟨w.heap.size, 0, none⟩ = some (.slice a len cap) := by rw [hW]; exact cell_new w #[.slice a len cap] 27 (0, 0) 0
  have hw : Below w.heap.size w W := by rw [hW]; exact (Below.refl _ _).alloc (Nat.le_refl _) _
  clear hW
  refine (svIn _ l d _ t S _ HH.out HK.out HSL.out.2 hb).mono ?_
  rintro e w1 ⟨q, rfl, hq, hb1⟩
  have HQ := Lib.hid (And.intro hq hb1)
  have q1 := Cx.keep hb1 q0
  clear hq hb1 q0
  cases q with
  | false =>
    go_wp2_with fail
    go_ret2
    exact ⟨_, false, rfl, HQ.out.1, fun h => (by cases h), fun _ => rfl, hw.trans (HQ.out.2.mono hw.size)⟩
  | true =>
    go_wp2_with fail
    refine (smIds _ l d _ (HH.out.mono fun p u hc => Cx.keep HQ.out.2 hc) hl HSL.out.1).mono ?_
    rintro e w2 ⟨r, rfl, hR, hb2⟩
    obtain ⟨A, hA⟩ : ∃ A, A = idsK (l.map Ce.cl) d := ⟨_, rfl⟩
    rw [← hA] at hR
    obtain ⟨ra, rc, hre⟩ := ownsRow_len hR
    subst hre
    have hAl : A.length ≤ l.length := by
      rw [hA]
      unfold idsK cellsK
      rw [List.length_map]
      refine Nat.le_trans (List.length_filter_le _ _) (Nat.le_trans (nub_len _ _ _) ?_)
      rw [ordK_len, List.length_map]; exact Nat.le_refl _
    have hsA := Sl.of_ownsRow hR
    have hB2 : Below w.heap.size w w2 := hw.trans ((HQ.out.2.mono hw.size).trans (hb2.mono (Nat.le_trans hw.size HQ.out.2.size)))
    have hk2 : Sl w2 3 (.slice a2 n2 cap2) (tv t) := (HK.out.keep HQ.out.2).keep hb2
    obtain ⟨n, hn⟩ : ∃ n, n = A.length := ⟨_, rfl⟩
    rw [← hn] at hAl hsA ⊢
    obtain ⟨hnc1, hnc2, _⟩ := hsA.open
    unfold maxLen at hnc2
    have HF := Lib.hid (And.intro hA (And.intro hn (And.intro hsA (And.intro hB2 hk2))))
    have hz : w.heap.size ≤ w2.heap.size := hB2.size
    clear hA hn hsA hB2 hk2 hR hb2 hw q1
    go_wp2_with fail
    go_loopw [10, 11] (fun o i wr => ∃ j : Nat, i = .int .i64 j ∧ j ≤ n ∧ Hid (wr.ownsRow w2.heap.size 46 2 o j (wvs ((A.take j).map (co (prs t))))) ∧ Below w2.heap.size w2 wr) (fun _ i _ => n - (vI i).toNat)
    case atStart => exact ⟨0, rfl, Nat.zero_le _, (show Hid _ from World.ownsRow_nil _ _ _ _), Below.refl _ _⟩
    case round =>
      obtain ⟨j, rfl, hj, HO, hB⟩ := hrel
      have hz2 : w2.heap.size ≤ wr.heap.size := hB.size
      obtain ⟨o, ho⟩ : ∃ o : Value, o = u10 := ⟨_, rfl⟩
      subst ho
      by_cases hlt : j < n
      · obtain ⟨y, hy⟩ : ∃ y, A[j]? = some y := ⟨_, List.getElem?_eq_getElem (by rw [← HF.out.2.1]; exact hlt)⟩
        obtain ⟨h2, h3, h4, h5, h6⟩ := HF.out.2.2.1.open
        obtain ⟨ad, hade⟩ : ∃ ad, ra = some ad := by
          cases ra with
          | none => have := h5 rfl; omega
          | some ad => exact ⟨ad, rfl⟩
        subst hade
        have d0 : wr.cell? (ad.add j) = some (.int .i64 y) := Cx.keep hB (h6 ad rfl _ _ (by rw [ints_get _ _ (by rw [← HF.out.2.1]; exact hlt), List.getD_eq_getElem?_getD, hy]; rfl))
        have HY := Lib.hid hy
        clear h2 h3 h4 h5 h6 hy
        go_wp2_with fail
        refine (svCoef _ t y S _ (HF.out.2.2.2.2.keep hB) HSL.out.2 (by omega)).mono ?_
        rintro e w3 ⟨rfl, hb3⟩
        obtain ⟨z, hz3⟩ : ∃ z, z = co (prs t) y := ⟨_, rfl⟩
        rw [← hz3, show wv z = .agg #[.bool (decide (z < 0)), .string (mg z)] from rfl]
        have HO3 := Lib.hid (ownsRow_below HO.out hb3)
        have hB3 : Below w2.heap.size w2 w3 := hB.trans (hb3.mono hz2)
        have hz4 : w2.heap.size ≤ w3.heap.size := hB3.size
        have HZ := Lib.hid hz3
        clear hz3 hb3 d0
        go_wp2_with (at_builtin; go_loud (refine wpList_app1 (W := w2) rfl _ _ 34 rfl w2.heap.size 46 Tryz.infoW2 Tryz.underlying34 rfl (by decide) (by decide) _ _ _ rfl HO3.out [.bool (decide (z < 0)), .string (mg z)] rfl rfl (by intro u hu; simp at hu; rcases hu with rfl | rfl <;> rfl) (by omega) hB3 hz4 ?_))
        intro v5 w5 hr5 _ hB5
        have F5 := Lib.hid (And.intro hr5 hB5)
        clear hr5 hB5
        go_wp2
        go_roundw
        case measure => simp [vI]; omega
        case rel =>
          refine ⟨j + 1, i64_eq (by omega), by omega, (show Hid _ from ?_), F5.out.2⟩
          rw [List.take_add_one, HY.out, Option.toList_some, List.map_append, List.map_singleton, wvs_snoc, ← HZ.out]
          have := F5.out.1
          rw [← List.map_take] at this
          exact this
      · have hmt : A.take j = A := List.take_of_length_le (by rw [← HF.out.2.1]; omega)
        have hje : j = n := by omega
        rw [hmt] at HO
        clear hmt
        go_wp2
        go_ret2
        refine ⟨_, true, rfl, ⟨fun _ => HQ.out.1.1 trivial, fun _ => rfl⟩, fun _ => ?_, fun h => (by cases h), HF.out.2.2.2.1.trans (hB.mono hz)⟩
        rw [← HF.out.1]
        have h1 := HO.out
        rw [hje, HF.out.2.1] at h1
        exact ownsRow_mono h1 hz

end Go.Proofs.YtfcmpolhcpbliaaGreatDoor

namespace Go.Cx
open Go.RowKit
/-- Numbers that rise. -/
def Asc (K : List Cl) : Prop := K.Pairwise fun x y => x.id < y.id
theorem mrg_asc {a b : List Cl} (h : Asc (a ++ b)) : mrg Cl.id a b = a ++ b := by
  fun_induction mrg Cl.id a b with
  | case1 b => rfl
  | case2 x a => simp
  | case3 x a y b hk ih =>
    have := (List.pairwise_append.1 h).2.2 x (List.mem_cons_self ..) y (List.mem_cons_self ..)
    omega
  | case4 x a y b hk ih =>
    rw [ih (List.pairwise_cons.1 h).2]; rfl
theorem Asc.map {K : List Cl} (h : Asc K) (f : Cl → Cl) (hf : ∀ x, (f x).id = x.id) : Asc (K.map f) := by
  unfold Asc
  rw [List.pairwise_map]
  exact h.imp fun {x y} hxy => by rw [hf, hf]; exact hxy
theorem ordK_asc {K : List Cl} (h : Asc K) : ordK K = K.map fun x => ⟨x.id, x.dim, srtL x.s⟩ := by
  fun_induction ordK K with
  | case1 l hl => rfl
  | case2 l hl ih1 ih2 =>
    have h' := h
    rw [← List.take_append_drop (l.length / 2) l] at h'
    obtain ⟨h1, h2, _⟩ := List.pairwise_append.1 h'
    rw [ih1 h1, ih2 h2, mrg_asc, ← List.map_append, List.take_append_drop]
    rw [← List.map_append, List.take_append_drop]
    exact h.map _ fun _ => rfl
theorem nub_asc {K : List Cl} (h : Asc K) : ∀ p : Option Int, (∀ x ∈ K, p ≠ some x.id) → nub Cl.id p K = K := by
  induction K with
  | nil => intro p _; rfl
  | cons x K ih =>
    intro p hp
    obtain ⟨h1, h2⟩ := List.pairwise_cons.1 h
    unfold nub
    rw [if_neg (hp x (List.mem_cons_self ..)), ih h2 _ fun y hy e => by
      have := h1 y hy
      injection e with e
      omega]
theorem firsts_asc {K : List Cl} (h : Asc K) : firsts Cl.id K = K := by
  induction K with
  | nil => rfl
  | cons x K ih =>
    obtain ⟨h1, h2⟩ := List.pairwise_cons.1 h
    show x :: (firsts Cl.id K).filter _ = _
    rw [ih h2]
    congr 1
    refine List.filter_eq_self.2 fun y hy => ?_
    have := h1 y hy
    simpa using show ¬ y.id = x.id by omega
theorem idsK_asc {K : List Cl} (h : Asc K) (d : Int) : idsK K d = (K.filter fun x => x.dim == d).map Cl.id := by
  unfold idsK cellsK
  rw [ordK_asc h, nub_asc (h.map (fun x => ⟨x.id, x.dim, srtL x.s⟩) fun _ => rfl) none (fun _ _ e => by cases e), List.filter_map, List.map_map]
  rfl
theorem idsOf_asc {K : List Cl} (h : Asc K) (d : Int) : idsOf K d = (K.filter fun x => x.dim == d).map Cl.id := by
  unfold idsOf cellsOf canon
  have hs : Srt Cl.id K := h.imp fun {x y} hxy => by omega
  rw [stb_id hs, firsts_asc (h.map Cl.canon fun _ => rfl), List.filter_map, List.map_map]
  rfl
theorem celsOf_asc (A : List (List Int)) (n : Nat) : Asc (celsOf A n) := by
  unfold Asc celsOf
  rw [List.pairwise_map]
  exact List.pairwise_lt_range.imp fun {i j} hij => by show (i : Int) + 1 < (j : Int) + 1; omega
theorem simpN_asc (l : List Int) : Asc (simpN l) := celsOf_asc _ _
theorem ids_simpN (l : List Int) (d : Int) : idsK (simpN l) d = idsOf (simpN l) d := by rw [idsK_asc (simpN_asc l), idsOf_asc (simpN_asc l)]
end Go.Cx
namespace Go.Proofs.YtfcmpolhcpbliaaGreatDoor
open Go.RowKit Go.Cx

theorem tSvBd (v u : Value) (K : List Cl) (l : List Tm) (g : Int → Int) (N S R T : Nat) (w : World) (h : (Fk.cx K).holds v w) (k : Sl w 3 u (tv l)) (hK : KOk K) (hS : TOk S l) (hN : l.length = N) (hR : (rawsK K).length ≤ R) (hT : S + N + 8 + R ≤ T) (hb : N + T ≤ 1000000) (hg : ∀ c, co (bdL (co (prs l)) (rawsK K)) c = g c) :
    Calls Tryz.prog 20 #[v, u] w (Gives (.cf g R T) w) := by
  obtain ⟨x, m, rfl, h3, h4⟩ := h
  have hc := svBoundary x m u l S w h3 (hK.cok h4) k hS (by rw [raws_cl, h4]; omega)
  rw [raws_cl, h4, show co (bdL (co (prs l)) (rawsK K)) = g from funext hg] at hc
  refine (gives_cf hc (S := T) (fun c => ?_) (fun c hc0 => ?_)).mono fun e w' ⟨r, he, hr, hb⟩ => ⟨r, he, cf_mono hr (fun _ => rfl) hR (Nat.le_refl _), hb⟩
  · rw [← hg]
    have h1 := nb_co (S + N + 8) (bdL (co (prs l)) (rawsK K)) (fun p hp => by
      obtain ⟨q, hq, rfl⟩ := List.mem_map.1 hp
      have h1 := nb_mul (co (prs l) q.1) q.2.g
      have h2 := tok_nb hS q.1
      have h3 := (rawsK_ok hK hq).2.2
      have h4 := nb_int q.2.g h3.1 h3.2
      show nb (co (prs l) q.1 * q.2.g) ≤ _
      omega) c
    rw [bdL_len] at h1
    omega
  · rw [← hg] at hc0
    rcases Classical.em (∃ p ∈ bdL (co (prs l)) (rawsK K), p.1 = c) with ⟨p, hp, rfl⟩ | hn
    · obtain ⟨q, hq, rfl⟩ := List.mem_map.1 hp
      exact (rawsK_ok hK hq).2.1
    · exact absurd (co_none fun p hp e => hn ⟨p, hp, e⟩) hc0
theorem tSvCb (v u : Value) (K : List Cl) (l : List Tm) (g : Int → Int) (N S R T : Nat) (w : World) (h : (Fk.cx K).holds v w) (k : Sl w 3 u (tv l)) (hK : KOk K) (hS : TOk S l) (hN : l.length = N) (hR : (rawsK K).length ≤ R) (hT : S + N + 8 + R ≤ T) (hb : N + T ≤ 1000000) (hg : ∀ c, co (cbL (co (prs l)) (rawsK K)) c = g c) :
    Calls Tryz.prog 22 #[v, u] w (Gives (.cf g R T) w) := by
  obtain ⟨x, m, rfl, h3, h4⟩ := h
  have hc := svCoboundary x m u l S w h3 (hK.cok h4) k hS (by rw [raws_cl, h4]; omega)
  rw [raws_cl, h4, show co (cbL (co (prs l)) (rawsK K)) = g from funext hg] at hc
  refine (gives_cf hc (S := T) (fun c => ?_) (fun c hc0 => ?_)).mono fun e w' ⟨r, he, hr, hb⟩ => ⟨r, he, cf_mono hr (fun _ => rfl) hR (Nat.le_refl _), hb⟩
  · rw [← hg]
    have h1 := nb_co (S + N + 8) (cbL (co (prs l)) (rawsK K)) (fun p hp => by
      obtain ⟨q, hq, rfl⟩ := List.mem_map.1 hp
      have h1 := nb_mul (co (prs l) q.2.c) q.2.g
      have h2 := tok_nb hS q.2.c
      have h3 := (rawsK_ok hK hq).2.2
      have h4 := nb_int q.2.g h3.1 h3.2
      show nb (co (prs l) q.2.c * q.2.g) ≤ _
      omega) c
    rw [cbL_len] at h1
    omega
  · rw [← hg] at hc0
    rcases Classical.em (∃ p ∈ cbL (co (prs l)) (rawsK K), p.1 = c) with ⟨p, hp, rfl⟩ | hn
    · obtain ⟨q, hq, rfl⟩ := List.mem_map.1 hp
      exact (rawsK_ok hK hq).1
    · exact absurd (co_none fun p hp e => hn ⟨p, hp, e⟩) hc0
/-- Whether a chain lies in a dimension. -/
def InK (K : List Cl) (d : Int) (l : List Tm) : Prop := ∀ c, co (prs l) c ≠ 0 → ∃ x ∈ K, x.id = c ∧ x.dim = d
theorem tChIn (v u : Value) (K : List Cl) (l : List Tm) (d : Int) (q : Bool) (S : Nat) (w : World) (h : (Fk.cx K).holds v w) (k : Sl w 3 u (tv l)) (hK : KOk K) (hS : TOk S l) (hb : S + l.length ≤ 1000000) (hKl : K.length ≤ 1000) (hq : q = true ↔ InK K d l) :
    Calls Tryz.prog 23 #[v, .int .i64 d, u] w (Gives (.val (.bool q)) w) := by
  obtain ⟨x, m, rfl, h3, h4⟩ := h
  refine (chIn x m d u l S w h3 (by rw [← h4, List.length_map] at hKl; omega) (hK.cok h4) k hS (by omega)).mono fun e w' ⟨q', he, h1, hb⟩ => ⟨_, he, ?_, hb⟩
  show Value.bool q' = .bool q
  rw [Bool.eq_iff_iff.2 (h1.trans (Iff.trans ?_ hq.symm))]
  unfold InK
  rw [← h4]
  exact forall_congr' fun c => imp_congr Iff.rfl (ex_cl m c d)
theorem tSvIn (v u : Value) (K : List Cl) (l : List Tm) (d : Int) (q : Bool) (S : Nat) (w : World) (h : (Fk.cx K).holds v w) (k : Sl w 3 u (tv l)) (hS : TOk S l) (hb : S + l.length ≤ 1000000) (hq : q = true ↔ InK K d l) :
    Calls Tryz.prog 24 #[v, .int .i64 d, u] w (Gives (.val (.bool q)) w) := by
  obtain ⟨x, m, rfl, h3, h4⟩ := h
  refine (svIn x m d u l S w h3 k hS (by omega)).mono fun e w' ⟨q', he, h1, hb⟩ => ⟨_, he, ?_, hb⟩
  show Value.bool q' = .bool q
  rw [Bool.eq_iff_iff.2 (h1.trans (Iff.trans ?_ hq.symm))]
  unfold InK
  rw [← h4]
  exact forall_congr' fun c => imp_congr Iff.rfl (ex_cl m c d)
/-- What both Vectors yield. -/
def vecK (K : List Cl) (d : Int) (l : List Tm) (q : Bool) : List Int := if q then (idsOf K d).map (co (prs l)) else []
theorem tChVec (v u : Value) (K : List Cl) (l : List Tm) (d : Int) (q : Bool) (S : Nat) (w : World) (h : (Fk.cx K).holds v w) (k : Sl w 3 u (tv l)) (hK : KOk K) (hS : TOk S l) (hb : S + l.length ≤ 1000000) (hKl : K.length ≤ 1000) (hq : q = true ↔ InK K d l) :
    Calls Tryz.prog 16 #[v, .int .i64 d, u] w fun e w' => ∃ r, e = .returned (.tuple #[r, .bool q]) ∧ Sl w' 2 r (wvs (vecK K d l q)) ∧ Below w.heap.size w w' := by
  obtain ⟨x, m, rfl, h3, h4⟩ := h
  refine (chVector x m d u l S w h3 (by rw [← h4, List.length_map] at hKl; omega) (hK.cok h4) k hS (by omega)).mono ?_
  rintro e w' ⟨r, q', rfl, h1, h2, h5, hB⟩
  have hqq : q' = q := Bool.eq_iff_iff.2 (h1.trans (Iff.trans (by unfold InK; rw [← h4]; exact forall_congr' fun c => imp_congr Iff.rfl (ex_cl m c d)) hq.symm))
  subst hqq
  refine ⟨r, rfl, ?_, hB⟩
  unfold vecK
  cases q' with
  | true => have := Sl.of_ownsRow (h2 rfl); rw [h4] at this; exact this
  | false => rw [h5 rfl]; exact Sl.nil _ _
theorem tSvVec (v u : Value) (K : List Cl) (l : List Tm) (d : Int) (q : Bool) (S : Nat) (w : World) (h : (Fk.cx K).holds v w) (k : Sl w 3 u (tv l)) (hK : KOk K) (hS : TOk S l) (hb : S + l.length ≤ 1000000) (hKl : K.length ≤ 1000) (hq : q = true ↔ InK K d l) (hid : idsK K d = idsOf K d) :
    Calls Tryz.prog 17 #[v, .int .i64 d, u] w fun e w' => ∃ r, e = .returned (.tuple #[r, .bool q]) ∧ Sl w' 2 r (wvs (vecK K d l q)) ∧ Below w.heap.size w w' := by
  obtain ⟨x, m, rfl, h3, h4⟩ := h
  refine (svVector x u m d l S w h3 k (by rw [← h4, List.length_map] at hKl; omega) (fun y hy => (hK.cok h4 y hy).2.1) hS (by omega)).mono ?_
  rintro e w' ⟨r, q', rfl, h1, h2, h5, hB⟩
  have hqq : q' = q := Bool.eq_iff_iff.2 (h1.trans (Iff.trans (by unfold InK; rw [← h4]; exact forall_congr' fun c => imp_congr Iff.rfl (ex_cl m c d)) hq.symm))
  subst hqq
  refine ⟨r, rfl, ?_, hB⟩
  unfold vecK
  cases q' with
  | true => have := Sl.of_ownsRow (h2 rfl); rw [h4, hid] at this; exact this
  | false => rw [h5 rfl]; exact Sl.nil _ _

end Go.Proofs.YtfcmpolhcpbliaaGreatDoor
