/- Calls by kinds: Made; pairs of chains; len. cocyclelaw07.ChainsTwice. Written by gen_twi.py out of LaT.src. -/
import Derived.Deep.RegionHeld3
import Derived.Deep.DeepMust
import Derived.Test.YtfcmpolhcpbliaaGreatDoorOn
import Derived.Test.YtfcmpolhcpbliaaGreatDoorOo
import Derived.Test.YtfcmpolhcpbliaaGreatDoorOi
import Derived.Test.YtfcmpolhcpbliaaGreatDoorPa

namespace Go.Proofs.YtfcmpolhcpbliaaGreatDoor
open Go.RowKit Go.Cx

theorem idsK_mem {K : List Cl} {d x : Int} (h : x ∈ idsK K d) : ∃ y ∈ K, y.id = x ∧ y.dim = d := by
  obtain ⟨y, hy, rfl⟩ := List.mem_map.1 h
  obtain ⟨hy, hd⟩ := List.mem_filter.1 hy
  obtain ⟨z, hz, h1, h2, _⟩ := ordK_mem _ y (nub_mem _ _ _ _ hy)
  exact ⟨z, hz, h1.symm, by rw [← h2]; simpa using hd⟩
/-- Made yields a canonical chain of small coefficients at cells of the dimension. -/
theorem svMadeF (v u : Value) (K : List Cl) (d : Int) (cs : List Int) (b : Nat) (w : World) (h : (Fk.cx K).holds v w) (k : Sl w 1 u (ints cs)) (hK : KOk K) (hKl : K.length ≤ 180) (hb : b ≤ w.heap.size) :
    Calls Tryz.prog 14 #[v, .int .i64 d, u] w fun e w' => ∃ r L, e = .returned r ∧ Cn L ∧ L.length ≤ 180 ∧ LOk 8 L ∧ (∀ p ∈ L, ∃ y ∈ K, y.id = p.1 ∧ y.dim = d) ∧ w'.ownsRow b 63 3 r L.length (tv (ctm L)) ∧ Below w.heap.size w w' := by
  obtain ⟨x, m, rfl, h1, h2⟩ := h
  have hml : m.length ≤ 180 := by rw [← h2, List.length_map] at hKl; exact hKl
  have hok := hK.cok h2
  refine (svMade x u m d cs w h1 k (by omega) (fun y hy => (hok y hy).2.1) (fun y hy => (hok y hy).1.1)).mono ?_
  rintro e w' ⟨r, L, rfl, hC, hl, hA, hS, hR, hB⟩
  rw [h2] at hA
  refine ⟨r, L, rfl, hC, by omega, fun p hp => ⟨?_, ?_⟩, fun p hp => idsK_mem (hA p hp), ownsRow_mono hR hb, hB⟩
  · obtain ⟨y, hy, he, _⟩ := idsK_mem (hA p hp)
    rw [← he]; exact (hK y hy).1.1
  · have := hS p hp
    exact Nat.le_trans (nb_le p.2 8 (by omega)) (Nat.le_refl _)
theorem cf_of {L : List (Int × Int)} {v : Value} {w : World} {b N S : Nat} (h : w.ownsRow b 63 3 v L.length (tv (ctm L))) (hC : Cn L) (hL : LOk S L) (hN : L.length ≤ N) : (Fk.cf (co L) N S).holds v w := ⟨L, hC, fun _ => rfl, hN, hL.tok, Sl.of_ownsRow h⟩
theorem cfPairB (v u : Value) (f g : Int → Int) (N S N' S' : Nat) (z : Int) (w : World) (h : (Fk.cf f N S).holds v w) (k : (Fk.cf g N' S').holds u w) (hb : S + S' + 2 * N + 2 * N' ≤ 900000) (hz : ∀ L, (∀ c, co L c = g c) → pg f L = z) : Calls Tryz.prog 27 #[v, u] w (Gives (.val (wv z)) w) := by
  obtain ⟨L, h1, h2, h3, h4, h5⟩ := h
  obtain ⟨M, k1, k2, k3, k4, k5⟩ := k
  refine (chPair v u (ctm L) (ctm M) (S + S') w h5 k5 (h4.mono (by omega)) (k4.mono (by omega)) (by rw [ctm_len, ctm_len]; omega)).mono fun e w' ⟨he, hb⟩ => ⟨_, he, ?_, hb⟩
  rw [prs_ctm, prs_ctm, show co L = f from funext h2, hz M k2]; rfl
theorem cf_nil {N S : Nat} {v : Value} {w : World} (h : (Fk.cf (fun _ => 0) N S).holds v w) : ∃ a c, v = .slice a 0 c := by
  obtain ⟨L, h1, h2, _, _, h5⟩ := h
  have hL : L = [] := by
    cases L with
    | nil => rfl
    | cons p L =>
      have := h2 p.1
      rw [co_mem h1.1 (List.mem_cons_self ..)] at this
      exact absurd this (h1.2 p (List.mem_cons_self ..))
  subst hL
  obtain ⟨a, n, c, rfl⟩ := sl_shape h5
  obtain ⟨_, _, h3, _⟩ := h5.open
  have h3 : 0 = n * 3 := h3
  have : n = 0 := by omega
  subst this
  exact ⟨a, c, rfl⟩
theorem stp_len {Q : Exit → Act → World → Prop} {k : Fk} {o : Oper} {a : Act} {w : World} {t e : TypeId} (x : Operand) (hop : o.op = .call { callee := .builtin .len, args := #[x], argTypes := #[t] }) (ht : Tryz.prog.underlying t = some (.slice e)) (ad : Option Addr) (n c : Nat) (hx : a.eval x = .slice ad n c) (hn : k.holds (.int .i64 n) w) : Stp Tryz.prog Q k o a w := by
  show Oper.wp _ _ _ _ _ _
  unfold Oper.wp
  have : (execOp a.eval o).run Tryz.prog w = .ok (.value (.int .i64 n)) w := by
    generalize a.eval = ρ at hx
    simp [execOp, hop, resolve, invoke, hx, builtin, Builtin.len_, run_underlying ht, goInt, Result.andThen]
  rw [this]
  exact ⟨_, rfl, hn, Below.refl _ _⟩
theorem eqI (t : TypeId) (n : Int) (w : World) (ht : t = 3) : (Go.binOp .eql t (.int .i64 n) (.int .i64 n)).run Tryz.prog w = .ok (.bool true) w := by
  subst ht; simp [go_sem]
theorem egI (x y : Operand) (n m : Int) (w : World) : (eqGuard .eql 3 x y (.int .i64 n) (.int .i64 m)).run Tryz.prog w = .ok () w := by
  simp [go_sem, eqGuard]

end Go.Proofs.YtfcmpolhcpbliaaGreatDoor

namespace Go.Proofs.YtfcmpolhcpbliaaGreatDoor
open Go.RowKit Go.Cx
attribute [local go_sem ↓] Go.wp_at_zero Go.wp_at_succ

theorem simpN_len (l : List Int) : ∀ s ∈ (l.take 12).map vsOf, s.length ≤ 4 := fun s hs => by
  obtain ⟨n, _, rfl⟩ := List.mem_map.1 hs
  exact (vsOf_ok n).1

set_option maxRecDepth 100000 in
set_option maxHeartbeats 4000000 in
theorem laTwice (v0 v1 v2 : Value) (l la lb : List Int) (w : World) (h0 : Sl w 1 v0 (ints l)) (h1 : Sl w 1 v1 (ints la)) (h2 : Sl w 1 v2 (ints lb)) :
    Calls Tryz.prog 5 #[v0, v1, v2] w fun e w' => e = .returned (.bool true) ∧ Below w.heap.size w w' := by
  obtain ⟨a0, k0, c0, rfl⟩ := sl_shape h0
  obtain ⟨a1, k1, c1, rfl⟩ := sl_shape h1
  obtain ⟨a2, k2, c2, rfl⟩ := sl_shape h2
  have hk1 : k1 ≤ 9223372036854775807 := by obtain ⟨g1, g2, _⟩ := h1.open; unfold maxLen at g2; omega
  have H := Lib.hid (And.intro h0 (And.intro h1 h2))
  clear h0 h1 h2
  go_enter Tryz.func5, Tryz.ntmps5
  go_wp2_with fail
  refine (laSanity _).mono ?_
  rintro e w1 ⟨rfl, hb1⟩
  go_wp2_with fail
  refine (smSimplices _ l _ (H.out.1.keep hb1)).mono ?_
  rintro e w2 ⟨r, m, rfl, hm, hR, hb2⟩
  obtain ⟨ua, uc, hue⟩ := ownsRow_len hR.1
  subst hue
  have hB2 : Below w.heap.size w w2 := hb1.trans (hb2.mono hb1.size)
  have HC := Lib.hid (And.intro hm hR.slc)
  have HB2 := Lib.hid hB2
  clear hm hR hb1 hb2 hB2
  go_wp2_with fail
  obtain ⟨W0, hW0⟩ : ∃ W0, W0 = w2.alloc (.cells #[.slice ua m.length uc] 27) := ⟨_, rfl⟩
  rw [← hW0]
  have hBw : Below w.heap.size w W0 := by rw [hW0]; exact HB2.out.alloc HB2.out.size _
  have hcx : (Fk.cx (simpN l)).holds (.agg #[.slice ua m.length uc]) W0 := by rw [hW0]; exact ⟨_, m, rfl, HC.out.2.mono fun p u hc => keepAl hc _, HC.out.1⟩
  have hbv : Bv W0 w2.heap.size (.slice ua m.length uc) := by rw [hW0]; exact Bv.new w2 _ _
  have HX := Lib.hid (And.intro hcx (And.intro hbv hBw))
  clear hcx hbv hBw hW0
  refine (svMod _ 4 _ (by decide) (by decide)).mono ?_
  rintro e w3 ⟨rfl, hb3⟩
  obtain ⟨d, hd⟩ : ∃ d : Int, d = (k1 : Int) % 4 := ⟨_, rfl⟩
  rw [← hd]
  have hd0 : 0 ≤ d ∧ d < 4 := by omega
  have HB3 := Lib.hid hb3
  have d0 : w3.cell? ⟨w2.heap.size, 0, none⟩ = some (.slice ua m.length uc) := Cx.keep hb3 HX.out.2.1.1
  have hb3w : Below w.heap.size w w3 := HX.out.2.2.trans (hb3.mono HX.out.2.2.size)
  have hcx3 : ∀ w', Below w3.heap.size w3 w' → (Fk.cx (simpN l)).holds (.agg #[.slice ua m.length uc]) w' := fun w' h => Fk.keep (k := .cx (simpN l)) (Fk.keep (k := .cx (simpN l)) HX.out.1 hb3) h
  have ha3 : ∀ w', Below w3.heap.size w3 w' → Sl w' 1 (.slice a1 k1 c1) (ints la) := fun w' h => (H.out.2.1.keep hb3w).keep h
  have hb33 : ∀ w', Below w3.heap.size w3 w' → Sl w' 1 (.slice a2 k2 c2) (ints lb) := fun w' h => (H.out.2.2.keep hb3w).keep h
  have hbd : Below w3.heap.size w3 w3.drew := below_draws (Below.refl _ w3) 1
  have hok := simpN_ok l
  have H3 := Lib.hid (And.intro hcx3 (And.intro ha3 (And.intro hb33 (And.intro hok hb3w))))
  clear hb3 hb3w hcx3 ha3 hb33 hd hok
  go_wp2_with fail
  go_region_held3 (fun w' => w'.cell? ⟨w2.heap.size, 0, none⟩ = some (.slice ua m.length uc))
    (first | assumption)
    (first
      | (go_at_call 14; refine (svMadeF _ _ (simpN l) _ lb w3.heap.size _ (H3.out.1 _ HA4.out.2) (H3.out.2.2.1 _ HA4.out.2) H3.out.2.2.2.1.1 H3.out.2.2.2.1.2.2 HA4.out.2.size).mono ?_; rintro e w5 ⟨v11, L2, rfl, hC2, hl2, hL2, _, hR2, hb5⟩; have HA45 := Lib.hid hb5; have hb5 : Below w3.heap.size w3 w5 := HA4.out.2.trans (hb5.mono HA4.out.2.size); have a0 := Cx.keep hb5 d0; have HA5 := Lib.hid (And.intro (cf_of hR2 hC2 hL2 hl2) hb5); have HL2 := Lib.hid (And.intro hC2 hL2))
      | (go_at_call 14; refine (svMadeF _ _ (simpN l) _ la w3.heap.size _ (H3.out.1 _ hbd) (H3.out.2.1 _ hbd) H3.out.2.2.2.1.1 H3.out.2.2.2.1.2.2 hbd.size).mono ?_; rintro e w4 ⟨v10, L1, rfl, hC1, hl1, hL1, _, hR1, hb4⟩; have hb4 : Below w3.heap.size w3 w4 := hbd.trans (hb4.mono hbd.size); have a0 := Cx.keep hb4 d0; have HA4 := Lib.hid (And.intro (cf_of hR1 hC1 hL1 hl1) hb4); have HL1 := Lib.hid (And.intro hC1 hL1)))
  clear hbd
  obtain ⟨W, hW⟩ : ∃ W : World, W = w5 := ⟨_, rfl⟩
  subst hW
  obtain ⟨fx, hfx⟩ : ∃ f, f = co L1 := ⟨_, rfl⟩
  obtain ⟨fy, hfy⟩ : ∃ f, f = co L2 := ⟨_, rfl⟩
  have hcx4 := HA4.out.1
  have hcx5 := HA5.out.1
  rw [← hfx] at hcx4
  rw [← hfy] at hcx5
  have hB0 : Below w.heap.size w W := H3.out.2.2.2.2.trans (HA5.out.2.mono H3.out.2.2.2.2.size)
  obtain ⟨K, hKe⟩ : ∃ K, K = simpN l := ⟨_, rfl⟩
  have hok := simpN_ok l
  have hk0 := H3.out.1 _ HA5.out.2
  rw [← hKe] at hok hk0
  obtain ⟨hK, hR, _⟩ := hok
  have hbv : Bv W w2.heap.size (.slice ua m.length uc) := (HX.out.2.1.keep HB3.out).keep HA5.out.2
  have hv10 : ∀ w', Below W.heap.size W w' → (Fk.cf fx 180 8).holds v10 w' := fun w' h => Fk.keep (k := .cf fx 180 8) (Fk.keep (k := .cf fx 180 8) hcx4 HA45.out) h
  have hv11 : ∀ w', Below W.heap.size W w' → (Fk.cf fy 180 8).holds v11 w' := fun w' h => Fk.keep (k := .cf fy 180 8) hcx5 h
  obtain ⟨g1, hg1⟩ : ∃ g : Int → Int, ∀ c, co (bdL fx (rawsK K)) c = g c := ⟨_, fun _ => rfl⟩
  obtain ⟨h1, hh1⟩ : ∃ g : Int → Int, ∀ c, co (cbL fy (rawsK K)) c = g c := ⟨_, fun _ => rfl⟩
  have hg0 : ∀ c, co (bdL g1 (rawsK K)) c = (fun _ => 0) c := fun c => by
    rw [show g1 = co (bdL fx (rawsK K)) from funext fun c => (hg1 c).symm, hKe]
    exact bd_bd fx _ (simpN_len l) c
  have hh0 : ∀ c, co (cbL h1 (rawsK K)) c = (fun _ => 0) c := fun c => by
    rw [show h1 = co (cbL fy (rawsK K)) from funext fun c => (hh1 c).symm, hKe]
    exact cb_cb fy _ (simpN_len l) c
  obtain ⟨Z, hZ⟩ : ∃ Z, Z = pg fy (bdL fx (rawsK K)) := ⟨_, rfl⟩
  have hZ1 : ∀ L, (∀ c, co L c = fx c) → pg h1 L = Z := fun L hL => by
    rw [show h1 = co (cbL fy (rawsK K)) from funext fun c => (hh1 c).symm, pg_symm, show co L = fx from funext hL, ← bd_cb, hZ]
  have hZ2 : ∀ L, (∀ c, co L c = g1 c) → pg fy L = Z := fun L hL => by
    rw [hZ]
    exact pg_congr fy (L.length + (bdL fx (rawsK K)).length) L _ (Nat.le_refl _) fun c => by rw [hL, hg1]
  have HH := Lib.hid (And.intro hB0 (And.intro hR (And.intro hk0 (And.intro hbv (And.intro hv10 (And.intro hv11 (And.intro hg1 (And.intro hh1 (And.intro hg0 (And.intro hh0 (And.intro hZ1 hZ2)))))))))))
  clear hcx4 hcx5 hfx hfy hB0 hKe hk0 hR hbv hv10 hv11 hg1 hh1 hg0 hh0 hZ hZ1 hZ2
  go_wp2_with fail
  rename_i KK hKK
  obtain ⟨hB0, hR, hk0, hbv, hv10, hv11, hg1, hh1, hg0, hh0, hZ1, hZ2⟩ := HH.out
  refine region_facts rfl (fun i v w => (([.tt, .tt, .cx K, .cx K, .val v10, .cf g1 720 900, .cf (fun _ => 0) 720 1700, .val (.int .i64 (0 : Nat)), .tt, .tt, .tt, .cx K, .cx K, .val v11, .cf h1 720 900, .cf (fun _ => 0) 720 1700, .val (.int .i64 (0 : Nat)), .tt, .tt, .tt, .cx K, .val v11, .cf h1 720 900, .val v10, .val (wv Z), .val v11, .cx K, .val v10, .cf g1 720 900, .val (wv Z), .tt, .tt, .tt] : List Fk).getD i .any).holds v w) 59 rfl (by kernel_rfl) (by kernel_rfl) ?hF ?step ?done
  case hF => exact fun i v w w' h hb => Fk.keep h hb
  case step =>
    intro i o ho a w' hw hd hbase hsz
    have ht10 : (v10 : Value) = v10 := rfl
    have ht11 : (v11 : Value) = v11 := rfl
    have ht7 : (.bool true : Value) = .bool true := rfl
    have hp8 : (.pointer (some ⟨w2.heap.size, 0, none⟩) : Value) = .pointer (some ⟨w2.heap.size, 0, none⟩) := rfl
    match i, ho, hd with
    | 0, ho, hd =>
      obtain rfl := Option.some.inj ho
      exact ⟨rfl, stp_move _ (.inl rfl) ((hbase 7 (noDst_spec (by kernel_rfl))).trans ht7)⟩
    | 1, ho, hd =>
      obtain rfl := Option.some.inj ho
      have f0 : (Fk.tt).holds (a.tmps.getD 27 undef) w' := hd 0 _ _ rfl rfl (by kernel_rfl)
      exact ⟨rfl, stp_move _ (.inl rfl) f0⟩
    | 2, ho, hd =>
      obtain rfl := Option.some.inj ho
      have fg : (Fk.tt).holds (a.tmps.getD 28 undef) w' := hd 1 _ _ rfl rfl (by kernel_rfl)
      exact ⟨wanted_tt 1 28 rfl rfl (by rw [hsz]; decide) fg, stp_load _ _ rfl _ ((hbase 8 (noDst_spec (by kernel_rfl))).trans hp8) _ (ldK (hbv.keep hw)) (Fk.keep (k := .cx K) hk0 hw)⟩
    | 3, ho, hd =>
      obtain rfl := Option.some.inj ho
      have fg : (Fk.tt).holds (a.tmps.getD 28 undef) w' := hd 1 _ _ rfl rfl (by kernel_rfl)
      exact ⟨wanted_tt 1 28 rfl rfl (by rw [hsz]; decide) fg, stp_load _ _ rfl _ ((hbase 8 (noDst_spec (by kernel_rfl))).trans hp8) _ (ldK (hbv.keep hw)) (Fk.keep (k := .cx K) hk0 hw)⟩
    | 4, ho, hd =>
      obtain rfl := Option.some.inj ho
      have fg : (Fk.tt).holds (a.tmps.getD 28 undef) w' := hd 1 _ _ rfl rfl (by kernel_rfl)
      exact ⟨wanted_tt 1 28 rfl rfl (by rw [hsz]; decide) fg, stp_move _ (.inl rfl) ((hbase 10 (noDst_spec (by kernel_rfl))).trans ht10)⟩
    | 5, ho, hd =>
      obtain rfl := Option.some.inj ho
      have f0 : (Fk.cx K).holds (a.tmps.getD 30 undef) w' := hd 3 _ _ rfl rfl (by kernel_rfl)
      have f1 : (Fk.val v10).holds (a.tmps.getD 31 undef) w' := hd 4 _ _ rfl rfl (by kernel_rfl)
      have fg : (Fk.tt).holds (a.tmps.getD 28 undef) w' := hd 1 _ _ rfl rfl (by kernel_rfl)
      exact ⟨wanted_tt 1 28 rfl rfl (by rw [hsz]; decide) fg, stp_call _ _ _ rfl ef_chains_Boundary #[a.tmps.getD 30 undef, v10] (by simp [Act.eval, show a.tmps.getD 31 undef = v10 from f1]) (cfBd _ _ K fx g1 180 8 720 900 _ f0 (hv10 _ hw) hK hR (by omega) (by omega) hg1)⟩
    | 6, ho, hd =>
      obtain rfl := Option.some.inj ho
      have f0 : (Fk.cx K).holds (a.tmps.getD 29 undef) w' := hd 2 _ _ rfl rfl (by kernel_rfl)
      have f1 : (Fk.cf g1 720 900).holds (a.tmps.getD 32 undef) w' := hd 5 _ _ rfl rfl (by kernel_rfl)
      have fg : (Fk.tt).holds (a.tmps.getD 28 undef) w' := hd 1 _ _ rfl rfl (by kernel_rfl)
      exact ⟨wanted_tt 1 28 rfl rfl (by rw [hsz]; decide) fg, stp_call _ _ _ rfl ef_chains_Boundary #[a.tmps.getD 29 undef, a.tmps.getD 32 undef] (by simp [Act.eval]) (cfBd _ _ K g1 (fun _ => 0) 720 900 720 1700 _ f0 f1 hK hR (by omega) (by omega) hg0)⟩
    | 7, ho, hd =>
      obtain rfl := Option.some.inj ho
      have f0 : (Fk.cf (fun _ => 0) 720 1700).holds (a.tmps.getD 33 undef) w' := hd 6 _ _ rfl rfl (by kernel_rfl)
      have fg : (Fk.tt).holds (a.tmps.getD 28 undef) w' := hd 1 _ _ rfl rfl (by kernel_rfl)
      exact ⟨wanted_tt 1 28 rfl rfl (by rw [hsz]; decide) fg, by obtain ⟨ad, c, hx⟩ := cf_nil f0; exact stp_len _ rfl Tryz.underlying30 ad 0 c hx rfl⟩
    | 8, ho, hd =>
      obtain rfl := Option.some.inj ho
      have f0 : (Fk.val (.int .i64 (0 : Nat))).holds (a.tmps.getD 34 undef) w' := hd 7 _ _ rfl rfl (by kernel_rfl)
      have fg : (Fk.tt).holds (a.tmps.getD 28 undef) w' := hd 1 _ _ rfl rfl (by kernel_rfl)
      exact ⟨wanted_tt 1 28 rfl rfl (by rw [hsz]; decide) fg, stp_bin _ _ _ _ _ rfl _ _ f0 rfl _ (egI _ _ _ _ _) (eqI _ _ _ rfl) rfl⟩
    | 9, ho, hd =>
      obtain rfl := Option.some.inj ho
      have f0 : (Fk.tt).holds (a.tmps.getD 28 undef) w' := hd 1 _ _ rfl rfl (by kernel_rfl)
      have f1 : (Fk.tt).holds (a.tmps.getD 35 undef) w' := hd 8 _ _ rfl rfl (by kernel_rfl)
      exact ⟨rfl, stp_pick _ _ _ rfl f0 f1⟩
    | 10, ho, hd =>
      obtain rfl := Option.some.inj ho
      have f0 : (Fk.tt).holds (a.tmps.getD 36 undef) w' := hd 9 _ _ rfl rfl (by kernel_rfl)
      exact ⟨rfl, stp_move _ (.inl rfl) f0⟩
    | 11, ho, hd =>
      obtain rfl := Option.some.inj ho
      have fg : (Fk.tt).holds (a.tmps.getD 37 undef) w' := hd 10 _ _ rfl rfl (by kernel_rfl)
      exact ⟨wanted_tt 10 37 rfl rfl (by rw [hsz]; decide) fg, stp_load _ _ rfl _ ((hbase 8 (noDst_spec (by kernel_rfl))).trans hp8) _ (ldK (hbv.keep hw)) (Fk.keep (k := .cx K) hk0 hw)⟩
    | 12, ho, hd =>
      obtain rfl := Option.some.inj ho
      have fg : (Fk.tt).holds (a.tmps.getD 37 undef) w' := hd 10 _ _ rfl rfl (by kernel_rfl)
      exact ⟨wanted_tt 10 37 rfl rfl (by rw [hsz]; decide) fg, stp_load _ _ rfl _ ((hbase 8 (noDst_spec (by kernel_rfl))).trans hp8) _ (ldK (hbv.keep hw)) (Fk.keep (k := .cx K) hk0 hw)⟩
    | 13, ho, hd =>
      obtain rfl := Option.some.inj ho
      have fg : (Fk.tt).holds (a.tmps.getD 37 undef) w' := hd 10 _ _ rfl rfl (by kernel_rfl)
      exact ⟨wanted_tt 10 37 rfl rfl (by rw [hsz]; decide) fg, stp_move _ (.inl rfl) ((hbase 11 (noDst_spec (by kernel_rfl))).trans ht11)⟩
    | 14, ho, hd =>
      obtain rfl := Option.some.inj ho
      have f0 : (Fk.cx K).holds (a.tmps.getD 39 undef) w' := hd 12 _ _ rfl rfl (by kernel_rfl)
      have f1 : (Fk.val v11).holds (a.tmps.getD 40 undef) w' := hd 13 _ _ rfl rfl (by kernel_rfl)
      have fg : (Fk.tt).holds (a.tmps.getD 37 undef) w' := hd 10 _ _ rfl rfl (by kernel_rfl)
      exact ⟨wanted_tt 10 37 rfl rfl (by rw [hsz]; decide) fg, stp_call _ _ _ rfl ef_chains_Coboundary #[a.tmps.getD 39 undef, v11] (by simp [Act.eval, show a.tmps.getD 40 undef = v11 from f1]) (cfCb _ _ K fy h1 180 8 720 900 _ f0 (hv11 _ hw) hK hR (by omega) (by omega) hh1)⟩
    | 15, ho, hd =>
      obtain rfl := Option.some.inj ho
      have f0 : (Fk.cx K).holds (a.tmps.getD 38 undef) w' := hd 11 _ _ rfl rfl (by kernel_rfl)
      have f1 : (Fk.cf h1 720 900).holds (a.tmps.getD 41 undef) w' := hd 14 _ _ rfl rfl (by kernel_rfl)
      have fg : (Fk.tt).holds (a.tmps.getD 37 undef) w' := hd 10 _ _ rfl rfl (by kernel_rfl)
      exact ⟨wanted_tt 10 37 rfl rfl (by rw [hsz]; decide) fg, stp_call _ _ _ rfl ef_chains_Coboundary #[a.tmps.getD 38 undef, a.tmps.getD 41 undef] (by simp [Act.eval]) (cfCb _ _ K h1 (fun _ => 0) 720 900 720 1700 _ f0 f1 hK hR (by omega) (by omega) hh0)⟩
    | 16, ho, hd =>
      obtain rfl := Option.some.inj ho
      have f0 : (Fk.cf (fun _ => 0) 720 1700).holds (a.tmps.getD 42 undef) w' := hd 15 _ _ rfl rfl (by kernel_rfl)
      have fg : (Fk.tt).holds (a.tmps.getD 37 undef) w' := hd 10 _ _ rfl rfl (by kernel_rfl)
      exact ⟨wanted_tt 10 37 rfl rfl (by rw [hsz]; decide) fg, by obtain ⟨ad, c, hx⟩ := cf_nil f0; exact stp_len _ rfl Tryz.underlying30 ad 0 c hx rfl⟩
    | 17, ho, hd =>
      obtain rfl := Option.some.inj ho
      have f0 : (Fk.val (.int .i64 (0 : Nat))).holds (a.tmps.getD 43 undef) w' := hd 16 _ _ rfl rfl (by kernel_rfl)
      have fg : (Fk.tt).holds (a.tmps.getD 37 undef) w' := hd 10 _ _ rfl rfl (by kernel_rfl)
      exact ⟨wanted_tt 10 37 rfl rfl (by rw [hsz]; decide) fg, stp_bin _ _ _ _ _ rfl _ _ f0 rfl _ (egI _ _ _ _ _) (eqI _ _ _ rfl) rfl⟩
    | 18, ho, hd =>
      obtain rfl := Option.some.inj ho
      have f0 : (Fk.tt).holds (a.tmps.getD 37 undef) w' := hd 10 _ _ rfl rfl (by kernel_rfl)
      have f1 : (Fk.tt).holds (a.tmps.getD 44 undef) w' := hd 17 _ _ rfl rfl (by kernel_rfl)
      exact ⟨rfl, stp_pick _ _ _ rfl f0 f1⟩
    | 19, ho, hd =>
      obtain rfl := Option.some.inj ho
      have f0 : (Fk.tt).holds (a.tmps.getD 45 undef) w' := hd 18 _ _ rfl rfl (by kernel_rfl)
      exact ⟨rfl, stp_move _ (.inl rfl) f0⟩
    | 20, ho, hd =>
      obtain rfl := Option.some.inj ho
      have fg : (Fk.tt).holds (a.tmps.getD 46 undef) w' := hd 19 _ _ rfl rfl (by kernel_rfl)
      exact ⟨wanted_tt 19 46 rfl rfl (by rw [hsz]; decide) fg, stp_load _ _ rfl _ ((hbase 8 (noDst_spec (by kernel_rfl))).trans hp8) _ (ldK (hbv.keep hw)) (Fk.keep (k := .cx K) hk0 hw)⟩
    | 21, ho, hd =>
      obtain rfl := Option.some.inj ho
      have fg : (Fk.tt).holds (a.tmps.getD 46 undef) w' := hd 19 _ _ rfl rfl (by kernel_rfl)
      exact ⟨wanted_tt 19 46 rfl rfl (by rw [hsz]; decide) fg, stp_move _ (.inl rfl) ((hbase 11 (noDst_spec (by kernel_rfl))).trans ht11)⟩
    | 22, ho, hd =>
      obtain rfl := Option.some.inj ho
      have f0 : (Fk.cx K).holds (a.tmps.getD 47 undef) w' := hd 20 _ _ rfl rfl (by kernel_rfl)
      have f1 : (Fk.val v11).holds (a.tmps.getD 48 undef) w' := hd 21 _ _ rfl rfl (by kernel_rfl)
      have fg : (Fk.tt).holds (a.tmps.getD 46 undef) w' := hd 19 _ _ rfl rfl (by kernel_rfl)
      exact ⟨wanted_tt 19 46 rfl rfl (by rw [hsz]; decide) fg, stp_call _ _ _ rfl ef_chains_Coboundary #[a.tmps.getD 47 undef, v11] (by simp [Act.eval, show a.tmps.getD 48 undef = v11 from f1]) (cfCb _ _ K fy h1 180 8 720 900 _ f0 (hv11 _ hw) hK hR (by omega) (by omega) hh1)⟩
    | 23, ho, hd =>
      obtain rfl := Option.some.inj ho
      have fg : (Fk.tt).holds (a.tmps.getD 46 undef) w' := hd 19 _ _ rfl rfl (by kernel_rfl)
      exact ⟨wanted_tt 19 46 rfl rfl (by rw [hsz]; decide) fg, stp_move _ (.inl rfl) ((hbase 10 (noDst_spec (by kernel_rfl))).trans ht10)⟩
    | 24, ho, hd =>
      obtain rfl := Option.some.inj ho
      have f0 : (Fk.cf h1 720 900).holds (a.tmps.getD 49 undef) w' := hd 22 _ _ rfl rfl (by kernel_rfl)
      have f1 : (Fk.val v10).holds (a.tmps.getD 50 undef) w' := hd 23 _ _ rfl rfl (by kernel_rfl)
      have fg : (Fk.tt).holds (a.tmps.getD 46 undef) w' := hd 19 _ _ rfl rfl (by kernel_rfl)
      exact ⟨wanted_tt 19 46 rfl rfl (by rw [hsz]; decide) fg, stp_call _ _ _ rfl ef_chains_Pair #[a.tmps.getD 49 undef, v10] (by simp [Act.eval, show a.tmps.getD 50 undef = v10 from f1]) (cfPairB _ _ h1 fx 720 900 180 8 Z _ f0 (hv10 _ hw) (by omega) hZ1)⟩
    | 25, ho, hd =>
      obtain rfl := Option.some.inj ho
      have fg : (Fk.tt).holds (a.tmps.getD 46 undef) w' := hd 19 _ _ rfl rfl (by kernel_rfl)
      exact ⟨wanted_tt 19 46 rfl rfl (by rw [hsz]; decide) fg, stp_move _ (.inl rfl) ((hbase 11 (noDst_spec (by kernel_rfl))).trans ht11)⟩
    | 26, ho, hd =>
      obtain rfl := Option.some.inj ho
      have fg : (Fk.tt).holds (a.tmps.getD 46 undef) w' := hd 19 _ _ rfl rfl (by kernel_rfl)
      exact ⟨wanted_tt 19 46 rfl rfl (by rw [hsz]; decide) fg, stp_load _ _ rfl _ ((hbase 8 (noDst_spec (by kernel_rfl))).trans hp8) _ (ldK (hbv.keep hw)) (Fk.keep (k := .cx K) hk0 hw)⟩
    | 27, ho, hd =>
      obtain rfl := Option.some.inj ho
      have fg : (Fk.tt).holds (a.tmps.getD 46 undef) w' := hd 19 _ _ rfl rfl (by kernel_rfl)
      exact ⟨wanted_tt 19 46 rfl rfl (by rw [hsz]; decide) fg, stp_move _ (.inl rfl) ((hbase 10 (noDst_spec (by kernel_rfl))).trans ht10)⟩
    | 28, ho, hd =>
      obtain rfl := Option.some.inj ho
      have f0 : (Fk.cx K).holds (a.tmps.getD 53 undef) w' := hd 26 _ _ rfl rfl (by kernel_rfl)
      have f1 : (Fk.val v10).holds (a.tmps.getD 54 undef) w' := hd 27 _ _ rfl rfl (by kernel_rfl)
      have fg : (Fk.tt).holds (a.tmps.getD 46 undef) w' := hd 19 _ _ rfl rfl (by kernel_rfl)
      exact ⟨wanted_tt 19 46 rfl rfl (by rw [hsz]; decide) fg, stp_call _ _ _ rfl ef_chains_Boundary #[a.tmps.getD 53 undef, v10] (by simp [Act.eval, show a.tmps.getD 54 undef = v10 from f1]) (cfBd _ _ K fx g1 180 8 720 900 _ f0 (hv10 _ hw) hK hR (by omega) (by omega) hg1)⟩
    | 29, ho, hd =>
      obtain rfl := Option.some.inj ho
      have f0 : (Fk.val v11).holds (a.tmps.getD 52 undef) w' := hd 25 _ _ rfl rfl (by kernel_rfl)
      have f1 : (Fk.cf g1 720 900).holds (a.tmps.getD 55 undef) w' := hd 28 _ _ rfl rfl (by kernel_rfl)
      have fg : (Fk.tt).holds (a.tmps.getD 46 undef) w' := hd 19 _ _ rfl rfl (by kernel_rfl)
      exact ⟨wanted_tt 19 46 rfl rfl (by rw [hsz]; decide) fg, stp_call _ _ _ rfl ef_chains_Pair #[v11, a.tmps.getD 55 undef] (by simp [Act.eval, show a.tmps.getD 52 undef = v11 from f0]) (cfPairB _ _ fy g1 180 8 720 900 Z _ (hv11 _ hw) f1 (by omega) hZ2)⟩
    | 30, ho, hd =>
      obtain rfl := Option.some.inj ho
      have f0 : (Fk.val (wv Z)).holds (a.tmps.getD 51 undef) w' := hd 24 _ _ rfl rfl (by kernel_rfl)
      have f1 : (Fk.val (wv Z)).holds (a.tmps.getD 56 undef) w' := hd 29 _ _ rfl rfl (by kernel_rfl)
      have fg : (Fk.tt).holds (a.tmps.getD 46 undef) w' := hd 19 _ _ rfl rfl (by kernel_rfl)
      exact ⟨wanted_tt 19 46 rfl rfl (by rw [hsz]; decide) fg, stp_bin _ _ _ _ _ rfl _ _ f0 f1 _ (egX _ _ _ _) (eqX _ _) rfl⟩
    | 31, ho, hd =>
      obtain rfl := Option.some.inj ho
      have f0 : (Fk.tt).holds (a.tmps.getD 46 undef) w' := hd 19 _ _ rfl rfl (by kernel_rfl)
      have f1 : (Fk.tt).holds (a.tmps.getD 57 undef) w' := hd 30 _ _ rfl rfl (by kernel_rfl)
      exact ⟨rfl, stp_pick _ _ _ rfl f0 f1⟩
    | 32, ho, hd =>
      obtain rfl := Option.some.inj ho
      have f0 : (Fk.tt).holds (a.tmps.getD 58 undef) w' := hd 31 _ _ rfl rfl (by kernel_rfl)
      exact ⟨rfl, stp_move _ (.inr rfl) f0⟩
    | i + 33, ho, hd =>
      have : i + 33 < 33 := (Array.getElem?_eq_some_iff.1 ho).1
      omega
  case done =>
    intro a w6 hsz hdf hf hbase hw
    have ht : (Fk.tt).holds (a.tmps.getD 6 undef) w6 := hf 32 _ _ rfl rfl
    have hB := hB0.trans (hw.mono hB0.size)
    clear hbase hf
    refine hKK _ _ (wp_ret ?_)
    show bodyPost Tryz.prog Tryz.f5 (fun e w' => e = .returned (.bool true) ∧ Below w.heap.size w w') .ret a w6
    refine bodyPost_ret (v := .bool true) ?_ hdf ⟨rfl, hB⟩
    have ht' : a.tmps.getD 6 undef = .bool true := ht
    rw [Array.getD_eq_getD_getElem?] at ht'
    simp [results, Tryz.results5, go_sem, ht']

end Go.Proofs.YtfcmpolhcpbliaaGreatDoor
