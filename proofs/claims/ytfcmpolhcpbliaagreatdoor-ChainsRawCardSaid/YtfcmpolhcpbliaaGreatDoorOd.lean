/- cocyclelaw07.ChainsRaw. Written by gen_raw.py out of LaM.src. An argument that is a slice of raw cells, as my walks read it. -/
import Derived.Test.YtfcmpolhcpbliaaGreatDoorOb
import Derived.Test.YtfcmpolhcpbliaaGreatDoorOc
import Derived.Test.YtfcmpolhcpbliaaGreatDoorPa
import Derived.Test.YtfcmpolhcpbliaaGreatDoorMp

namespace Go.Proofs.YtfcmpolhcpbliaaGreatDoor
open Go.RowKit Go.Cx
attribute [local go_sem ↓] Go.wp_at_zero Go.wp_at_succ

theorem raw_ok (l : List Ce) (hok : ∀ x ∈ l, (I64 x.id ∧ I64 x.dim) ∧ ∀ s ∈ x.s, I64 s.c ∧ I64 s.g) : KOk ((l.take 10).map cut6) := fun y hy => by
  obtain ⟨x, hx, rfl⟩ := List.mem_map.1 hy
  have := hok x (List.mem_of_mem_take hx)
  exact ⟨this.1, by show (x.s.take 6).length ≤ _; rw [List.length_take]; omega, fun s hs => this.2 s (List.mem_of_mem_take hs)⟩
theorem raw_len (l : List Ce) : (rawsK ((l.take 10).map cut6)).length ≤ 500 := by
  have key : ∀ m : List Ce, (rawsK (m.map cut6)).length ≤ 6 * m.length := fun m => by
    induction m with
    | nil => simp [rawsK]
    | cons x m ih =>
      show (((cut6 x).s.map fun y => ((cut6 x).id, y)) ++ rawsK (m.map cut6)).length ≤ _
      rw [List.length_append, List.length_map]
      have : (cut6 x).s.length ≤ 6 := by show (x.s.take 6).length ≤ 6; rw [List.length_take]; omega
      simp only [List.length_cons]
      omega
  have := key (l.take 10)
  rw [List.length_take] at this
  omega

set_option maxRecDepth 100000 in
set_option maxHeartbeats 4000000 in
theorem laRawLaw (v1 v2 : Value) (l1 : List Ce) (l2 : List (Int × Int)) (z : Int) (w : World) (h1 : SlC w v1 l1) (h2 : Sl w 2 v2 (pv l2)) (r1 : ∀ x ∈ l1, (I64 x.id ∧ I64 x.dim) ∧ ∀ s ∈ x.s, I64 s.c ∧ I64 s.g) (r2 : ∀ p ∈ l2, I64 p.1 ∧ I64 p.2) :
    Calls Tryz.prog 4 #[v1, v2, .int .i64 z] w fun e w' => e = .returned (.bool true) ∧ Below w.heap.size w w' := by
  obtain ⟨a1, k1, c1, rfl⟩ := sl_shape h1.1
  obtain ⟨a2, k2, c2, rfl⟩ := sl_shape h2
  have H1 := Lib.hid h1; clear h1
  have H2 := Lib.hid h2; clear h2
  go_enter Tryz.func4, Tryz.ntmps4
  go_wp2_with fail
  refine (laSanity _).mono ?_
  rintro e w1 ⟨rfl, hb1⟩
  go_wp2_with fail
  refine (laRaw _ l1 _ (H1.out.mono fun p u hc => Cx.keep hb1 hc)).mono ?_
  rintro e w2 ⟨vc, m, rfl, hm, hc, hb2⟩
  obtain ⟨ua, un, uc, rfl⟩ := sl_shape hc.1
  go_wp2_with fail
  refine (svTermsF _ l2 _ _ ((H2.out.keep hb1).keep hb2) r2 (Nat.le_refl _)).mono ?_
  rintro e w3 ⟨v9, rfl, hy, hb3⟩
  have hY := Sl.of_ownsRow hy.2
  obtain ⟨L2, hL2⟩ : ∃ L, L = l2.take 30 := ⟨_, rfl⟩
  have q2 : LOk 8 L2 := hL2 ▸ lok8 r2
  have n2 : L2.length ≤ 100 := by rw [hL2]; simp; omega
  rw [← hL2] at hY
  have hB3 : Below w.heap.size w w3 := (hb1.trans (hb2.mono hb1.size)).trans (hb3.mono (Nat.le_trans hb1.size hb2.size))
  obtain ⟨W0, hW⟩ : ∃ W0, W0 = w3.alloc (.cells #[.slice ua un uc] 27) := ⟨_, rfl⟩
  obtain ⟨K, hK⟩ : ∃ K, K = (l1.take 10).map cut6 := ⟨_, rfl⟩
  have qK : KOk K := hK ▸ raw_ok l1 r1
  have nK : (rawsK K).length ≤ 500 := hK ▸ raw_len l1
  have nl : K.length ≤ 1000 := by rw [hK]; simp; omega
  rw [← hK] at hm
  have hk0 : (Fk.cx K).holds (.agg #[.slice ua un uc]) W0 := by rw [hW]; exact ⟨_, m, rfl, (hc.mono fun p u hc => Cx.keep hb3 hc).mono fun p u hc => keepAl hc _, hm⟩
  have hy0 : Sl W0 3 v9 (tv (ctm L2)) := by rw [hW]; exact hY.alloc _
  have hb0 : Bv W0 w3.heap.size (.slice ua un uc) := by rw [hW]; exact Bv.new w3 _ _
  have hB0 : Below w.heap.size w W0 := by rw [hW]; exact hB3.alloc hB3.size _
  obtain ⟨q, hq⟩ : ∃ q : Bool, q = true ↔ ∀ c, co (prs (ctm L2)) c ≠ 0 → ∃ x ∈ K, x.id = c ∧ x.dim = z := by
    rcases Classical.em (∀ c, co (prs (ctm L2)) c ≠ 0 → ∃ x ∈ K, x.id = c ∧ x.dim = z) with h | h
    · exact ⟨true, iff_of_true rfl h⟩
    · exact ⟨false, iff_of_false Bool.false_ne_true h⟩
  have HH := Lib.hid (And.intro hW (And.intro hk0 (And.intro hy0 (And.intro hb0 (And.intro hB0 hq)))))
  clear hy hY hb1 hb2 hb3 hB3 hc hm hk0 hy0 hb0 hB0 hW hq
  go_wp2_with fail
  rename_i KK hKK
  obtain ⟨hW, hk0, hy0, hbv, hB0, hq⟩ := HH.out
  rw [← hW]
  have hv9 : ∀ w', Below W0.heap.size W0 w' → Sl w' 3 v9 (tv (ctm L2)) := fun w' h => hy0.keep h
  have nc : (ctm L2).length ≤ 100 := by rw [ctm_len]; exact n2
  have qc : TOk 8 (ctm L2) := q2.tok
  obtain ⟨fb, hfb⟩ : ∃ f, f = co (bdL (co (prs (ctm L2))) (rawsK K)) := ⟨_, rfl⟩
  obtain ⟨fc, hfc⟩ : ∃ f, f = co (cbL (co (prs (ctm L2))) (rawsK K)) := ⟨_, rfl⟩
  obtain ⟨N, hN⟩ : ∃ N, (rawsK K).length = N := ⟨_, rfl⟩
  refine region_facts rfl (fun i v w => (([.tt, .tt, .cx K, .val v9, .cf fb N 1000, .cx K, .val v9, .cf fb N 1000, .tt, .tt, .tt, .cx K, .val v9, .cf fc N 1000, .cx K, .val v9, .cf fc N 1000, .tt, .tt, .tt, .cx K, .val (.int .i64 z), .val v9, .val (.bool q), .cx K, .val (.int .i64 z), .val v9, .val (.bool q), .tt, .tt, .tt] : List Fk).getD i .any).holds v w) 45 rfl (by kernel_rfl) (by kernel_rfl) (fun i v w w' h hb => Fk.keep h hb) ?step ?done
  case step =>
      intro i o ho a w' hw hd hbase hsz
      have ht9 : (v9 : Value) = v9 := rfl
      have ht2 : (.int .i64 z : Value) = .int .i64 z := rfl
      have ht7 : (.bool true : Value) = .bool true := rfl
      have hp8 : (.pointer (some ⟨w3.heap.size, 0, none⟩) : Value) = .pointer (some ⟨w3.heap.size, 0, none⟩) := rfl
      match i, ho, hd with
      | 0, ho, hd =>
        obtain rfl := Option.some.inj ho
        exact ⟨rfl, stp_move _ (.inl rfl) ((hbase 7 (noDst_spec (by kernel_rfl))).trans ht7)⟩
      | 1, ho, hd =>
        obtain rfl := Option.some.inj ho
        have f0 : (Fk.tt).holds (a.tmps.getD 15 undef) w' := hd 0 _ _ rfl rfl (by kernel_rfl)
        exact ⟨rfl, stp_move _ (.inl rfl) f0⟩
      | 2, ho, hd =>
        obtain rfl := Option.some.inj ho
        have fg : (Fk.tt).holds (a.tmps.getD 16 undef) w' := hd 1 _ _ rfl rfl (by kernel_rfl)
        exact ⟨wanted_tt 1 16 rfl rfl (by rw [hsz]; decide) fg, stp_load _ _ rfl _ ((hbase 8 (noDst_spec (by kernel_rfl))).trans hp8) _ (ldK (hbv.keep hw)) (Fk.keep (k := .cx K) hk0 hw)⟩
      | 3, ho, hd =>
        obtain rfl := Option.some.inj ho
        have fg : (Fk.tt).holds (a.tmps.getD 16 undef) w' := hd 1 _ _ rfl rfl (by kernel_rfl)
        exact ⟨wanted_tt 1 16 rfl rfl (by rw [hsz]; decide) fg, stp_move _ (.inl rfl) ((hbase 9 (noDst_spec (by kernel_rfl))).trans ht9)⟩
      | 4, ho, hd =>
        obtain rfl := Option.some.inj ho
        have f0 : (Fk.cx K).holds (a.tmps.getD 17 undef) w' := hd 2 _ _ rfl rfl (by kernel_rfl)
        have f1 : (Fk.val v9).holds (a.tmps.getD 18 undef) w' := hd 3 _ _ rfl rfl (by kernel_rfl)
        have fg : (Fk.tt).holds (a.tmps.getD 16 undef) w' := hd 1 _ _ rfl rfl (by kernel_rfl)
        exact ⟨wanted_tt 1 16 rfl rfl (by rw [hsz]; decide) fg, stp_call _ _ _ rfl ef_chains_Boundary #[a.tmps.getD 17 undef, v9] (by simp [Act.eval, show a.tmps.getD 18 undef = v9 from f1]) (chBdF _ _ K (ctm L2) 8 fb _ f0 (hv9 _ hw) qK qc nc (by decide) nK N hN hfb)⟩
      | 5, ho, hd =>
        obtain rfl := Option.some.inj ho
        have fg : (Fk.tt).holds (a.tmps.getD 16 undef) w' := hd 1 _ _ rfl rfl (by kernel_rfl)
        exact ⟨wanted_tt 1 16 rfl rfl (by rw [hsz]; decide) fg, stp_load _ _ rfl _ ((hbase 8 (noDst_spec (by kernel_rfl))).trans hp8) _ (ldK (hbv.keep hw)) (Fk.keep (k := .cx K) hk0 hw)⟩
      | 6, ho, hd =>
        obtain rfl := Option.some.inj ho
        have fg : (Fk.tt).holds (a.tmps.getD 16 undef) w' := hd 1 _ _ rfl rfl (by kernel_rfl)
        exact ⟨wanted_tt 1 16 rfl rfl (by rw [hsz]; decide) fg, stp_move _ (.inl rfl) ((hbase 9 (noDst_spec (by kernel_rfl))).trans ht9)⟩
      | 7, ho, hd =>
        obtain rfl := Option.some.inj ho
        have f0 : (Fk.cx K).holds (a.tmps.getD 20 undef) w' := hd 5 _ _ rfl rfl (by kernel_rfl)
        have f1 : (Fk.val v9).holds (a.tmps.getD 21 undef) w' := hd 6 _ _ rfl rfl (by kernel_rfl)
        have fg : (Fk.tt).holds (a.tmps.getD 16 undef) w' := hd 1 _ _ rfl rfl (by kernel_rfl)
        exact ⟨wanted_tt 1 16 rfl rfl (by rw [hsz]; decide) fg, stp_call _ _ _ rfl ef_ref07_Boundary #[a.tmps.getD 20 undef, v9] (by simp [Act.eval, show a.tmps.getD 21 undef = v9 from f1]) (svBdF _ _ K (ctm L2) 8 fb _ f0 (hv9 _ hw) qK qc nc (by decide) nK N hN hfb)⟩
      | 8, ho, hd =>
        obtain rfl := Option.some.inj ho
        have f0 : (Fk.cf fb N 1000).holds (a.tmps.getD 19 undef) w' := hd 4 _ _ rfl rfl (by kernel_rfl)
        have f1 : (Fk.cf fb N 1000).holds (a.tmps.getD 22 undef) w' := hd 7 _ _ rfl rfl (by kernel_rfl)
        have fg : (Fk.tt).holds (a.tmps.getD 16 undef) w' := hd 1 _ _ rfl rfl (by kernel_rfl)
        exact ⟨wanted_tt 1 16 rfl rfl (by rw [hsz]; decide) fg, stp_call _ _ _ rfl ef_ref07_Same #[a.tmps.getD 19 undef, a.tmps.getD 22 undef] (by simp [Act.eval]) (svSameF _ _ _ _ _ _ _ _ f0 f1)⟩
      | 9, ho, hd =>
        obtain rfl := Option.some.inj ho
        have f0 : (Fk.tt).holds (a.tmps.getD 16 undef) w' := hd 1 _ _ rfl rfl (by kernel_rfl)
        have f1 : (Fk.tt).holds (a.tmps.getD 23 undef) w' := hd 8 _ _ rfl rfl (by kernel_rfl)
        exact ⟨rfl, stp_pick _ _ _ rfl f0 f1⟩
      | 10, ho, hd =>
        obtain rfl := Option.some.inj ho
        have f0 : (Fk.tt).holds (a.tmps.getD 24 undef) w' := hd 9 _ _ rfl rfl (by kernel_rfl)
        exact ⟨rfl, stp_move _ (.inl rfl) f0⟩
      | 11, ho, hd =>
        obtain rfl := Option.some.inj ho
        have fg : (Fk.tt).holds (a.tmps.getD 25 undef) w' := hd 10 _ _ rfl rfl (by kernel_rfl)
        exact ⟨wanted_tt 10 25 rfl rfl (by rw [hsz]; decide) fg, stp_load _ _ rfl _ ((hbase 8 (noDst_spec (by kernel_rfl))).trans hp8) _ (ldK (hbv.keep hw)) (Fk.keep (k := .cx K) hk0 hw)⟩
      | 12, ho, hd =>
        obtain rfl := Option.some.inj ho
        have fg : (Fk.tt).holds (a.tmps.getD 25 undef) w' := hd 10 _ _ rfl rfl (by kernel_rfl)
        exact ⟨wanted_tt 10 25 rfl rfl (by rw [hsz]; decide) fg, stp_move _ (.inl rfl) ((hbase 9 (noDst_spec (by kernel_rfl))).trans ht9)⟩
      | 13, ho, hd =>
        obtain rfl := Option.some.inj ho
        have f0 : (Fk.cx K).holds (a.tmps.getD 26 undef) w' := hd 11 _ _ rfl rfl (by kernel_rfl)
        have f1 : (Fk.val v9).holds (a.tmps.getD 27 undef) w' := hd 12 _ _ rfl rfl (by kernel_rfl)
        have fg : (Fk.tt).holds (a.tmps.getD 25 undef) w' := hd 10 _ _ rfl rfl (by kernel_rfl)
        exact ⟨wanted_tt 10 25 rfl rfl (by rw [hsz]; decide) fg, stp_call _ _ _ rfl ef_chains_Coboundary #[a.tmps.getD 26 undef, v9] (by simp [Act.eval, show a.tmps.getD 27 undef = v9 from f1]) (chCbF _ _ K (ctm L2) 8 fc _ f0 (hv9 _ hw) qK qc nc (by decide) nK N hN hfc)⟩
      | 14, ho, hd =>
        obtain rfl := Option.some.inj ho
        have fg : (Fk.tt).holds (a.tmps.getD 25 undef) w' := hd 10 _ _ rfl rfl (by kernel_rfl)
        exact ⟨wanted_tt 10 25 rfl rfl (by rw [hsz]; decide) fg, stp_load _ _ rfl _ ((hbase 8 (noDst_spec (by kernel_rfl))).trans hp8) _ (ldK (hbv.keep hw)) (Fk.keep (k := .cx K) hk0 hw)⟩
      | 15, ho, hd =>
        obtain rfl := Option.some.inj ho
        have fg : (Fk.tt).holds (a.tmps.getD 25 undef) w' := hd 10 _ _ rfl rfl (by kernel_rfl)
        exact ⟨wanted_tt 10 25 rfl rfl (by rw [hsz]; decide) fg, stp_move _ (.inl rfl) ((hbase 9 (noDst_spec (by kernel_rfl))).trans ht9)⟩
      | 16, ho, hd =>
        obtain rfl := Option.some.inj ho
        have f0 : (Fk.cx K).holds (a.tmps.getD 29 undef) w' := hd 14 _ _ rfl rfl (by kernel_rfl)
        have f1 : (Fk.val v9).holds (a.tmps.getD 30 undef) w' := hd 15 _ _ rfl rfl (by kernel_rfl)
        have fg : (Fk.tt).holds (a.tmps.getD 25 undef) w' := hd 10 _ _ rfl rfl (by kernel_rfl)
        exact ⟨wanted_tt 10 25 rfl rfl (by rw [hsz]; decide) fg, stp_call _ _ _ rfl ef_ref07_Coboundary #[a.tmps.getD 29 undef, v9] (by simp [Act.eval, show a.tmps.getD 30 undef = v9 from f1]) (svCbF _ _ K (ctm L2) 8 fc _ f0 (hv9 _ hw) qK qc nc (by decide) nK N hN hfc)⟩
      | 17, ho, hd =>
        obtain rfl := Option.some.inj ho
        have f0 : (Fk.cf fc N 1000).holds (a.tmps.getD 28 undef) w' := hd 13 _ _ rfl rfl (by kernel_rfl)
        have f1 : (Fk.cf fc N 1000).holds (a.tmps.getD 31 undef) w' := hd 16 _ _ rfl rfl (by kernel_rfl)
        have fg : (Fk.tt).holds (a.tmps.getD 25 undef) w' := hd 10 _ _ rfl rfl (by kernel_rfl)
        exact ⟨wanted_tt 10 25 rfl rfl (by rw [hsz]; decide) fg, stp_call _ _ _ rfl ef_ref07_Same #[a.tmps.getD 28 undef, a.tmps.getD 31 undef] (by simp [Act.eval]) (svSameF _ _ _ _ _ _ _ _ f0 f1)⟩
      | 18, ho, hd =>
        obtain rfl := Option.some.inj ho
        have f0 : (Fk.tt).holds (a.tmps.getD 25 undef) w' := hd 10 _ _ rfl rfl (by kernel_rfl)
        have f1 : (Fk.tt).holds (a.tmps.getD 32 undef) w' := hd 17 _ _ rfl rfl (by kernel_rfl)
        exact ⟨rfl, stp_pick _ _ _ rfl f0 f1⟩
      | 19, ho, hd =>
        obtain rfl := Option.some.inj ho
        have f0 : (Fk.tt).holds (a.tmps.getD 33 undef) w' := hd 18 _ _ rfl rfl (by kernel_rfl)
        exact ⟨rfl, stp_move _ (.inl rfl) f0⟩
      | 20, ho, hd =>
        obtain rfl := Option.some.inj ho
        have fg : (Fk.tt).holds (a.tmps.getD 34 undef) w' := hd 19 _ _ rfl rfl (by kernel_rfl)
        exact ⟨wanted_tt 19 34 rfl rfl (by rw [hsz]; decide) fg, stp_load _ _ rfl _ ((hbase 8 (noDst_spec (by kernel_rfl))).trans hp8) _ (ldK (hbv.keep hw)) (Fk.keep (k := .cx K) hk0 hw)⟩
      | 21, ho, hd =>
        obtain rfl := Option.some.inj ho
        have fg : (Fk.tt).holds (a.tmps.getD 34 undef) w' := hd 19 _ _ rfl rfl (by kernel_rfl)
        exact ⟨wanted_tt 19 34 rfl rfl (by rw [hsz]; decide) fg, stp_move _ (.inl rfl) ((hbase 2 (noDst_spec (by kernel_rfl))).trans ht2)⟩
      | 22, ho, hd =>
        obtain rfl := Option.some.inj ho
        have fg : (Fk.tt).holds (a.tmps.getD 34 undef) w' := hd 19 _ _ rfl rfl (by kernel_rfl)
        exact ⟨wanted_tt 19 34 rfl rfl (by rw [hsz]; decide) fg, stp_move _ (.inl rfl) ((hbase 9 (noDst_spec (by kernel_rfl))).trans ht9)⟩
      | 23, ho, hd =>
        obtain rfl := Option.some.inj ho
        have f0 : (Fk.cx K).holds (a.tmps.getD 35 undef) w' := hd 20 _ _ rfl rfl (by kernel_rfl)
        have f1 : (Fk.val (.int .i64 z)).holds (a.tmps.getD 36 undef) w' := hd 21 _ _ rfl rfl (by kernel_rfl)
        have f2 : (Fk.val v9).holds (a.tmps.getD 37 undef) w' := hd 22 _ _ rfl rfl (by kernel_rfl)
        have fg : (Fk.tt).holds (a.tmps.getD 34 undef) w' := hd 19 _ _ rfl rfl (by kernel_rfl)
        exact ⟨wanted_tt 19 34 rfl rfl (by rw [hsz]; decide) fg, stp_call _ _ _ rfl ef_chains_In #[a.tmps.getD 35 undef, (.int .i64 z), v9] (by simp [Act.eval, show a.tmps.getD 36 undef = (.int .i64 z) from f1, show a.tmps.getD 37 undef = v9 from f2]) (chInF2 _ _ K (ctm L2) 8 _ f0 (hv9 _ hw) qK qc nc (by decide) z q nl hq)⟩
      | 24, ho, hd =>
        obtain rfl := Option.some.inj ho
        have fg : (Fk.tt).holds (a.tmps.getD 34 undef) w' := hd 19 _ _ rfl rfl (by kernel_rfl)
        exact ⟨wanted_tt 19 34 rfl rfl (by rw [hsz]; decide) fg, stp_load _ _ rfl _ ((hbase 8 (noDst_spec (by kernel_rfl))).trans hp8) _ (ldK (hbv.keep hw)) (Fk.keep (k := .cx K) hk0 hw)⟩
      | 25, ho, hd =>
        obtain rfl := Option.some.inj ho
        have fg : (Fk.tt).holds (a.tmps.getD 34 undef) w' := hd 19 _ _ rfl rfl (by kernel_rfl)
        exact ⟨wanted_tt 19 34 rfl rfl (by rw [hsz]; decide) fg, stp_move _ (.inl rfl) ((hbase 2 (noDst_spec (by kernel_rfl))).trans ht2)⟩
      | 26, ho, hd =>
        obtain rfl := Option.some.inj ho
        have fg : (Fk.tt).holds (a.tmps.getD 34 undef) w' := hd 19 _ _ rfl rfl (by kernel_rfl)
        exact ⟨wanted_tt 19 34 rfl rfl (by rw [hsz]; decide) fg, stp_move _ (.inl rfl) ((hbase 9 (noDst_spec (by kernel_rfl))).trans ht9)⟩
      | 27, ho, hd =>
        obtain rfl := Option.some.inj ho
        have f0 : (Fk.cx K).holds (a.tmps.getD 39 undef) w' := hd 24 _ _ rfl rfl (by kernel_rfl)
        have f1 : (Fk.val (.int .i64 z)).holds (a.tmps.getD 40 undef) w' := hd 25 _ _ rfl rfl (by kernel_rfl)
        have f2 : (Fk.val v9).holds (a.tmps.getD 41 undef) w' := hd 26 _ _ rfl rfl (by kernel_rfl)
        have fg : (Fk.tt).holds (a.tmps.getD 34 undef) w' := hd 19 _ _ rfl rfl (by kernel_rfl)
        exact ⟨wanted_tt 19 34 rfl rfl (by rw [hsz]; decide) fg, stp_call _ _ _ rfl ef_ref07_In #[a.tmps.getD 39 undef, (.int .i64 z), v9] (by simp [Act.eval, show a.tmps.getD 40 undef = (.int .i64 z) from f1, show a.tmps.getD 41 undef = v9 from f2]) (svInF2 _ _ K (ctm L2) 8 _ f0 (hv9 _ hw) qc nc (by decide) z q hq)⟩
      | 28, ho, hd =>
        obtain rfl := Option.some.inj ho
        have f0 : (Fk.val (.bool q)).holds (a.tmps.getD 38 undef) w' := hd 23 _ _ rfl rfl (by kernel_rfl)
        have f1 : (Fk.val (.bool q)).holds (a.tmps.getD 42 undef) w' := hd 27 _ _ rfl rfl (by kernel_rfl)
        have fg : (Fk.tt).holds (a.tmps.getD 34 undef) w' := hd 19 _ _ rfl rfl (by kernel_rfl)
        exact ⟨wanted_tt 19 34 rfl rfl (by rw [hsz]; decide) fg, stp_bin _ _ _ _ _ rfl _ _ f0 f1 _ (egB _ _ _ _) (eqB _ _) rfl⟩
      | 29, ho, hd =>
        obtain rfl := Option.some.inj ho
        have f0 : (Fk.tt).holds (a.tmps.getD 34 undef) w' := hd 19 _ _ rfl rfl (by kernel_rfl)
        have f1 : (Fk.tt).holds (a.tmps.getD 43 undef) w' := hd 28 _ _ rfl rfl (by kernel_rfl)
        exact ⟨rfl, stp_pick _ _ _ rfl f0 f1⟩
      | 30, ho, hd =>
        obtain rfl := Option.some.inj ho
        have f0 : (Fk.tt).holds (a.tmps.getD 44 undef) w' := hd 29 _ _ rfl rfl (by kernel_rfl)
        exact ⟨rfl, stp_move _ (.inr rfl) f0⟩
      | i + 31, ho, hd =>
        have : i + 31 < 31 := (Array.getElem?_eq_some_iff.1 ho).1
        omega
  case done =>
    intro a w5 hsz hdf hf hbase hw
    have ht : (Fk.tt).holds (a.tmps.getD 6 undef) w5 := hf 30 _ _ rfl rfl
    have hB := hB0.trans (hw.mono hB0.size)
    clear hbase hf
    refine hKK _ _ (wp_ret ?_)
    show bodyPost Tryz.prog Tryz.f4 (fun e w' => e = .returned (.bool true) ∧ Below w.heap.size w w') .ret a w5
    refine bodyPost_ret (v := .bool true) ?_ hdf ⟨rfl, hB⟩
    have ht' : a.tmps.getD 6 undef = .bool true := ht
    rw [Array.getD_eq_getD_getElem?] at ht'
    simp [results, Tryz.results4, go_sem, ht']

end Go.Proofs.YtfcmpolhcpbliaaGreatDoor

namespace Go.Proofs.YtfcmpolhcpbliaaGreatDoor
open Go.RowKit Go.Cx Go.ChangeShapes Go.WideShapes

theorem pv_sd (l : List (Int × Int)) : pv l = cat Sd.enc (l.map fun p => ⟨p.1, p.2⟩) := by
  induction l with
  | nil => rfl
  | cons p l ih => show Value.int .i64 p.1 :: Value.int .i64 p.2 :: pv l = _; rw [ih]; rfl

set_option maxRecDepth 100000 in
/-- A slice of raw cells, handed in, reads as cells. -/
theorem arg_raws {H : Type} {enc : TypeId × Value → H} {W : World} {t e ti tp tq : TypeId} {f0 f1 f2 : Field} {fuel : Nat} {v : Value} {x : DataW H × List MemPlace} (ht : Tryz.prog.underlying t = some (.slice e)) (he : Tryz.prog.underlying e = some (.struct #[f0, f1, f2])) (ce : Tryz.prog.cellsOf e = 3)
    (o0 : f0.offset = 0) (o1 : f1.offset = 1) (o2 : f2.offset = 2) (t0 : f0.type = ti) (t1 : f1.type = ti) (t2 : f2.type = tp) (ci : Tryz.prog.cellsOf ti = 1) (cp : Tryz.prog.cellsOf tp = 1) (ui : Tryz.prog.underlying ti = some (.int .i64))
    (up : Tryz.prog.underlying tp = some (.slice tq)) (uq : Tryz.prog.underlying tq = some (.array 2 3)) (cq : Tryz.prog.cellsOf tq = 2)
    (h : DataW.trod enc Tryz.prog W 0 (fun _ => true) true fuel t [v] = some x) : ∃ l : List Ce, SlC W v l ∧ ∀ x ∈ l, (I64 x.id ∧ I64 x.dim) ∧ ∀ s ∈ x.s, I64 s.c ∧ I64 s.g := by
  rcases Deep.open_slice ht h with ⟨hc, _⟩ | ⟨a, len, cap, m, n, D, Pl, hc, _, hl, hm, hmm, _, hx⟩
  · obtain rfl : v = .slice none 0 0 := by simpa using hc
    exact ⟨[], ⟨Sl.nil _ _, fun p hp => by cases hp⟩, fun p hp => by cases hp⟩
  · obtain rfl : v = .slice (some a) len cap := by simpa using hc
    simp only [if_true] at hmm
    rw [hmm] at hx
    have key : ∀ i, i < cap → ∃ q : Ce, W.cell? (a.add (i * 3)) = some (.int .i64 q.id) ∧ W.cell? (a.add (i * 3 + 1)) = some (.int .i64 q.dim) ∧ W.cell? (a.add (i * 3 + 2)) = some q.sl ∧ Sl W 2 q.sl (cat Sd.enc q.s) ∧ (I64 q.id ∧ I64 q.dim) ∧ ∀ s ∈ q.s, I64 s.c ∧ I64 s.g := fun i hi => by
      obtain ⟨cs', h1, h2⟩ := hx i hi
      rw [ce] at h1
      obtain ⟨_, hlen, hcell⟩ := World.cells?_some h1
      obtain ⟨xs, k, _, _, _, hxl, hf⟩ := DataW.trod_struct he h2
      match xs, hxl, cs', hlen with
      | [y0, y1, y2], _, [v0, v1, v2], _ =>
        have g0 := hf 0 f0 rfl
        have g1 := hf 1 f1 rfl
        have g2 := hf 2 f2 rfl
        simp [o0, o1, o2, t0, t1, t2, ci, cp] at g0 g1 g2
        have e0 := hcell 0 (by omega)
        have e1 := hcell 1 (by omega)
        have e2 := hcell 2 (by omega)
        rw [add_add] at e0 e1 e2
        obtain ⟨x, r1, _, w1⟩ := DataW.trod_int ui g0
        obtain ⟨y, r2, _, w2⟩ := DataW.trod_int ui g1
        simp at r1 r2
        subst r1 r2
        obtain ⟨l, hsl, hI⟩ := arg_pairs up uq cq g2
        obtain ⟨a2, n2, c2, rfl⟩ := sl_shape hsl
        refine ⟨⟨x, y, a2, n2, c2, l.map fun p => ⟨p.1, p.2⟩⟩, by simpa using e0, by simpa using e1, by simpa [Ce.sl] using e2, by rw [← pv_sd]; exact hsl, ⟨wfI w1, wfI w2⟩, fun s hs => ?_⟩
        obtain ⟨p, hp, rfl⟩ := List.mem_map.1 hs
        exact hI p hp
    obtain ⟨q, hV⟩ := Deep.choose_lt key
    have hget : ∀ i x, ((List.range len).map q)[i]? = some x → i < len ∧ x = q i := fun i x hx => by
      rw [List.getElem?_map] at hx
      cases hr : (List.range len)[i]? with
      | none => rw [hr] at hx; cases hx
      | some j =>
        rw [hr] at hx
        have := List.getElem?_eq_some_iff.1 hr
        obtain ⟨h1, h2⟩ := this
        simp at h1 h2
        subst h2
        exact ⟨h1, (Option.some.inj hx).symm⟩
    refine ⟨(List.range len).map q, ⟨⟨some a, len, cap, rfl, hl, by omega, by rw [cat_len Ce.enc_len]; simp, (fun e => by cases e), fun ad ha j u hj => ?_⟩, fun x hx => ?_⟩, fun x hx => ?_⟩
    · cases ha
      have hjl : j < len * 3 := by
        have := (List.getElem?_eq_some_iff.1 hj).1
        rw [cat_len Ce.enc_len] at this
        simpa using this
      obtain ⟨y, hy⟩ : ∃ y, ((List.range len).map q)[j / 3]? = some y := ⟨_, List.getElem?_eq_getElem (by simp; omega)⟩
      obtain ⟨h1, h2⟩ := hget _ _ hy
      have hc := hV (j / 3) (by omega)
      rw [← h2] at hc
      have h3 := ce_get _ _ _ hy
      have hm3 : j % 3 = 0 ∨ j % 3 = 1 ∨ j % 3 = 2 := by omega
      rcases hm3 with hm2 | hm2 | hm2
      · rw [show j = j / 3 * 3 by omega] at hj ⊢
        rw [h3.1] at hj
        cases hj
        exact hc.1
      · rw [show j = j / 3 * 3 + 1 by omega] at hj ⊢
        rw [h3.2.1] at hj
        cases hj
        exact hc.2.1
      · rw [show j = j / 3 * 3 + 2 by omega] at hj ⊢
        rw [h3.2.2] at hj
        cases hj
        exact hc.2.2.1
    · obtain ⟨i, hi, rfl⟩ := List.mem_map.1 hx
      exact (hV i (by have := List.mem_range.1 hi; omega)).2.2.2.1
    · obtain ⟨i, hi, rfl⟩ := List.mem_map.1 hx
      exact (hV i (by have := List.mem_range.1 hi; omega)).2.2.2.2

end Go.Proofs.YtfcmpolhcpbliaaGreatDoor
