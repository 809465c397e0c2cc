/- cocyclelaw07.sanity. Written by gen_san.py out of LaE.src. -/
import Derived.Test.YtfcmpolhcpbliaaGreatDoorMm

namespace Go.Proofs.YtfcmpolhcpbliaaGreatDoor
open Go.RowKit Go.Cx
attribute [local go_sem ↓] Go.wp_at_zero Go.wp_at_succ

/-- The cells of the triangle. -/
def triK : List Cl := [⟨1, 0, []⟩, ⟨2, 0, []⟩, ⟨3, 0, []⟩, ⟨4, 1, [⟨1, -1⟩, ⟨2, 1⟩]⟩, ⟨5, 1, [⟨1, -1⟩, ⟨3, 1⟩]⟩, ⟨6, 1, [⟨2, -1⟩, ⟨3, 1⟩]⟩, ⟨7, 2, [⟨4, 1⟩, ⟨5, -1⟩, ⟨6, 1⟩]⟩]
theorem triK_ok : KOk triK := by
  intro x hx
  simp only [triK, List.mem_cons, List.not_mem_nil, or_false] at hx
  rcases hx with rfl | rfl | rfl | rfl | rfl | rfl | rfl <;> refine ⟨⟨by unfold I64; decide, by unfold I64; decide⟩, by decide, ?_⟩ <;> intro s hs <;> simp only [List.mem_cons, List.not_mem_nil, or_false] at hs
  all_goals first | (rcases hs with rfl | rfl | rfl <;> exact ⟨by unfold I64; decide, by unfold I64; decide⟩) | (rcases hs with rfl | rfl <;> exact ⟨by unfold I64; decide, by unfold I64; decide⟩)

theorem wv_zero : wv 0 = .agg #[.bool false, .string ⟨#[]⟩] := by
  show Value.agg #[.bool (decide ((0 : Int) < 0)), .string (mg 0)] = _
  rw [mg_zero]; rfl
set_option maxRecDepth 100000 in
theorem bldW (w : World) : (Instr.build 46 #[]).run Tryz.prog w = .ok (wv 0) w := by
  rw [wv_zero]
  simp [go_sem]
set_option maxRecDepth 100000 in
theorem eqW (w : World) : (Go.binOp .eql 46 (wv 0) (wv 0)).run Tryz.prog w = .ok (.bool true) w := by
  have hp' : Tryz.prog.stoodInHeld 46 = false := by kernel_rfl
  rw [wv_zero]
  simp [go_sem, hp']
theorem eqgW : Tryz.prog.eqGuardType Tryz.prog.depth 46 = false := by kernel_rfl
set_option maxRecDepth 100000 in
theorem egW (x y : Operand) (w : World) : (eqGuard .eql 46 x y (wv 0) (wv 0)).run Tryz.prog w = .ok () w := by
  rw [wv_zero]
  simp [go_sem, eqGuard]
theorem bldV (w : World) : (Instr.buildSlice 34 3 #[(0, wv (-2)), (1, wv 0), (2, wv 1)]).run Tryz.prog w = .ok (.slice (some ⟨w.heap.size, 0, none⟩) 3 3) (w.alloc (.cells (wvs [-2, 0, 1]).toArray 46)) := by
  have key : ∀ a b c a' b' c' : Value, (Instr.buildSlice 34 3 #[(0, .agg #[a, a']), (1, .agg #[b, b']), (2, .agg #[c, c'])]).run Tryz.prog w = .ok (.slice (some ⟨w.heap.size, 0, none⟩) 3 3) (w.alloc (.cells #[a, a', b, b', c, c'] 46)) := fun a b c a' b' c' =>
    build_run _ _ 46 _ _ _ _ 2 24 Tryz.underlying34 Tryz.infoW2 (by decide) (by decide) (by kernel_rfl)
  exact key _ _ _ _ _ _
theorem wdlit (w : World) : (Fk.wd [-2, 0, 1]).holds (.slice (some ⟨w.heap.size, 0, none⟩) 3 3) (w.alloc (.cells (wvs [-2, 0, 1]).toArray 46)) := slLit2 w _ 2 _ 3 (wvs_len _) (by unfold maxLen; omega)
set_option maxRecDepth 100000 in
theorem ldK {w : World} {b : Nat} {v : Value} (h : Bv w b v) : (Instr.loadAt 27 (.pointer (some ⟨b, 0, none⟩))).run Tryz.prog w = .ok (.agg #[v]) w := by
  have h1 := h.1
  simp [go_sem, h1]

theorem three (a : Act) (i j k : Nat) (x : Value × Value × Value) (h1 : a.tmps.getD i undef = x.1) (h2 : a.tmps.getD j undef = x.2.1) (h3 : a.tmps.getD k undef = x.2.2) : (#[(0, Operand.tmp i), (1, Operand.tmp j), (2, Operand.tmp k)] : Array (Nat × Operand)).map (fun p => (p.1, a.eval p.2)) = #[(0, x.1), (1, x.2.1), (2, x.2.2)] := by
  rw [← h1, ← h2, ← h3]
  simp [Act.eval]

def tb2 : List Fk := [.cx triK, .ints [(6, 1), (4, -2)], .ch [(6, 1), (4, -2)], .tup [-2, 0, 1], .tup [-2, 0, 1], .wd [-2, 0, 1], .tt, .wd [-2, 0, 1], .tt]
def tb3 : List Fk := [.cx triK, .ints [(7, 1)], .ch [(7, 1)], .ch [(4, 1), (5, -1), (6, 1)], .ints [(4, 1), (5, -1), (6, 1)], .ch [(4, 1), (5, -1), (6, 1)], .tt, .tt, .cx triK, .ints [(4, 1), (6, 1)], .ch [(4, 1), (6, 1)], .ch [(1, -1), (3, 1)], .ints [(1, -1), (3, 1)], .ch [(1, -1), (3, 1)], .tt, .tt, .tt, .cx triK, .ints [(2, 1)], .ch [(2, 1)], .ch [(4, 1), (6, -1)], .ints [(4, 1), (6, -1)], .ch [(4, 1), (6, -1)], .tt, .tt, .tt, .ints [(4, 1), (6, -1)], .ch [(4, 1), (6, -1)], .ints [(4, 1), (6, 1)], .ch [(4, 1), (6, 1)], .val (wv 0), .val (wv 0), .tt, .tt, .tt, .tt, .tt, .tt, .wd [-2, 0, 1], .val (wv (-2)), .val (wv 0), .val (wv 1), .wd [-2, 0, 1], .tt, .tt, .tt, .ints [(5, 1), (4, 3), (5, -1)], .ch [(5, 1), (4, 3), (5, -1)], .ch [(4, 3)], .ints [(4, 3)], .ch [(4, 3)], .tt, .tt, .tt]

set_option maxRecDepth 100000 in
set_option maxHeartbeats 4000000 in
theorem laSanity (w : World) :
    Calls Tryz.prog 11 #[] w fun e w' => e = .returned (.bool true) ∧ Below w.heap.size w w' := by
  go_enter Tryz.func11, Tryz.ntmps11
  go_wp2_with fail
  refine (laTriangle' _).mono ?_
  rintro e w1 ⟨x, rfl, hx, hb1⟩
  obtain ⟨u, l, rfl, h1, h2⟩ := hx
  obtain ⟨ua, un, uc, rfl⟩ := sl_shape h1.1
  obtain ⟨W, hW⟩ : ∃ W, W = w1.alloc (.cells #[.slice ua un uc] 27) := ⟨_, rfl⟩
  have hb : Bv W w1.heap.size (.slice ua un uc) := by rw [hW]; exact Bv.new w1 _ _
  have hk : (Fk.cx triK).holds (.agg #[.slice ua un uc]) W := by rw [hW]; exact ⟨_, l, rfl, h1.mono fun p u hc => keepAl hc _, h2⟩
  have hB : Below w.heap.size w W := by rw [hW]; exact hb1.alloc hb1.size _
  have HK := Lib.hid (And.intro hW (And.intro hb (And.intro hk hB)))
  clear hb hk h1 h2 hW hB
  go_wp2_with fail
  rename_i K hK
  obtain ⟨hW, hbv, hk, hB⟩ := HK.out
  rw [← hW]
  refine region_facts rfl (fun i v w => (tb2.getD i .any).holds v w) 65 rfl (by kernel_rfl) (by kernel_rfl) (fun i v w w' h hb => Fk.keep h hb) ?step ?done
  case step =>
    intro i o ho a w' hw hd hbase hsz
    have hp1 : (.pointer (some ⟨w1.heap.size, 0, none⟩) : Value) = .pointer (some ⟨w1.heap.size, 0, none⟩) := rfl
    match i, ho, hd with
    | 0, ho, hd =>
      obtain rfl := Option.some.inj ho
      exact ⟨rfl, stp_load _ _ rfl _ (hbase 1 (noDst_spec (by kernel_rfl)) |>.trans hp1) _ (ldK (hbv.keep hw)) (Fk.keep (k := .cx triK) hk hw)⟩
    | 1, ho, hd =>
      obtain rfl := Option.some.inj ho
      exact ⟨rfl, stp_slice 22 4 _ rfl #[(0, .int .i64 (6)), (1, .int .i64 (1)), (2, .int .i64 (4)), (3, .int .i64 (-2))] (by simp [Act.eval]) (pv [(6, 1), (4, -2)]).toArray _ (build_run _ _ 3 _ _ _ _ 1 8 Tryz.underlying22 Tryz.infoInt (by decide) (by decide) (by kernel_rfl)) (ilit _ _ [(6, 1), (4, -2)] 4 rfl (by decide))⟩
    | 2, ho, hd =>
      obtain rfl := Option.some.inj ho
      have f0 : (Fk.ints [(6, 1), (4, -2)]).holds (a.tmps.getD 7 undef) w' := hd 1 _ _ rfl rfl (by kernel_rfl)
      exact ⟨rfl, stp_call _ _ _ rfl ef_law07_terms #[a.tmps.getD 7 undef] (by simp [Act.eval]) (laTerms' _ _ _ f0 (by decide) (by unfold I64; decide))⟩
    | 3, ho, hd =>
      obtain rfl := Option.some.inj ho
      have f0 : (Fk.cx triK).holds (a.tmps.getD 6 undef) w' := hd 0 _ _ rfl rfl (by kernel_rfl)
      have f1 : (Fk.ch [(6, 1), (4, -2)]).holds (a.tmps.getD 8 undef) w' := hd 2 _ _ rfl rfl (by kernel_rfl)
      exact ⟨rfl, stp_call _ _ _ rfl ef_chains_Vector #[a.tmps.getD 6 undef, .int .i64 1, a.tmps.getD 8 undef] (by simp [Act.eval]) (chVector' _ _ 1 triK _ _ _ f0 f1 triK_ok (lok (by decide)) (by decide) (by decide) (hin_of (by decide)) (by decide +kernel))⟩
    | 4, ho, hd =>
      obtain rfl := Option.some.inj ho
      have f0 : (Fk.tup [-2, 0, 1]).holds (a.tmps.getD 9 undef) w' := hd 3 _ _ rfl rfl (by kernel_rfl)
      exact ⟨rfl, stp_move _ (.inl rfl) f0⟩
    | 5, ho, hd =>
      obtain rfl := Option.some.inj ho
      have ⟨r, h1, h2⟩ : (Fk.tup [-2, 0, 1]).holds (a.tmps.getD 5 undef) w' := hd 4 _ _ rfl rfl (by kernel_rfl)
      exact ⟨rfl, stp_extract _ _ rfl _ h1 r rfl h2⟩
    | 6, ho, hd =>
      obtain rfl := Option.some.inj ho
      have ⟨r, h1, _⟩ : (Fk.tup [-2, 0, 1]).holds (a.tmps.getD 5 undef) w' := hd 4 _ _ rfl rfl (by kernel_rfl)
      exact ⟨rfl, stp_extract _ _ rfl _ h1 (.bool true) rfl rfl⟩
    | 7, ho, hd =>
      obtain rfl := Option.some.inj ho
      have f0 : (Fk.wd [-2, 0, 1]).holds (a.tmps.getD 10 undef) w' := hd 5 _ _ rfl rfl (by kernel_rfl)
      exact ⟨rfl, stp_move _ (.inr rfl) f0⟩
    | 8, ho, hd =>
      obtain rfl := Option.some.inj ho
      have f0 : (Fk.tt).holds (a.tmps.getD 11 undef) w' := hd 6 _ _ rfl rfl (by kernel_rfl)
      exact ⟨rfl, stp_move _ (.inr rfl) f0⟩
    | i + 9, ho, hd =>
      have : i + 9 < 9 := (Array.getElem?_eq_some_iff.1 ho).1
      omega
  case done =>
    intro a w2 hsz hdf hf hbase hw
    refine hK _ _ ?_
    have hp1 : a.tmps.getD 1 undef = .pointer (some ⟨w1.heap.size, 0, none⟩) := hbase 1 (noDst_spec (by kernel_rfl))
    have ht2 : (Fk.wd [-2, 0, 1]).holds (a.tmps.getD 2 undef) w2 := hf 7 _ _ rfl rfl
    have ht3 : (Fk.tt).holds (a.tmps.getD 3 undef) w2 := hf 8 _ _ rfl rfl
    have hbv := hbv.keep hw
    have hk := Fk.keep (k := .cx triK) hk hw
    have hB := hB.trans (hw.mono hB.size)
    clear hbase hf hK
    refine wp_seq ?_
    refine region_facts rfl (fun i v w => (tb3.getD i .any).holds v w) 65 hsz (by kernel_rfl) (by kernel_rfl) (fun i v w w' h hb => Fk.keep h hb) ?step3 ?done3
    case step3 =>
      intro i o ho a w' hw hd hbase hsz
      match i, ho, hd with
      | 0, ho, hd =>
        obtain rfl := Option.some.inj ho
        exact ⟨rfl, stp_load _ _ rfl _ (hbase 1 (noDst_spec (by kernel_rfl)) |>.trans hp1) _ (ldK (hbv.keep hw)) (Fk.keep (k := .cx triK) hk hw)⟩
      | 1, ho, hd =>
        obtain rfl := Option.some.inj ho
        exact ⟨rfl, stp_slice 22 2 _ rfl #[(0, .int .i64 (7)), (1, .int .i64 (1))] (by simp [Act.eval]) (pv [(7, 1)]).toArray _ (build_run _ _ 3 _ _ _ _ 1 8 Tryz.underlying22 Tryz.infoInt (by decide) (by decide) (by kernel_rfl)) (ilit _ _ [(7, 1)] 2 rfl (by decide))⟩
      | 2, ho, hd =>
        obtain rfl := Option.some.inj ho
        have f0 : (Fk.ints [(7, 1)]).holds (a.tmps.getD 13 undef) w' := hd 1 _ _ rfl rfl (by kernel_rfl)
        exact ⟨rfl, stp_call _ _ _ rfl ef_law07_terms #[a.tmps.getD 13 undef] (by simp [Act.eval]) (laTerms' _ _ _ f0 (by decide) (by unfold I64; decide))⟩
      | 3, ho, hd =>
        obtain rfl := Option.some.inj ho
        have f0 : (Fk.cx triK).holds (a.tmps.getD 12 undef) w' := hd 0 _ _ rfl rfl (by kernel_rfl)
        have f1 : (Fk.ch [(7, 1)]).holds (a.tmps.getD 14 undef) w' := hd 2 _ _ rfl rfl (by kernel_rfl)
        exact ⟨rfl, stp_call _ _ _ rfl ef_chains_Boundary #[a.tmps.getD 12 undef, a.tmps.getD 14 undef] (by simp [Act.eval]) (chBoundary' _ _ triK _ _ _ f0 f1 triK_ok (lok (by decide)) (by decide) (by unfold Cn; decide) (co_all (by decide +kernel)))⟩
      | 4, ho, hd =>
        obtain rfl := Option.some.inj ho
        exact ⟨rfl, stp_slice 22 6 _ rfl #[(0, .int .i64 (4)), (1, .int .i64 (1)), (2, .int .i64 (5)), (3, .int .i64 (-1)), (4, .int .i64 (6)), (5, .int .i64 (1))] (by simp [Act.eval]) (pv [(4, 1), (5, -1), (6, 1)]).toArray _ (build_run _ _ 3 _ _ _ _ 1 8 Tryz.underlying22 Tryz.infoInt (by decide) (by decide) (by kernel_rfl)) (ilit _ _ [(4, 1), (5, -1), (6, 1)] 6 rfl (by decide))⟩
      | 5, ho, hd =>
        obtain rfl := Option.some.inj ho
        have f0 : (Fk.ints [(4, 1), (5, -1), (6, 1)]).holds (a.tmps.getD 16 undef) w' := hd 4 _ _ rfl rfl (by kernel_rfl)
        exact ⟨rfl, stp_call _ _ _ rfl ef_law07_terms #[a.tmps.getD 16 undef] (by simp [Act.eval]) (laTerms' _ _ _ f0 (by decide) (by unfold I64; decide))⟩
      | 6, ho, hd =>
        obtain rfl := Option.some.inj ho
        have f0 : (Fk.ch [(4, 1), (5, -1), (6, 1)]).holds (a.tmps.getD 15 undef) w' := hd 3 _ _ rfl rfl (by kernel_rfl)
        have f1 : (Fk.ch [(4, 1), (5, -1), (6, 1)]).holds (a.tmps.getD 17 undef) w' := hd 5 _ _ rfl rfl (by kernel_rfl)
        exact ⟨rfl, stp_call _ _ _ rfl ef_ref07_Same #[a.tmps.getD 15 undef, a.tmps.getD 17 undef] (by simp [Act.eval]) (svSame' _ _ _ _ f0 f1)⟩
      | 7, ho, hd =>
        obtain rfl := Option.some.inj ho
        have f0 : (Fk.tt).holds (a.tmps.getD 18 undef) w' := hd 6 _ _ rfl rfl (by kernel_rfl)
        exact ⟨rfl, stp_move _ (.inl rfl) f0⟩
      | 8, ho, hd =>
        obtain rfl := Option.some.inj ho
        have fg : (Fk.tt).holds (a.tmps.getD 19 undef) w' := hd 7 _ _ rfl rfl (by kernel_rfl)
        exact ⟨wanted_tt 7 19 rfl rfl (by rw [hsz]; decide) fg, stp_load _ _ rfl _ (hbase 1 (noDst_spec (by kernel_rfl)) |>.trans hp1) _ (ldK (hbv.keep hw)) (Fk.keep (k := .cx triK) hk hw)⟩
      | 9, ho, hd =>
        obtain rfl := Option.some.inj ho
        have fg : (Fk.tt).holds (a.tmps.getD 19 undef) w' := hd 7 _ _ rfl rfl (by kernel_rfl)
        exact ⟨wanted_tt 7 19 rfl rfl (by rw [hsz]; decide) fg, stp_slice 22 4 _ rfl #[(0, .int .i64 (4)), (1, .int .i64 (1)), (2, .int .i64 (6)), (3, .int .i64 (1))] (by simp [Act.eval]) (pv [(4, 1), (6, 1)]).toArray _ (build_run _ _ 3 _ _ _ _ 1 8 Tryz.underlying22 Tryz.infoInt (by decide) (by decide) (by kernel_rfl)) (ilit _ _ [(4, 1), (6, 1)] 4 rfl (by decide))⟩
      | 10, ho, hd =>
        obtain rfl := Option.some.inj ho
        have f0 : (Fk.ints [(4, 1), (6, 1)]).holds (a.tmps.getD 21 undef) w' := hd 9 _ _ rfl rfl (by kernel_rfl)
        have fg : (Fk.tt).holds (a.tmps.getD 19 undef) w' := hd 7 _ _ rfl rfl (by kernel_rfl)
        exact ⟨wanted_tt 7 19 rfl rfl (by rw [hsz]; decide) fg, stp_call _ _ _ rfl ef_law07_terms #[a.tmps.getD 21 undef] (by simp [Act.eval]) (laTerms' _ _ _ f0 (by decide) (by unfold I64; decide))⟩
      | 11, ho, hd =>
        obtain rfl := Option.some.inj ho
        have f0 : (Fk.cx triK).holds (a.tmps.getD 20 undef) w' := hd 8 _ _ rfl rfl (by kernel_rfl)
        have f1 : (Fk.ch [(4, 1), (6, 1)]).holds (a.tmps.getD 22 undef) w' := hd 10 _ _ rfl rfl (by kernel_rfl)
        have fg : (Fk.tt).holds (a.tmps.getD 19 undef) w' := hd 7 _ _ rfl rfl (by kernel_rfl)
        exact ⟨wanted_tt 7 19 rfl rfl (by rw [hsz]; decide) fg, stp_call _ _ _ rfl ef_chains_Boundary #[a.tmps.getD 20 undef, a.tmps.getD 22 undef] (by simp [Act.eval]) (chBoundary' _ _ triK _ _ _ f0 f1 triK_ok (lok (by decide)) (by decide) (by unfold Cn; decide) (co_all (by decide +kernel)))⟩
      | 12, ho, hd =>
        obtain rfl := Option.some.inj ho
        have fg : (Fk.tt).holds (a.tmps.getD 19 undef) w' := hd 7 _ _ rfl rfl (by kernel_rfl)
        exact ⟨wanted_tt 7 19 rfl rfl (by rw [hsz]; decide) fg, stp_slice 22 4 _ rfl #[(0, .int .i64 (1)), (1, .int .i64 (-1)), (2, .int .i64 (3)), (3, .int .i64 (1))] (by simp [Act.eval]) (pv [(1, -1), (3, 1)]).toArray _ (build_run _ _ 3 _ _ _ _ 1 8 Tryz.underlying22 Tryz.infoInt (by decide) (by decide) (by kernel_rfl)) (ilit _ _ [(1, -1), (3, 1)] 4 rfl (by decide))⟩
      | 13, ho, hd =>
        obtain rfl := Option.some.inj ho
        have f0 : (Fk.ints [(1, -1), (3, 1)]).holds (a.tmps.getD 24 undef) w' := hd 12 _ _ rfl rfl (by kernel_rfl)
        have fg : (Fk.tt).holds (a.tmps.getD 19 undef) w' := hd 7 _ _ rfl rfl (by kernel_rfl)
        exact ⟨wanted_tt 7 19 rfl rfl (by rw [hsz]; decide) fg, stp_call _ _ _ rfl ef_law07_terms #[a.tmps.getD 24 undef] (by simp [Act.eval]) (laTerms' _ _ _ f0 (by decide) (by unfold I64; decide))⟩
      | 14, ho, hd =>
        obtain rfl := Option.some.inj ho
        have f0 : (Fk.ch [(1, -1), (3, 1)]).holds (a.tmps.getD 23 undef) w' := hd 11 _ _ rfl rfl (by kernel_rfl)
        have f1 : (Fk.ch [(1, -1), (3, 1)]).holds (a.tmps.getD 25 undef) w' := hd 13 _ _ rfl rfl (by kernel_rfl)
        have fg : (Fk.tt).holds (a.tmps.getD 19 undef) w' := hd 7 _ _ rfl rfl (by kernel_rfl)
        exact ⟨wanted_tt 7 19 rfl rfl (by rw [hsz]; decide) fg, stp_call _ _ _ rfl ef_ref07_Same #[a.tmps.getD 23 undef, a.tmps.getD 25 undef] (by simp [Act.eval]) (svSame' _ _ _ _ f0 f1)⟩
      | 15, ho, hd =>
        obtain rfl := Option.some.inj ho
        have f0 : (Fk.tt).holds (a.tmps.getD 19 undef) w' := hd 7 _ _ rfl rfl (by kernel_rfl)
        have f1 : (Fk.tt).holds (a.tmps.getD 26 undef) w' := hd 14 _ _ rfl rfl (by kernel_rfl)
        exact ⟨rfl, stp_pick _ _ _ rfl f0 f1⟩
      | 16, ho, hd =>
        obtain rfl := Option.some.inj ho
        have f0 : (Fk.tt).holds (a.tmps.getD 27 undef) w' := hd 15 _ _ rfl rfl (by kernel_rfl)
        exact ⟨rfl, stp_move _ (.inl rfl) f0⟩
      | 17, ho, hd =>
        obtain rfl := Option.some.inj ho
        have fg : (Fk.tt).holds (a.tmps.getD 28 undef) w' := hd 16 _ _ rfl rfl (by kernel_rfl)
        exact ⟨wanted_tt 16 28 rfl rfl (by rw [hsz]; decide) fg, stp_load _ _ rfl _ (hbase 1 (noDst_spec (by kernel_rfl)) |>.trans hp1) _ (ldK (hbv.keep hw)) (Fk.keep (k := .cx triK) hk hw)⟩
      | 18, ho, hd =>
        obtain rfl := Option.some.inj ho
        have fg : (Fk.tt).holds (a.tmps.getD 28 undef) w' := hd 16 _ _ rfl rfl (by kernel_rfl)
        exact ⟨wanted_tt 16 28 rfl rfl (by rw [hsz]; decide) fg, stp_slice 22 2 _ rfl #[(0, .int .i64 (2)), (1, .int .i64 (1))] (by simp [Act.eval]) (pv [(2, 1)]).toArray _ (build_run _ _ 3 _ _ _ _ 1 8 Tryz.underlying22 Tryz.infoInt (by decide) (by decide) (by kernel_rfl)) (ilit _ _ [(2, 1)] 2 rfl (by decide))⟩
      | 19, ho, hd =>
        obtain rfl := Option.some.inj ho
        have f0 : (Fk.ints [(2, 1)]).holds (a.tmps.getD 30 undef) w' := hd 18 _ _ rfl rfl (by kernel_rfl)
        have fg : (Fk.tt).holds (a.tmps.getD 28 undef) w' := hd 16 _ _ rfl rfl (by kernel_rfl)
        exact ⟨wanted_tt 16 28 rfl rfl (by rw [hsz]; decide) fg, stp_call _ _ _ rfl ef_law07_terms #[a.tmps.getD 30 undef] (by simp [Act.eval]) (laTerms' _ _ _ f0 (by decide) (by unfold I64; decide))⟩
      | 20, ho, hd =>
        obtain rfl := Option.some.inj ho
        have f0 : (Fk.cx triK).holds (a.tmps.getD 29 undef) w' := hd 17 _ _ rfl rfl (by kernel_rfl)
        have f1 : (Fk.ch [(2, 1)]).holds (a.tmps.getD 31 undef) w' := hd 19 _ _ rfl rfl (by kernel_rfl)
        have fg : (Fk.tt).holds (a.tmps.getD 28 undef) w' := hd 16 _ _ rfl rfl (by kernel_rfl)
        exact ⟨wanted_tt 16 28 rfl rfl (by rw [hsz]; decide) fg, stp_call _ _ _ rfl ef_chains_Coboundary #[a.tmps.getD 29 undef, a.tmps.getD 31 undef] (by simp [Act.eval]) (chCoboundary' _ _ triK _ _ _ f0 f1 triK_ok (lok (by decide)) (by decide) (by unfold Cn; decide) (co_all (by decide +kernel)))⟩
      | 21, ho, hd =>
        obtain rfl := Option.some.inj ho
        have fg : (Fk.tt).holds (a.tmps.getD 28 undef) w' := hd 16 _ _ rfl rfl (by kernel_rfl)
        exact ⟨wanted_tt 16 28 rfl rfl (by rw [hsz]; decide) fg, stp_slice 22 4 _ rfl #[(0, .int .i64 (4)), (1, .int .i64 (1)), (2, .int .i64 (6)), (3, .int .i64 (-1))] (by simp [Act.eval]) (pv [(4, 1), (6, -1)]).toArray _ (build_run _ _ 3 _ _ _ _ 1 8 Tryz.underlying22 Tryz.infoInt (by decide) (by decide) (by kernel_rfl)) (ilit _ _ [(4, 1), (6, -1)] 4 rfl (by decide))⟩
      | 22, ho, hd =>
        obtain rfl := Option.some.inj ho
        have f0 : (Fk.ints [(4, 1), (6, -1)]).holds (a.tmps.getD 33 undef) w' := hd 21 _ _ rfl rfl (by kernel_rfl)
        have fg : (Fk.tt).holds (a.tmps.getD 28 undef) w' := hd 16 _ _ rfl rfl (by kernel_rfl)
        exact ⟨wanted_tt 16 28 rfl rfl (by rw [hsz]; decide) fg, stp_call _ _ _ rfl ef_law07_terms #[a.tmps.getD 33 undef] (by simp [Act.eval]) (laTerms' _ _ _ f0 (by decide) (by unfold I64; decide))⟩
      | 23, ho, hd =>
        obtain rfl := Option.some.inj ho
        have f0 : (Fk.ch [(4, 1), (6, -1)]).holds (a.tmps.getD 32 undef) w' := hd 20 _ _ rfl rfl (by kernel_rfl)
        have f1 : (Fk.ch [(4, 1), (6, -1)]).holds (a.tmps.getD 34 undef) w' := hd 22 _ _ rfl rfl (by kernel_rfl)
        have fg : (Fk.tt).holds (a.tmps.getD 28 undef) w' := hd 16 _ _ rfl rfl (by kernel_rfl)
        exact ⟨wanted_tt 16 28 rfl rfl (by rw [hsz]; decide) fg, stp_call _ _ _ rfl ef_ref07_Same #[a.tmps.getD 32 undef, a.tmps.getD 34 undef] (by simp [Act.eval]) (svSame' _ _ _ _ f0 f1)⟩
      | 24, ho, hd =>
        obtain rfl := Option.some.inj ho
        have f0 : (Fk.tt).holds (a.tmps.getD 28 undef) w' := hd 16 _ _ rfl rfl (by kernel_rfl)
        have f1 : (Fk.tt).holds (a.tmps.getD 35 undef) w' := hd 23 _ _ rfl rfl (by kernel_rfl)
        exact ⟨rfl, stp_pick _ _ _ rfl f0 f1⟩
      | 25, ho, hd =>
        obtain rfl := Option.some.inj ho
        have f0 : (Fk.tt).holds (a.tmps.getD 36 undef) w' := hd 24 _ _ rfl rfl (by kernel_rfl)
        exact ⟨rfl, stp_move _ (.inl rfl) f0⟩
      | 26, ho, hd =>
        obtain rfl := Option.some.inj ho
        have fg : (Fk.tt).holds (a.tmps.getD 37 undef) w' := hd 25 _ _ rfl rfl (by kernel_rfl)
        exact ⟨wanted_tt 25 37 rfl rfl (by rw [hsz]; decide) fg, stp_slice 22 4 _ rfl #[(0, .int .i64 (4)), (1, .int .i64 (1)), (2, .int .i64 (6)), (3, .int .i64 (-1))] (by simp [Act.eval]) (pv [(4, 1), (6, -1)]).toArray _ (build_run _ _ 3 _ _ _ _ 1 8 Tryz.underlying22 Tryz.infoInt (by decide) (by decide) (by kernel_rfl)) (ilit _ _ [(4, 1), (6, -1)] 4 rfl (by decide))⟩
      | 27, ho, hd =>
        obtain rfl := Option.some.inj ho
        have f0 : (Fk.ints [(4, 1), (6, -1)]).holds (a.tmps.getD 38 undef) w' := hd 26 _ _ rfl rfl (by kernel_rfl)
        have fg : (Fk.tt).holds (a.tmps.getD 37 undef) w' := hd 25 _ _ rfl rfl (by kernel_rfl)
        exact ⟨wanted_tt 25 37 rfl rfl (by rw [hsz]; decide) fg, stp_call _ _ _ rfl ef_law07_terms #[a.tmps.getD 38 undef] (by simp [Act.eval]) (laTerms' _ _ _ f0 (by decide) (by unfold I64; decide))⟩
      | 28, ho, hd =>
        obtain rfl := Option.some.inj ho
        have fg : (Fk.tt).holds (a.tmps.getD 37 undef) w' := hd 25 _ _ rfl rfl (by kernel_rfl)
        exact ⟨wanted_tt 25 37 rfl rfl (by rw [hsz]; decide) fg, stp_slice 22 4 _ rfl #[(0, .int .i64 (4)), (1, .int .i64 (1)), (2, .int .i64 (6)), (3, .int .i64 (1))] (by simp [Act.eval]) (pv [(4, 1), (6, 1)]).toArray _ (build_run _ _ 3 _ _ _ _ 1 8 Tryz.underlying22 Tryz.infoInt (by decide) (by decide) (by kernel_rfl)) (ilit _ _ [(4, 1), (6, 1)] 4 rfl (by decide))⟩
      | 29, ho, hd =>
        obtain rfl := Option.some.inj ho
        have f0 : (Fk.ints [(4, 1), (6, 1)]).holds (a.tmps.getD 40 undef) w' := hd 28 _ _ rfl rfl (by kernel_rfl)
        have fg : (Fk.tt).holds (a.tmps.getD 37 undef) w' := hd 25 _ _ rfl rfl (by kernel_rfl)
        exact ⟨wanted_tt 25 37 rfl rfl (by rw [hsz]; decide) fg, stp_call _ _ _ rfl ef_law07_terms #[a.tmps.getD 40 undef] (by simp [Act.eval]) (laTerms' _ _ _ f0 (by decide) (by unfold I64; decide))⟩
      | 30, ho, hd =>
        obtain rfl := Option.some.inj ho
        have f0 : (Fk.ch [(4, 1), (6, -1)]).holds (a.tmps.getD 39 undef) w' := hd 27 _ _ rfl rfl (by kernel_rfl)
        have f1 : (Fk.ch [(4, 1), (6, 1)]).holds (a.tmps.getD 41 undef) w' := hd 29 _ _ rfl rfl (by kernel_rfl)
        have fg : (Fk.tt).holds (a.tmps.getD 37 undef) w' := hd 25 _ _ rfl rfl (by kernel_rfl)
        exact ⟨wanted_tt 25 37 rfl rfl (by rw [hsz]; decide) fg, stp_call _ _ _ rfl ef_chains_Pair #[a.tmps.getD 39 undef, a.tmps.getD 41 undef] (by simp [Act.eval]) (chPair' _ _ _ _ 0 _ f0 f1 (lok (by decide)) (lok (by decide)) (by decide) (by decide))⟩
      | 31, ho, hd =>
        obtain rfl := Option.some.inj ho
        have fg : (Fk.tt).holds (a.tmps.getD 37 undef) w' := hd 25 _ _ rfl rfl (by kernel_rfl)
        exact ⟨wanted_tt 25 37 rfl rfl (by rw [hsz]; decide) fg, stp_build _ _ rfl #[] (by simp) _ (bldW _) rfl⟩
      | 32, ho, hd =>
        obtain rfl := Option.some.inj ho
        have f0 : (Fk.val (wv 0)).holds (a.tmps.getD 42 undef) w' := hd 30 _ _ rfl rfl (by kernel_rfl)
        have f1 : (Fk.val (wv 0)).holds (a.tmps.getD 43 undef) w' := hd 31 _ _ rfl rfl (by kernel_rfl)
        have fg : (Fk.tt).holds (a.tmps.getD 37 undef) w' := hd 25 _ _ rfl rfl (by kernel_rfl)
        exact ⟨wanted_tt 25 37 rfl rfl (by rw [hsz]; decide) fg, stp_bin _ _ _ _ _ rfl _ _ f0 f1 _ (egW _ _ _) (eqW _) rfl⟩
      | 33, ho, hd =>
        obtain rfl := Option.some.inj ho
        have f0 : (Fk.tt).holds (a.tmps.getD 37 undef) w' := hd 25 _ _ rfl rfl (by kernel_rfl)
        have f1 : (Fk.tt).holds (a.tmps.getD 44 undef) w' := hd 32 _ _ rfl rfl (by kernel_rfl)
        exact ⟨rfl, stp_pick _ _ _ rfl f0 f1⟩
      | 34, ho, hd =>
        obtain rfl := Option.some.inj ho
        have f0 : (Fk.tt).holds (a.tmps.getD 45 undef) w' := hd 33 _ _ rfl rfl (by kernel_rfl)
        exact ⟨rfl, stp_move _ (.inl rfl) f0⟩
      | 35, ho, hd =>
        obtain rfl := Option.some.inj ho
        have fg : (Fk.tt).holds (a.tmps.getD 46 undef) w' := hd 34 _ _ rfl rfl (by kernel_rfl)
        exact ⟨wanted_tt 34 46 rfl rfl (by rw [hsz]; decide) fg, stp_move _ (.inl rfl) ((hbase 3 (noDst_spec (by kernel_rfl))).trans ht3)⟩
      | 36, ho, hd =>
        obtain rfl := Option.some.inj ho
        have f0 : (Fk.tt).holds (a.tmps.getD 46 undef) w' := hd 34 _ _ rfl rfl (by kernel_rfl)
        have f1 : (Fk.tt).holds (a.tmps.getD 47 undef) w' := hd 35 _ _ rfl rfl (by kernel_rfl)
        exact ⟨rfl, stp_pick _ _ _ rfl f0 f1⟩
      | 37, ho, hd =>
        obtain rfl := Option.some.inj ho
        have f0 : (Fk.tt).holds (a.tmps.getD 48 undef) w' := hd 36 _ _ rfl rfl (by kernel_rfl)
        exact ⟨rfl, stp_move _ (.inl rfl) f0⟩
      | 38, ho, hd =>
        obtain rfl := Option.some.inj ho
        have fg : (Fk.tt).holds (a.tmps.getD 49 undef) w' := hd 37 _ _ rfl rfl (by kernel_rfl)
        exact ⟨wanted_tt 37 49 rfl rfl (by rw [hsz]; decide) fg, stp_move _ (.inl rfl) (by show (Fk.wd [-2, 0, 1]).holds (a.tmps.getD 2 undef) w'; rw [hbase 2 (noDst_spec (by kernel_rfl))]; exact Fk.keep (k := .wd [-2, 0, 1]) ht2 hw)⟩
      | 39, ho, hd =>
        obtain rfl := Option.some.inj ho
        have fg : (Fk.tt).holds (a.tmps.getD 49 undef) w' := hd 37 _ _ rfl rfl (by kernel_rfl)
        exact ⟨wanted_tt 37 49 rfl rfl (by rw [hsz]; decide) fg, stp_call _ _ _ rfl ef_ref01_From #[.int .i64 (-2)] (by simp [Act.eval]) (refFrom' _ _ (by unfold I64; decide))⟩
      | 40, ho, hd =>
        obtain rfl := Option.some.inj ho
        have fg : (Fk.tt).holds (a.tmps.getD 49 undef) w' := hd 37 _ _ rfl rfl (by kernel_rfl)
        exact ⟨wanted_tt 37 49 rfl rfl (by rw [hsz]; decide) fg, stp_build _ _ rfl #[] (by simp) _ (bldW _) rfl⟩
      | 41, ho, hd =>
        obtain rfl := Option.some.inj ho
        have fg : (Fk.tt).holds (a.tmps.getD 49 undef) w' := hd 37 _ _ rfl rfl (by kernel_rfl)
        exact ⟨wanted_tt 37 49 rfl rfl (by rw [hsz]; decide) fg, stp_call _ _ _ rfl ef_ref01_From #[.int .i64 1] (by simp [Act.eval]) (refFrom' _ _ (by unfold I64; decide))⟩
      | 42, ho, hd =>
        obtain rfl := Option.some.inj ho
        have f0 : (Fk.val (wv (-2))).holds (a.tmps.getD 51 undef) w' := hd 39 _ _ rfl rfl (by kernel_rfl)
        have f1 : (Fk.val (wv 0)).holds (a.tmps.getD 52 undef) w' := hd 40 _ _ rfl rfl (by kernel_rfl)
        have f2 : (Fk.val (wv 1)).holds (a.tmps.getD 53 undef) w' := hd 41 _ _ rfl rfl (by kernel_rfl)
        have fg : (Fk.tt).holds (a.tmps.getD 49 undef) w' := hd 37 _ _ rfl rfl (by kernel_rfl)
        exact ⟨wanted_tt 37 49 rfl rfl (by rw [hsz]; decide) fg, stp_slice 34 3 _ rfl #[(0, wv (-2)), (1, wv 0), (2, wv 1)] (three a 51 52 53 (wv (-2), wv 0, wv 1) f0 f1 f2) _ _ (bldV _) (wdlit _)⟩
      | 43, ho, hd =>
        obtain rfl := Option.some.inj ho
        have f0 : (Fk.wd [-2, 0, 1]).holds (a.tmps.getD 50 undef) w' := hd 38 _ _ rfl rfl (by kernel_rfl)
        have f1 : (Fk.wd [-2, 0, 1]).holds (a.tmps.getD 54 undef) w' := hd 42 _ _ rfl rfl (by kernel_rfl)
        have fg : (Fk.tt).holds (a.tmps.getD 49 undef) w' := hd 37 _ _ rfl rfl (by kernel_rfl)
        exact ⟨wanted_tt 37 49 rfl rfl (by rw [hsz]; decide) fg, stp_call _ _ _ rfl ef_ref04_Lists #[a.tmps.getD 50 undef, a.tmps.getD 54 undef] (by simp [Act.eval]) (refLists' _ _ _ _ f0 f1 (by intro x hx; simp at hx; rcases hx with rfl | rfl | rfl <;> exact Nat.le_trans (nb_le _ 1 (by decide)) (by decide)))⟩
      | 44, ho, hd =>
        obtain rfl := Option.some.inj ho
        have f0 : (Fk.tt).holds (a.tmps.getD 49 undef) w' := hd 37 _ _ rfl rfl (by kernel_rfl)
        have f1 : (Fk.tt).holds (a.tmps.getD 55 undef) w' := hd 43 _ _ rfl rfl (by kernel_rfl)
        exact ⟨rfl, stp_pick _ _ _ rfl f0 f1⟩
      | 45, ho, hd =>
        obtain rfl := Option.some.inj ho
        have f0 : (Fk.tt).holds (a.tmps.getD 56 undef) w' := hd 44 _ _ rfl rfl (by kernel_rfl)
        exact ⟨rfl, stp_move _ (.inl rfl) f0⟩
      | 46, ho, hd =>
        obtain rfl := Option.some.inj ho
        have fg : (Fk.tt).holds (a.tmps.getD 57 undef) w' := hd 45 _ _ rfl rfl (by kernel_rfl)
        exact ⟨wanted_tt 45 57 rfl rfl (by rw [hsz]; decide) fg, stp_slice 22 6 _ rfl #[(0, .int .i64 (5)), (1, .int .i64 (1)), (2, .int .i64 (4)), (3, .int .i64 (3)), (4, .int .i64 (5)), (5, .int .i64 (-1))] (by simp [Act.eval]) (pv [(5, 1), (4, 3), (5, -1)]).toArray _ (build_run _ _ 3 _ _ _ _ 1 8 Tryz.underlying22 Tryz.infoInt (by decide) (by decide) (by kernel_rfl)) (ilit _ _ [(5, 1), (4, 3), (5, -1)] 6 rfl (by decide))⟩
      | 47, ho, hd =>
        obtain rfl := Option.some.inj ho
        have f0 : (Fk.ints [(5, 1), (4, 3), (5, -1)]).holds (a.tmps.getD 58 undef) w' := hd 46 _ _ rfl rfl (by kernel_rfl)
        have fg : (Fk.tt).holds (a.tmps.getD 57 undef) w' := hd 45 _ _ rfl rfl (by kernel_rfl)
        exact ⟨wanted_tt 45 57 rfl rfl (by rw [hsz]; decide) fg, stp_call _ _ _ rfl ef_law07_terms #[a.tmps.getD 58 undef] (by simp [Act.eval]) (laTerms' _ _ _ f0 (by decide) (by unfold I64; decide))⟩
      | 48, ho, hd =>
        obtain rfl := Option.some.inj ho
        have f0 : (Fk.ch [(5, 1), (4, 3), (5, -1)]).holds (a.tmps.getD 59 undef) w' := hd 47 _ _ rfl rfl (by kernel_rfl)
        have fg : (Fk.tt).holds (a.tmps.getD 57 undef) w' := hd 45 _ _ rfl rfl (by kernel_rfl)
        exact ⟨wanted_tt 45 57 rfl rfl (by rw [hsz]; decide) fg, stp_call _ _ _ rfl ef_chains_Canon #[a.tmps.getD 59 undef] (by simp [Act.eval]) (chCanon' _ _ _ _ f0 (lok (by decide)) (by decide) (by unfold Cn; decide) (co_all (by decide)))⟩
      | 49, ho, hd =>
        obtain rfl := Option.some.inj ho
        have fg : (Fk.tt).holds (a.tmps.getD 57 undef) w' := hd 45 _ _ rfl rfl (by kernel_rfl)
        exact ⟨wanted_tt 45 57 rfl rfl (by rw [hsz]; decide) fg, stp_slice 22 2 _ rfl #[(0, .int .i64 (4)), (1, .int .i64 (3))] (by simp [Act.eval]) (pv [(4, 3)]).toArray _ (build_run _ _ 3 _ _ _ _ 1 8 Tryz.underlying22 Tryz.infoInt (by decide) (by decide) (by kernel_rfl)) (ilit _ _ [(4, 3)] 2 rfl (by decide))⟩
      | 50, ho, hd =>
        obtain rfl := Option.some.inj ho
        have f0 : (Fk.ints [(4, 3)]).holds (a.tmps.getD 61 undef) w' := hd 49 _ _ rfl rfl (by kernel_rfl)
        have fg : (Fk.tt).holds (a.tmps.getD 57 undef) w' := hd 45 _ _ rfl rfl (by kernel_rfl)
        exact ⟨wanted_tt 45 57 rfl rfl (by rw [hsz]; decide) fg, stp_call _ _ _ rfl ef_law07_terms #[a.tmps.getD 61 undef] (by simp [Act.eval]) (laTerms' _ _ _ f0 (by decide) (by unfold I64; decide))⟩
      | 51, ho, hd =>
        obtain rfl := Option.some.inj ho
        have f0 : (Fk.ch [(4, 3)]).holds (a.tmps.getD 60 undef) w' := hd 48 _ _ rfl rfl (by kernel_rfl)
        have f1 : (Fk.ch [(4, 3)]).holds (a.tmps.getD 62 undef) w' := hd 50 _ _ rfl rfl (by kernel_rfl)
        have fg : (Fk.tt).holds (a.tmps.getD 57 undef) w' := hd 45 _ _ rfl rfl (by kernel_rfl)
        exact ⟨wanted_tt 45 57 rfl rfl (by rw [hsz]; decide) fg, stp_call _ _ _ rfl ef_ref07_Same #[a.tmps.getD 60 undef, a.tmps.getD 62 undef] (by simp [Act.eval]) (svSame' _ _ _ _ f0 f1)⟩
      | 52, ho, hd =>
        obtain rfl := Option.some.inj ho
        have f0 : (Fk.tt).holds (a.tmps.getD 57 undef) w' := hd 45 _ _ rfl rfl (by kernel_rfl)
        have f1 : (Fk.tt).holds (a.tmps.getD 63 undef) w' := hd 51 _ _ rfl rfl (by kernel_rfl)
        exact ⟨rfl, stp_pick _ _ _ rfl f0 f1⟩
      | 53, ho, hd =>
        obtain rfl := Option.some.inj ho
        have f0 : (Fk.tt).holds (a.tmps.getD 64 undef) w' := hd 52 _ _ rfl rfl (by kernel_rfl)
        exact ⟨rfl, stp_move _ (.inr rfl) f0⟩
      | i + 54, ho, hd =>
        have : i + 54 < 54 := (Array.getElem?_eq_some_iff.1 ho).1
        omega
    case done3 =>
      intro a w3 hsz hdf3 hf hbase hw
      have ht : (Fk.tt).holds (a.tmps.getD 0 undef) w3 := hf 53 _ _ rfl rfl
      have hB3 := hB.trans (hw.mono hB.size)
      clear hbase hf
      refine wp_ret ?_
      show bodyPost Tryz.prog Tryz.f11 (fun e w' => e = .returned (.bool true) ∧ Below w.heap.size w w') .ret a w3
      refine bodyPost_ret (v := .bool true) ?_ (hdf3.trans hdf) ⟨rfl, hB3⟩
      have ht' : a.tmps.getD 0 undef = .bool true := ht
      rw [Array.getD_eq_getD_getElem?] at ht'
      simp [results, Tryz.results11, go_sem, ht']

end Go.Proofs.YtfcmpolhcpbliaaGreatDoor
