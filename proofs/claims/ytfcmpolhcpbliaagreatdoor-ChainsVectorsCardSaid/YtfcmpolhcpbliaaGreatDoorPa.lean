/- cocyclelaw07.ChainsSums. Written by gen_sums.py out of LaH.src. -/
import Derived.Test.YtfcmpolhcpbliaaGreatDoorMo

namespace Go.Proofs.YtfcmpolhcpbliaaGreatDoor
open Go.RowKit Go.Cx
attribute [local go_sem ↓] Go.wp_at_zero Go.wp_at_succ

theorem apl {w : World} {b n : Nat} {v : Value} {L M : List (Int × Int)} (h : w.ownsRow b 63 3 v n (tv (ctm L) ++ tv (ctm M))) : (Fk.ch (L ++ M)).holds v w := by
  have := Sl.of_ownsRow h
  rw [show tv (ctm L) ++ tv (ctm M) = tv (ctm (L ++ M)) by simp [tv, ctm]] at this
  exact this
set_option maxRecDepth 100000 in
theorem ldW {w : World} {b : Nat} {z : Int} (h : Bx w b (decide (z < 0)) (mg z)) : (Instr.loadAt 46 (.pointer (some ⟨b, 0, none⟩))).run Tryz.prog w = .ok (wv z) w := by
  obtain ⟨h1, h2, _, _⟩ := h
  show _ = Result.ok (Value.agg #[.bool (decide (z < 0)), .string (mg z)]) w
  simp [go_sem, h1, h2]
set_option maxRecDepth 100000 in
theorem eqX (x : Int) (w : World) : (Go.binOp .eql 46 (wv x) (wv x)).run Tryz.prog w = .ok (.bool true) w := by
  have hp' : Tryz.prog.stoodInHeld 46 = false := by kernel_rfl
  show (Go.binOp .eql 46 (.agg #[.bool (decide (x < 0)), .string (mg x)]) (.agg #[.bool (decide (x < 0)), .string (mg x)])).run Tryz.prog w = _
  simp [go_sem, hp']
set_option maxRecDepth 100000 in
theorem egX (x y : Operand) (z : Int) (w : World) : (eqGuard .eql 46 x y (wv z) (wv z)).run Tryz.prog w = .ok () w := by
  show (eqGuard .eql 46 x y (.agg #[.bool (decide (z < 0)), .string (mg z)]) (.agg #[.bool (decide (z < 0)), .string (mg z)])).run Tryz.prog w = _
  simp [go_sem, eqGuard]
set_option maxRecDepth 100000 in
theorem eqB (q : Bool) (w : World) : (Go.binOp .eql 4 (.bool q) (.bool q)).run Tryz.prog w = .ok (.bool true) w := by
  cases q <;> simp [go_sem]
set_option maxRecDepth 100000 in
theorem egB (x y : Operand) (q : Bool) (w : World) : (eqGuard .eql 4 x y (.bool q) (.bool q)).run Tryz.prog w = .ok () w := by
  simp [go_sem, eqGuard]

/-- Kinds that no world touches. -/
def Fk.idle : Fk → Bool
  | .any | .tt | .val _ => true
  | _ => false
theorem Fk.idle_keep {k : Fk} {v : Value} {w w' : World} (hi : k.idle = true) (h : k.holds v w) : k.holds v w' := by
  cases k <;> first | exact h | (cases hi)

/-- What the append kills. -/
def kilS (k j : Nat) : Bool := k == 48 && [3, 5, 20, 23, 29, 32, 46].contains j
/-- An operation's predecessor along the calls' chain. -/
def pvS : List Nat := (List.range 55).map fun k => if k = 48 then 46 else if k = 46 then 44 else if k = 44 then 41 else if k = 41 then 38 else if k = 38 then 35 else if k = 35 then 33 else if k = 33 then 32 else if k = 32 then 29 else if k = 29 then 26 else if k = 26 then 24 else if k = 24 then 23 else if k = 23 then 20 else if k = 20 then 17 else if k = 17 then 14 else if k = 14 then 11 else if k = 11 then 8 else if k = 8 then 6 else if k = 6 then 5 else if k = 5 then 3 else 0

set_option maxRecDepth 100000 in
set_option maxHeartbeats 4000000 in
theorem laSums (v1 v2 : Value) (l1 l2 : List (Int × Int)) (z : Int) (w : World) (h1 : Sl w 2 v1 (pv l1)) (h2 : Sl w 2 v2 (pv l2)) (r1 : ∀ p ∈ l1, I64 p.1 ∧ I64 p.2) (r2 : ∀ p ∈ l2, I64 p.1 ∧ I64 p.2) (hz : I64 z) :
    Calls Tryz.prog 8 #[v1, v2, .int .i64 z] w fun e w' => e = .returned (.bool true) ∧ Below w.heap.size w w' := by
  obtain ⟨a1, k1, c1, rfl⟩ := sl_shape h1
  obtain ⟨a2, k2, c2, rfl⟩ := sl_shape h2
  have H1 := Lib.hid h1; clear h1
  have H2 := Lib.hid h2; clear h2
  go_enter Tryz.func8, Tryz.ntmps8
  go_wp2_with fail
  refine (laSanity _).mono ?_
  rintro e w1 ⟨rfl, hb1⟩
  go_wp2_with fail
  refine (svTermsF _ l1 _ _ (H1.out.keep hb1) r1 (Nat.le_refl _)).mono ?_
  rintro e w2 ⟨v8, rfl, hx, hb2⟩
  go_wp2_with fail
  refine (svTermsF _ l2 _ _ ((H2.out.keep hb1).keep hb2) r2 (Nat.le_refl _)).mono ?_
  rintro e w3 ⟨v9, rfl, hy, hb3⟩
  go_wp2_with fail
  refine (refFrom z _ hz.1 hz.2).mono ?_
  rintro e w4 ⟨rfl, hb4⟩
  rw [show wv z = .agg #[.bool (decide (z < 0)), .string (mg z)] from rfl]
  have hX := Sl.of_ownsRow hx.2
  have hY := Sl.of_ownsRow hy.2
  obtain ⟨L1, hL1⟩ : ∃ L, L = l1.take 30 := ⟨_, rfl⟩
  obtain ⟨L2, hL2⟩ : ∃ L, L = l2.take 30 := ⟨_, rfl⟩
  have q1 : LOk 8 L1 := hL1 ▸ lok8 r1
  have q2 : LOk 8 L2 := hL2 ▸ lok8 r2
  have n1 : L1.length ≤ 100 := by rw [hL1]; simp; omega
  have n2 : L2.length ≤ 100 := by rw [hL2]; simp; omega
  rw [← hL1] at hX
  rw [← hL2] at hY
  have hB4 : Below w.heap.size w w4 := ((hb1.trans (hb2.mono hb1.size)).trans (hb3.mono (Nat.le_trans hb1.size hb2.size))).trans (hb4.mono (Nat.le_trans hb1.size (Nat.le_trans hb2.size hb3.size)))
  obtain ⟨W0, hW⟩ : ∃ W0, W0 = w4.alloc (.cells #[.bool (decide (z < 0)), .string (mg z)] 46) := ⟨_, rfl⟩
  have hx0 : Sl W0 3 v8 (tv (ctm L1)) := by rw [hW]; exact ((hX.keep hb3).keep hb4).alloc _
  have hy0 : Sl W0 3 v9 (tv (ctm L2)) := by rw [hW]; exact (hY.keep hb4).alloc _
  have hb0 : Bx W0 w4.heap.size (decide (z < 0)) (mg z) := by rw [hW]; exact Bx.new w4 _ _ _
  have hB0 : Below w.heap.size w W0 := by rw [hW]; exact hB4.alloc hB4.size _
  have hl0 : w4.heap.size < W0.heap.size := by rw [hW]; simp
  have hs0 : Sl W0 2 (.slice a2 k2 c2) (pv l2) := H2.out.keep hB0
  obtain ⟨q, hq⟩ : ∃ q : Bool, q = true ↔ ∀ c, co L1 c = co L2 c := by
    rcases Classical.em (∀ c, co L1 c = co L2 c) with h | h
    · exact ⟨true, by simp [h]⟩
    · exact ⟨false, by simp [h]⟩
  have HH := Lib.hid (And.intro hW (And.intro hx0 (And.intro hy0 (And.intro hb0 (And.intro hB0 (And.intro hs0 (And.intro hl0 hq)))))))
  clear hx hy hX hY hb1 hb2 hb3 hb4 hB4 hx0 hy0 hb0 hB0 hs0 hW hl0 hq
  go_wp2_with fail
  rename_i K hK
  obtain ⟨hW, hx0, hy0, hbx, hB0, hs0, hbl, hq⟩ := HH.out
  rw [← hW]
  have hv8 : ∀ w', Below W0.heap.size W0 w' → (Fk.ch L1).holds v8 w' := fun w' h => hx0.keep h
  have hv9 : ∀ w', Below W0.heap.size W0 w' → (Fk.ch L2).holds v9 w' := fun w' h => hy0.keep h
  have hvy : ∀ w', Below W0.heap.size W0 w' → Sl w' 2 (.slice a2 k2 c2) (pv l2) := fun w' h => hs0.keep h
  have qA : LOk 8 (L2 ++ L1) := fun p hp => (List.mem_append.1 hp).elim (q2 p) (q1 p)
  have nA : (L2 ++ L1).length ≤ 1000 := by simp; omega
  have nB : L1.length + L2.length ≤ 1000 := by omega
  have hsum : ∀ c, co (L2 ++ L1) c = co L1 c + co L2 c := fun c => by rw [co_append, Int.add_comm]
  refine region_facts2 rfl (fun i v w => (([.tt, .tt, .val v8, .cf (co L1) L1.length 1000, .val v8, .cf (co L1) L1.length 1000, .tt, .tt, .tt, .val v8, .val v9, .val (.bool q), .val v8, .val v9, .val (.bool q), .tt, .tt, .tt, .val v8, .val v9, .cf (fun c => co L1 c + co L2 c) (L1.length + L2.length) 1000, .val v8, .val v9, .cf (fun c => co L1 c + co L2 c) (L1.length + L2.length) 1000, .tt, .tt, .tt, .val (wv z), .val v8, .cf (fun c => z * co L1 c) L1.length 1000, .val (wv z), .val v8, .cf (fun c => z * co L1 c) L1.length 1000, .tt, .tt, .tt, .val v8, .val v9, .val (wv (pg (co L1) L2)), .val v8, .val v9, .val (wv (pg (co L1) L2)), .tt, .tt, .tt, .val (.slice a2 k2 c2), .own W0.heap.size L2, .val v8, .ch (L2 ++ L1), .val v8, .val v9, .cf (fun c => co L1 c + co L2 c) (L1.length + L2.length) 1000, .tt, .tt, .tt] : List Fk).getD i .any).holds v w) kilS (fun i j => i != 54 || j == 53) (fun k i => k == 48 && i == 51) (fun k w' w'' => Below (if k = 48 then W0.heap.size else w'.heap.size) w' w'') pvS 60 (by kernel_rfl) (by kernel_rfl) ?ks 72 rfl (by kernel_rfl) (by kernel_rfl) ?kf ?kr ?step ?done
  case ks =>
    intro k j h
    unfold kilS at h
    rw [Bool.and_eq_true, beq_iff_eq] at h
    rw [h.1]; decide
  case kf =>
    intro k i v w' w'' hki hne hla h hb
    by_cases hk : k = 48
    · subst hk
      rcases Nat.lt_or_ge i 55 with hi | hi
      · have hall : (List.range 55).all (fun i => kilS 48 i || i == 48 || i == 51 || (([.tt, .tt, .val v8, .cf (co L1) L1.length 1000, .val v8, .cf (co L1) L1.length 1000, .tt, .tt, .tt, .val v8, .val v9, .val (.bool q), .val v8, .val v9, .val (.bool q), .tt, .tt, .tt, .val v8, .val v9, .cf (fun c => co L1 c + co L2 c) (L1.length + L2.length) 1000, .val v8, .val v9, .cf (fun c => co L1 c + co L2 c) (L1.length + L2.length) 1000, .tt, .tt, .tt, .val (wv z), .val v8, .cf (fun c => z * co L1 c) L1.length 1000, .val (wv z), .val v8, .cf (fun c => z * co L1 c) L1.length 1000, .tt, .tt, .tt, .val v8, .val v9, .val (wv (pg (co L1) L2)), .val v8, .val v9, .val (wv (pg (co L1) L2)), .tt, .tt, .tt, .val (.slice a2 k2 c2), .own W0.heap.size L2, .val v8, .ch (L2 ++ L1), .val v8, .val v9, .cf (fun c => co L1 c + co L2 c) (L1.length + L2.length) 1000, .tt, .tt, .tt] : List Fk).getD i .any).idle) = true := by kernel_rfl
        have h1 := List.all_eq_true.1 hall i (List.mem_range.2 hi)
        have h2 : (i == 48) = false := by simpa using hne
        have h3 : (i == 51) = false := by simpa using hla
        rw [hki, h2, h3, Bool.false_or, Bool.false_or, Bool.false_or] at h1
        exact Fk.idle_keep h1 h
      · show (([.tt, .tt, .val v8, .cf (co L1) L1.length 1000, .val v8, .cf (co L1) L1.length 1000, .tt, .tt, .tt, .val v8, .val v9, .val (.bool q), .val v8, .val v9, .val (.bool q), .tt, .tt, .tt, .val v8, .val v9, .cf (fun c => co L1 c + co L2 c) (L1.length + L2.length) 1000, .val v8, .val v9, .cf (fun c => co L1 c + co L2 c) (L1.length + L2.length) 1000, .tt, .tt, .tt, .val (wv z), .val v8, .cf (fun c => z * co L1 c) L1.length 1000, .val (wv z), .val v8, .cf (fun c => z * co L1 c) L1.length 1000, .tt, .tt, .tt, .val v8, .val v9, .val (wv (pg (co L1) L2)), .val v8, .val v9, .val (wv (pg (co L1) L2)), .tt, .tt, .tt, .val (.slice a2 k2 c2), .own W0.heap.size L2, .val v8, .ch (L2 ++ L1), .val v8, .val v9, .cf (fun c => co L1 c + co L2 c) (L1.length + L2.length) 1000, .tt, .tt, .tt] : List Fk).getD i .any).holds v w''
        rw [List.getD_eq_getElem?_getD, List.getElem?_eq_none (by simpa using hi)]; trivial
    · rw [if_neg hk] at hb
      exact Fk.keep h hb
  case kr =>
    intro k w' w'' h1 h2
    split at h2
    · exact h2
    · exact h2.mono h1.size
  case step =>
      intro i o ho a w' hw hd hbase hsz
      have ht8 : (v8 : Value) = v8 := rfl
      have ht9 : (v9 : Value) = v9 := rfl
      have ht1 : (.slice a2 k2 c2 : Value) = .slice a2 k2 c2 := rfl
      have ht7 : (.bool true : Value) = .bool true := rfl
      have ht10 : (.pointer (some ⟨w4.heap.size, 0, none⟩) : Value) = .pointer (some ⟨w4.heap.size, 0, none⟩) := rfl
      match i, ho, hd with
      | 0, ho, hd =>
        obtain rfl := Option.some.inj ho
        exact ⟨rfl, stp_move _ (.inl rfl) ((hbase 7 (noDst_spec (by kernel_rfl))).trans ht7)⟩
      | 1, ho, hd =>
        obtain rfl := Option.some.inj ho
        have f0 : (Fk.tt).holds (a.tmps.getD 18 undef) w' := hd 0 _ _ rfl rfl (by kernel_rfl)
        exact ⟨rfl, stp_move _ (.inl rfl) f0⟩
      | 2, ho, hd =>
        obtain rfl := Option.some.inj ho
        have fg : (Fk.tt).holds (a.tmps.getD 19 undef) w' := hd 1 _ _ rfl rfl (by kernel_rfl)
        exact ⟨wanted_tt 1 19 rfl rfl (by rw [hsz]; decide) fg, stp_move _ (.inl rfl) ((hbase 8 (noDst_spec (by kernel_rfl))).trans ht8)⟩
      | 3, ho, hd =>
        obtain rfl := Option.some.inj ho
        have f0 : (Fk.val v8).holds (a.tmps.getD 20 undef) w' := hd 2 _ _ rfl rfl (by kernel_rfl)
        have fg : (Fk.tt).holds (a.tmps.getD 19 undef) w' := hd 1 _ _ rfl rfl (by kernel_rfl)
        exact ⟨wanted_tt 1 19 rfl rfl (by rw [hsz]; decide) fg, stp_call _ _ _ rfl ef_chains_Canon #[v8] (by simp [Act.eval, show a.tmps.getD 20 undef = v8 from f0]) (chCanonF _ L1 _ (hv8 _ hw) q1 n1)⟩
      | 4, ho, hd =>
        obtain rfl := Option.some.inj ho
        have fg : (Fk.tt).holds (a.tmps.getD 19 undef) w' := hd 1 _ _ rfl rfl (by kernel_rfl)
        exact ⟨wanted_tt 1 19 rfl rfl (by rw [hsz]; decide) fg, stp_move _ (.inl rfl) ((hbase 8 (noDst_spec (by kernel_rfl))).trans ht8)⟩
      | 5, ho, hd =>
        obtain rfl := Option.some.inj ho
        have f0 : (Fk.val v8).holds (a.tmps.getD 22 undef) w' := hd 4 _ _ rfl rfl (by kernel_rfl)
        have fg : (Fk.tt).holds (a.tmps.getD 19 undef) w' := hd 1 _ _ rfl rfl (by kernel_rfl)
        exact ⟨wanted_tt 1 19 rfl rfl (by rw [hsz]; decide) fg, stp_call _ _ _ rfl ef_ref07_Canon #[v8] (by simp [Act.eval, show a.tmps.getD 22 undef = v8 from f0]) (svCanonF _ L1 _ (hv8 _ hw) q1 n1)⟩
      | 6, ho, hd =>
        obtain rfl := Option.some.inj ho
        have f0 : (Fk.cf (co L1) L1.length 1000).holds (a.tmps.getD 21 undef) w' := hd 3 _ _ rfl rfl (by kernel_rfl)
        have f1 : (Fk.cf (co L1) L1.length 1000).holds (a.tmps.getD 23 undef) w' := hd 5 _ _ rfl rfl (by kernel_rfl)
        have fg : (Fk.tt).holds (a.tmps.getD 19 undef) w' := hd 1 _ _ rfl rfl (by kernel_rfl)
        exact ⟨wanted_tt 1 19 rfl rfl (by rw [hsz]; decide) fg, stp_call _ _ _ rfl ef_ref07_Same #[a.tmps.getD 21 undef, a.tmps.getD 23 undef] (by simp [Act.eval]) (svSameF _ _ _ _ _ _ _ _ f0 f1)⟩
      | 7, ho, hd =>
        obtain rfl := Option.some.inj ho
        have f0 : (Fk.tt).holds (a.tmps.getD 19 undef) w' := hd 1 _ _ rfl rfl (by kernel_rfl)
        have f1 : (Fk.tt).holds (a.tmps.getD 24 undef) w' := hd 6 _ _ rfl rfl (by kernel_rfl)
        exact ⟨rfl, stp_pick _ _ _ rfl f0 f1⟩
      | 8, ho, hd =>
        obtain rfl := Option.some.inj ho
        have f0 : (Fk.tt).holds (a.tmps.getD 25 undef) w' := hd 7 _ _ rfl rfl (by kernel_rfl)
        exact ⟨rfl, stp_move _ (.inl rfl) f0⟩
      | 9, ho, hd =>
        obtain rfl := Option.some.inj ho
        have fg : (Fk.tt).holds (a.tmps.getD 26 undef) w' := hd 8 _ _ rfl rfl (by kernel_rfl)
        exact ⟨wanted_tt 8 26 rfl rfl (by rw [hsz]; decide) fg, stp_move _ (.inl rfl) ((hbase 8 (noDst_spec (by kernel_rfl))).trans ht8)⟩
      | 10, ho, hd =>
        obtain rfl := Option.some.inj ho
        have fg : (Fk.tt).holds (a.tmps.getD 26 undef) w' := hd 8 _ _ rfl rfl (by kernel_rfl)
        exact ⟨wanted_tt 8 26 rfl rfl (by rw [hsz]; decide) fg, stp_move _ (.inl rfl) ((hbase 9 (noDst_spec (by kernel_rfl))).trans ht9)⟩
      | 11, ho, hd =>
        obtain rfl := Option.some.inj ho
        have f0 : (Fk.val v8).holds (a.tmps.getD 27 undef) w' := hd 9 _ _ rfl rfl (by kernel_rfl)
        have f1 : (Fk.val v9).holds (a.tmps.getD 28 undef) w' := hd 10 _ _ rfl rfl (by kernel_rfl)
        have fg : (Fk.tt).holds (a.tmps.getD 26 undef) w' := hd 8 _ _ rfl rfl (by kernel_rfl)
        exact ⟨wanted_tt 8 26 rfl rfl (by rw [hsz]; decide) fg, stp_call _ _ _ rfl ef_chains_Equal #[v8, v9] (by simp [Act.eval, show a.tmps.getD 27 undef = v8 from f0, show a.tmps.getD 28 undef = v9 from f1]) (chEqualF _ _ L1 L2 _ (hv8 _ hw) (hv9 _ hw) q1 q2 n1 n2 q hq)⟩
      | 12, ho, hd =>
        obtain rfl := Option.some.inj ho
        have fg : (Fk.tt).holds (a.tmps.getD 26 undef) w' := hd 8 _ _ rfl rfl (by kernel_rfl)
        exact ⟨wanted_tt 8 26 rfl rfl (by rw [hsz]; decide) fg, stp_move _ (.inl rfl) ((hbase 8 (noDst_spec (by kernel_rfl))).trans ht8)⟩
      | 13, ho, hd =>
        obtain rfl := Option.some.inj ho
        have fg : (Fk.tt).holds (a.tmps.getD 26 undef) w' := hd 8 _ _ rfl rfl (by kernel_rfl)
        exact ⟨wanted_tt 8 26 rfl rfl (by rw [hsz]; decide) fg, stp_move _ (.inl rfl) ((hbase 9 (noDst_spec (by kernel_rfl))).trans ht9)⟩
      | 14, ho, hd =>
        obtain rfl := Option.some.inj ho
        have f0 : (Fk.val v8).holds (a.tmps.getD 30 undef) w' := hd 12 _ _ rfl rfl (by kernel_rfl)
        have f1 : (Fk.val v9).holds (a.tmps.getD 31 undef) w' := hd 13 _ _ rfl rfl (by kernel_rfl)
        have fg : (Fk.tt).holds (a.tmps.getD 26 undef) w' := hd 8 _ _ rfl rfl (by kernel_rfl)
        exact ⟨wanted_tt 8 26 rfl rfl (by rw [hsz]; decide) fg, stp_call _ _ _ rfl ef_ref07_Equal #[v8, v9] (by simp [Act.eval, show a.tmps.getD 30 undef = v8 from f0, show a.tmps.getD 31 undef = v9 from f1]) (svEqualF _ _ L1 L2 _ (hv8 _ hw) (hv9 _ hw) q1 q2 n1 n2 q hq)⟩
      | 15, ho, hd =>
        obtain rfl := Option.some.inj ho
        have f0 : (Fk.val (.bool q)).holds (a.tmps.getD 29 undef) w' := hd 11 _ _ rfl rfl (by kernel_rfl)
        have f1 : (Fk.val (.bool q)).holds (a.tmps.getD 32 undef) w' := hd 14 _ _ rfl rfl (by kernel_rfl)
        have fg : (Fk.tt).holds (a.tmps.getD 26 undef) w' := hd 8 _ _ rfl rfl (by kernel_rfl)
        exact ⟨wanted_tt 8 26 rfl rfl (by rw [hsz]; decide) fg, stp_bin _ _ _ _ _ rfl _ _ f0 f1 _ (egB _ _ _ _) (eqB _ _) rfl⟩
      | 16, ho, hd =>
        obtain rfl := Option.some.inj ho
        have f0 : (Fk.tt).holds (a.tmps.getD 26 undef) w' := hd 8 _ _ rfl rfl (by kernel_rfl)
        have f1 : (Fk.tt).holds (a.tmps.getD 33 undef) w' := hd 15 _ _ rfl rfl (by kernel_rfl)
        exact ⟨rfl, stp_pick _ _ _ rfl f0 f1⟩
      | 17, ho, hd =>
        obtain rfl := Option.some.inj ho
        have f0 : (Fk.tt).holds (a.tmps.getD 34 undef) w' := hd 16 _ _ rfl rfl (by kernel_rfl)
        exact ⟨rfl, stp_move _ (.inl rfl) f0⟩
      | 18, ho, hd =>
        obtain rfl := Option.some.inj ho
        have fg : (Fk.tt).holds (a.tmps.getD 35 undef) w' := hd 17 _ _ rfl rfl (by kernel_rfl)
        exact ⟨wanted_tt 17 35 rfl rfl (by rw [hsz]; decide) fg, stp_move _ (.inl rfl) ((hbase 8 (noDst_spec (by kernel_rfl))).trans ht8)⟩
      | 19, ho, hd =>
        obtain rfl := Option.some.inj ho
        have fg : (Fk.tt).holds (a.tmps.getD 35 undef) w' := hd 17 _ _ rfl rfl (by kernel_rfl)
        exact ⟨wanted_tt 17 35 rfl rfl (by rw [hsz]; decide) fg, stp_move _ (.inl rfl) ((hbase 9 (noDst_spec (by kernel_rfl))).trans ht9)⟩
      | 20, ho, hd =>
        obtain rfl := Option.some.inj ho
        have f0 : (Fk.val v8).holds (a.tmps.getD 36 undef) w' := hd 18 _ _ rfl rfl (by kernel_rfl)
        have f1 : (Fk.val v9).holds (a.tmps.getD 37 undef) w' := hd 19 _ _ rfl rfl (by kernel_rfl)
        have fg : (Fk.tt).holds (a.tmps.getD 35 undef) w' := hd 17 _ _ rfl rfl (by kernel_rfl)
        exact ⟨wanted_tt 17 35 rfl rfl (by rw [hsz]; decide) fg, stp_call _ _ _ rfl ef_chains_Add #[v8, v9] (by simp [Act.eval, show a.tmps.getD 36 undef = v8 from f0, show a.tmps.getD 37 undef = v9 from f1]) (chAddF _ _ L1 L2 _ (hv8 _ hw) (hv9 _ hw) q1 q2 n1 n2)⟩
      | 21, ho, hd =>
        obtain rfl := Option.some.inj ho
        have fg : (Fk.tt).holds (a.tmps.getD 35 undef) w' := hd 17 _ _ rfl rfl (by kernel_rfl)
        exact ⟨wanted_tt 17 35 rfl rfl (by rw [hsz]; decide) fg, stp_move _ (.inl rfl) ((hbase 8 (noDst_spec (by kernel_rfl))).trans ht8)⟩
      | 22, ho, hd =>
        obtain rfl := Option.some.inj ho
        have fg : (Fk.tt).holds (a.tmps.getD 35 undef) w' := hd 17 _ _ rfl rfl (by kernel_rfl)
        exact ⟨wanted_tt 17 35 rfl rfl (by rw [hsz]; decide) fg, stp_move _ (.inl rfl) ((hbase 9 (noDst_spec (by kernel_rfl))).trans ht9)⟩
      | 23, ho, hd =>
        obtain rfl := Option.some.inj ho
        have f0 : (Fk.val v8).holds (a.tmps.getD 39 undef) w' := hd 21 _ _ rfl rfl (by kernel_rfl)
        have f1 : (Fk.val v9).holds (a.tmps.getD 40 undef) w' := hd 22 _ _ rfl rfl (by kernel_rfl)
        have fg : (Fk.tt).holds (a.tmps.getD 35 undef) w' := hd 17 _ _ rfl rfl (by kernel_rfl)
        exact ⟨wanted_tt 17 35 rfl rfl (by rw [hsz]; decide) fg, stp_call _ _ _ rfl ef_ref07_Add #[v8, v9] (by simp [Act.eval, show a.tmps.getD 39 undef = v8 from f0, show a.tmps.getD 40 undef = v9 from f1]) (svAddF _ _ L1 L2 _ (hv8 _ hw) (hv9 _ hw) q1 q2 n1 n2)⟩
      | 24, ho, hd =>
        obtain rfl := Option.some.inj ho
        have f0 : (Fk.cf (fun c => co L1 c + co L2 c) (L1.length + L2.length) 1000).holds (a.tmps.getD 38 undef) w' := hd 20 _ _ rfl rfl (by kernel_rfl)
        have f1 : (Fk.cf (fun c => co L1 c + co L2 c) (L1.length + L2.length) 1000).holds (a.tmps.getD 41 undef) w' := hd 23 _ _ rfl rfl (by kernel_rfl)
        have fg : (Fk.tt).holds (a.tmps.getD 35 undef) w' := hd 17 _ _ rfl rfl (by kernel_rfl)
        exact ⟨wanted_tt 17 35 rfl rfl (by rw [hsz]; decide) fg, stp_call _ _ _ rfl ef_ref07_Same #[a.tmps.getD 38 undef, a.tmps.getD 41 undef] (by simp [Act.eval]) (svSameF _ _ _ _ _ _ _ _ f0 f1)⟩
      | 25, ho, hd =>
        obtain rfl := Option.some.inj ho
        have f0 : (Fk.tt).holds (a.tmps.getD 35 undef) w' := hd 17 _ _ rfl rfl (by kernel_rfl)
        have f1 : (Fk.tt).holds (a.tmps.getD 42 undef) w' := hd 24 _ _ rfl rfl (by kernel_rfl)
        exact ⟨rfl, stp_pick _ _ _ rfl f0 f1⟩
      | 26, ho, hd =>
        obtain rfl := Option.some.inj ho
        have f0 : (Fk.tt).holds (a.tmps.getD 43 undef) w' := hd 25 _ _ rfl rfl (by kernel_rfl)
        exact ⟨rfl, stp_move _ (.inl rfl) f0⟩
      | 27, ho, hd =>
        obtain rfl := Option.some.inj ho
        have fg : (Fk.tt).holds (a.tmps.getD 44 undef) w' := hd 26 _ _ rfl rfl (by kernel_rfl)
        exact ⟨wanted_tt 26 44 rfl rfl (by rw [hsz]; decide) fg, stp_load _ _ rfl _ ((hbase 10 (noDst_spec (by kernel_rfl))).trans ht10) _ (ldW (hbx.keep hw hbl)) rfl⟩
      | 28, ho, hd =>
        obtain rfl := Option.some.inj ho
        have fg : (Fk.tt).holds (a.tmps.getD 44 undef) w' := hd 26 _ _ rfl rfl (by kernel_rfl)
        exact ⟨wanted_tt 26 44 rfl rfl (by rw [hsz]; decide) fg, stp_move _ (.inl rfl) ((hbase 8 (noDst_spec (by kernel_rfl))).trans ht8)⟩
      | 29, ho, hd =>
        obtain rfl := Option.some.inj ho
        have f0 : (Fk.val (wv z)).holds (a.tmps.getD 45 undef) w' := hd 27 _ _ rfl rfl (by kernel_rfl)
        have f1 : (Fk.val v8).holds (a.tmps.getD 46 undef) w' := hd 28 _ _ rfl rfl (by kernel_rfl)
        have fg : (Fk.tt).holds (a.tmps.getD 44 undef) w' := hd 26 _ _ rfl rfl (by kernel_rfl)
        exact ⟨wanted_tt 26 44 rfl rfl (by rw [hsz]; decide) fg, stp_call _ _ _ rfl ef_chains_Scale #[(wv z), v8] (by simp [Act.eval, show a.tmps.getD 45 undef = (wv z) from f0, show a.tmps.getD 46 undef = v8 from f1]) (chScaleF z _ L1 _ (hv8 _ hw) hz q1 n1)⟩
      | 30, ho, hd =>
        obtain rfl := Option.some.inj ho
        have fg : (Fk.tt).holds (a.tmps.getD 44 undef) w' := hd 26 _ _ rfl rfl (by kernel_rfl)
        exact ⟨wanted_tt 26 44 rfl rfl (by rw [hsz]; decide) fg, stp_load _ _ rfl _ ((hbase 10 (noDst_spec (by kernel_rfl))).trans ht10) _ (ldW (hbx.keep hw hbl)) rfl⟩
      | 31, ho, hd =>
        obtain rfl := Option.some.inj ho
        have fg : (Fk.tt).holds (a.tmps.getD 44 undef) w' := hd 26 _ _ rfl rfl (by kernel_rfl)
        exact ⟨wanted_tt 26 44 rfl rfl (by rw [hsz]; decide) fg, stp_move _ (.inl rfl) ((hbase 8 (noDst_spec (by kernel_rfl))).trans ht8)⟩
      | 32, ho, hd =>
        obtain rfl := Option.some.inj ho
        have f0 : (Fk.val (wv z)).holds (a.tmps.getD 48 undef) w' := hd 30 _ _ rfl rfl (by kernel_rfl)
        have f1 : (Fk.val v8).holds (a.tmps.getD 49 undef) w' := hd 31 _ _ rfl rfl (by kernel_rfl)
        have fg : (Fk.tt).holds (a.tmps.getD 44 undef) w' := hd 26 _ _ rfl rfl (by kernel_rfl)
        exact ⟨wanted_tt 26 44 rfl rfl (by rw [hsz]; decide) fg, stp_call _ _ _ rfl ef_ref07_Scale #[(wv z), v8] (by simp [Act.eval, show a.tmps.getD 48 undef = (wv z) from f0, show a.tmps.getD 49 undef = v8 from f1]) (svScaleF z _ L1 _ (hv8 _ hw) hz q1 n1)⟩
      | 33, ho, hd =>
        obtain rfl := Option.some.inj ho
        have f0 : (Fk.cf (fun c => z * co L1 c) L1.length 1000).holds (a.tmps.getD 47 undef) w' := hd 29 _ _ rfl rfl (by kernel_rfl)
        have f1 : (Fk.cf (fun c => z * co L1 c) L1.length 1000).holds (a.tmps.getD 50 undef) w' := hd 32 _ _ rfl rfl (by kernel_rfl)
        have fg : (Fk.tt).holds (a.tmps.getD 44 undef) w' := hd 26 _ _ rfl rfl (by kernel_rfl)
        exact ⟨wanted_tt 26 44 rfl rfl (by rw [hsz]; decide) fg, stp_call _ _ _ rfl ef_ref07_Same #[a.tmps.getD 47 undef, a.tmps.getD 50 undef] (by simp [Act.eval]) (svSameF _ _ _ _ _ _ _ _ f0 f1)⟩
      | 34, ho, hd =>
        obtain rfl := Option.some.inj ho
        have f0 : (Fk.tt).holds (a.tmps.getD 44 undef) w' := hd 26 _ _ rfl rfl (by kernel_rfl)
        have f1 : (Fk.tt).holds (a.tmps.getD 51 undef) w' := hd 33 _ _ rfl rfl (by kernel_rfl)
        exact ⟨rfl, stp_pick _ _ _ rfl f0 f1⟩
      | 35, ho, hd =>
        obtain rfl := Option.some.inj ho
        have f0 : (Fk.tt).holds (a.tmps.getD 52 undef) w' := hd 34 _ _ rfl rfl (by kernel_rfl)
        exact ⟨rfl, stp_move _ (.inl rfl) f0⟩
      | 36, ho, hd =>
        obtain rfl := Option.some.inj ho
        have fg : (Fk.tt).holds (a.tmps.getD 53 undef) w' := hd 35 _ _ rfl rfl (by kernel_rfl)
        exact ⟨wanted_tt 35 53 rfl rfl (by rw [hsz]; decide) fg, stp_move _ (.inl rfl) ((hbase 8 (noDst_spec (by kernel_rfl))).trans ht8)⟩
      | 37, ho, hd =>
        obtain rfl := Option.some.inj ho
        have fg : (Fk.tt).holds (a.tmps.getD 53 undef) w' := hd 35 _ _ rfl rfl (by kernel_rfl)
        exact ⟨wanted_tt 35 53 rfl rfl (by rw [hsz]; decide) fg, stp_move _ (.inl rfl) ((hbase 9 (noDst_spec (by kernel_rfl))).trans ht9)⟩
      | 38, ho, hd =>
        obtain rfl := Option.some.inj ho
        have f0 : (Fk.val v8).holds (a.tmps.getD 54 undef) w' := hd 36 _ _ rfl rfl (by kernel_rfl)
        have f1 : (Fk.val v9).holds (a.tmps.getD 55 undef) w' := hd 37 _ _ rfl rfl (by kernel_rfl)
        have fg : (Fk.tt).holds (a.tmps.getD 53 undef) w' := hd 35 _ _ rfl rfl (by kernel_rfl)
        exact ⟨wanted_tt 35 53 rfl rfl (by rw [hsz]; decide) fg, stp_call _ _ _ rfl ef_chains_Pair #[v8, v9] (by simp [Act.eval, show a.tmps.getD 54 undef = v8 from f0, show a.tmps.getD 55 undef = v9 from f1]) (chPairF _ _ L1 L2 _ (hv8 _ hw) (hv9 _ hw) q1 q2 n1 n2)⟩
      | 39, ho, hd =>
        obtain rfl := Option.some.inj ho
        have fg : (Fk.tt).holds (a.tmps.getD 53 undef) w' := hd 35 _ _ rfl rfl (by kernel_rfl)
        exact ⟨wanted_tt 35 53 rfl rfl (by rw [hsz]; decide) fg, stp_move _ (.inl rfl) ((hbase 8 (noDst_spec (by kernel_rfl))).trans ht8)⟩
      | 40, ho, hd =>
        obtain rfl := Option.some.inj ho
        have fg : (Fk.tt).holds (a.tmps.getD 53 undef) w' := hd 35 _ _ rfl rfl (by kernel_rfl)
        exact ⟨wanted_tt 35 53 rfl rfl (by rw [hsz]; decide) fg, stp_move _ (.inl rfl) ((hbase 9 (noDst_spec (by kernel_rfl))).trans ht9)⟩
      | 41, ho, hd =>
        obtain rfl := Option.some.inj ho
        have f0 : (Fk.val v8).holds (a.tmps.getD 57 undef) w' := hd 39 _ _ rfl rfl (by kernel_rfl)
        have f1 : (Fk.val v9).holds (a.tmps.getD 58 undef) w' := hd 40 _ _ rfl rfl (by kernel_rfl)
        have fg : (Fk.tt).holds (a.tmps.getD 53 undef) w' := hd 35 _ _ rfl rfl (by kernel_rfl)
        exact ⟨wanted_tt 35 53 rfl rfl (by rw [hsz]; decide) fg, stp_call _ _ _ rfl ef_ref07_Pair #[v8, v9] (by simp [Act.eval, show a.tmps.getD 57 undef = v8 from f0, show a.tmps.getD 58 undef = v9 from f1]) (svPairF _ _ L1 L2 _ (hv8 _ hw) (hv9 _ hw) q1 q2 n1 n2)⟩
      | 42, ho, hd =>
        obtain rfl := Option.some.inj ho
        have f0 : (Fk.val (wv (pg (co L1) L2))).holds (a.tmps.getD 56 undef) w' := hd 38 _ _ rfl rfl (by kernel_rfl)
        have f1 : (Fk.val (wv (pg (co L1) L2))).holds (a.tmps.getD 59 undef) w' := hd 41 _ _ rfl rfl (by kernel_rfl)
        have fg : (Fk.tt).holds (a.tmps.getD 53 undef) w' := hd 35 _ _ rfl rfl (by kernel_rfl)
        exact ⟨wanted_tt 35 53 rfl rfl (by rw [hsz]; decide) fg, stp_bin _ _ _ _ _ rfl _ _ f0 f1 _ (egX _ _ _ _) (eqX _ _) rfl⟩
      | 43, ho, hd =>
        obtain rfl := Option.some.inj ho
        have f0 : (Fk.tt).holds (a.tmps.getD 53 undef) w' := hd 35 _ _ rfl rfl (by kernel_rfl)
        have f1 : (Fk.tt).holds (a.tmps.getD 60 undef) w' := hd 42 _ _ rfl rfl (by kernel_rfl)
        exact ⟨rfl, stp_pick _ _ _ rfl f0 f1⟩
      | 44, ho, hd =>
        obtain rfl := Option.some.inj ho
        have f0 : (Fk.tt).holds (a.tmps.getD 61 undef) w' := hd 43 _ _ rfl rfl (by kernel_rfl)
        exact ⟨rfl, stp_move _ (.inl rfl) f0⟩
      | 45, ho, hd =>
        obtain rfl := Option.some.inj ho
        have fg : (Fk.tt).holds (a.tmps.getD 62 undef) w' := hd 44 _ _ rfl rfl (by kernel_rfl)
        exact ⟨wanted_tt 44 62 rfl rfl (by rw [hsz]; decide) fg, stp_move _ (.inl rfl) ((hbase 1 (noDst_spec (by kernel_rfl))).trans ht1)⟩
      | 46, ho, hd =>
        obtain rfl := Option.some.inj ho
        have f0 : (Fk.val (.slice a2 k2 c2)).holds (a.tmps.getD 63 undef) w' := hd 45 _ _ rfl rfl (by kernel_rfl)
        have fg : (Fk.tt).holds (a.tmps.getD 62 undef) w' := hd 44 _ _ rfl rfl (by kernel_rfl)
        exact ⟨wanted_tt 44 62 rfl rfl (by rw [hsz]; decide) fg, stp_call _ _ _ rfl ef_ref07_Terms #[(.slice a2 k2 c2)] (by simp [Act.eval, show a.tmps.getD 63 undef = (.slice a2 k2 c2) from f0]) (svTermsG _ l2 L2 _ _ (hvy _ hw) r2 hw.size hL2)⟩
      | 47, ho, hd =>
        obtain rfl := Option.some.inj ho
        have fg : (Fk.tt).holds (a.tmps.getD 62 undef) w' := hd 44 _ _ rfl rfl (by kernel_rfl)
        exact ⟨wanted_tt 44 62 rfl rfl (by rw [hsz]; decide) fg, stp_move _ (.inl rfl) ((hbase 8 (noDst_spec (by kernel_rfl))).trans ht8)⟩
      | 48, ho, hd =>
        obtain rfl := Option.some.inj ho
        have f0 : (Fk.own W0.heap.size L2).holds (a.tmps.getD 64 undef) w' := hd 46 _ _ rfl rfl (by kernel_rfl)
        have f1 : (Fk.val v8).holds (a.tmps.getD 65 undef) w' := hd 47 _ _ rfl rfl (by kernel_rfl)
        have fg : (Fk.tt).holds (a.tmps.getD 62 undef) w' := hd 44 _ _ rfl rfl (by kernel_rfl)
        exact ⟨wanted_tt 44 62 rfl rfl (by rw [hsz]; decide) fg, do_append (.tmp 64) (.tmp 65) 30 rfl W0.heap.size 63 Tryz.infoTerm Tryz.underlying30 rfl (by decide) (by decide) _ L2.length (tv (ctm L2)) rfl f0.2 v8 L1.length (tv (ctm L1)) f1 (hv8 _ hw) (by rw [tv_len, ctm_len]) (tv_one _) (by omega) f0.1 (fun u w2 r1 r2 => ⟨u, rfl, apl r1, r2⟩)⟩
      | 49, ho, hd =>
        obtain rfl := Option.some.inj ho
        have fg : (Fk.tt).holds (a.tmps.getD 62 undef) w' := hd 44 _ _ rfl rfl (by kernel_rfl)
        exact ⟨wanted_tt 44 62 rfl rfl (by rw [hsz]; decide) fg, stp_move _ (.inl rfl) ((hbase 8 (noDst_spec (by kernel_rfl))).trans ht8)⟩
      | 50, ho, hd =>
        obtain rfl := Option.some.inj ho
        have fg : (Fk.tt).holds (a.tmps.getD 62 undef) w' := hd 44 _ _ rfl rfl (by kernel_rfl)
        exact ⟨wanted_tt 44 62 rfl rfl (by rw [hsz]; decide) fg, stp_move _ (.inl rfl) ((hbase 9 (noDst_spec (by kernel_rfl))).trans ht9)⟩
      | 51, ho, hd =>
        obtain rfl := Option.some.inj ho
        have f0 : (Fk.val v8).holds (a.tmps.getD 67 undef) w' := hd 49 _ _ rfl rfl (by kernel_rfl)
        have f1 : (Fk.val v9).holds (a.tmps.getD 68 undef) w' := hd 50 _ _ rfl rfl (by kernel_rfl)
        have fg : (Fk.tt).holds (a.tmps.getD 62 undef) w' := hd 44 _ _ rfl rfl (by kernel_rfl)
        exact ⟨wanted_tt 44 62 rfl rfl (by rw [hsz]; decide) fg, stp_call _ _ _ rfl ef_ref07_Add #[v8, v9] (by simp [Act.eval, show a.tmps.getD 67 undef = v8 from f0, show a.tmps.getD 68 undef = v9 from f1]) (svAddF _ _ L1 L2 _ (hv8 _ hw) (hv9 _ hw) q1 q2 n1 n2)⟩
      | 52, ho, hd =>
        obtain rfl := Option.some.inj ho
        have f0 : (Fk.ch (L2 ++ L1)).holds (a.tmps.getD 66 undef) w' := hd 48 _ _ rfl rfl (by kernel_rfl)
        have f1 : (Fk.cf (fun c => co L1 c + co L2 c) (L1.length + L2.length) 1000).holds (a.tmps.getD 69 undef) w' := hd 51 _ _ rfl rfl (by kernel_rfl)
        have fg : (Fk.tt).holds (a.tmps.getD 62 undef) w' := hd 44 _ _ rfl rfl (by kernel_rfl)
        exact ⟨wanted_tt 44 62 rfl rfl (by rw [hsz]; decide) fg, stp_call _ _ _ rfl ef_chains_Equal #[a.tmps.getD 66 undef, a.tmps.getD 69 undef] (by simp [Act.eval]) (chEqualG _ _ (L2 ++ L1) _ _ _ _ f0 f1 qA nA nB (by decide) (by decide) hsum)⟩
      | 53, ho, hd =>
        obtain rfl := Option.some.inj ho
        have f0 : (Fk.tt).holds (a.tmps.getD 62 undef) w' := hd 44 _ _ rfl rfl (by kernel_rfl)
        have f1 : (Fk.tt).holds (a.tmps.getD 70 undef) w' := hd 52 _ _ rfl rfl (by kernel_rfl)
        exact ⟨rfl, stp_pick _ _ _ rfl f0 f1⟩
      | 54, ho, hd =>
        obtain rfl := Option.some.inj ho
        have f0 : (Fk.tt).holds (a.tmps.getD 71 undef) w' := hd 53 _ _ rfl rfl (by kernel_rfl)
        exact ⟨rfl, stp_move _ (.inr rfl) f0⟩
      | i + 55, ho, hd =>
        have : i + 55 < 55 := (Array.getElem?_eq_some_iff.1 ho).1
        omega
  case done =>
    intro a w5 hsz hdf hf hbase hw
    have ht : a.tmps.getD 6 undef = .bool true := hf 54 _ _ rfl rfl (fun k => by unfold kilS; simp)
    have hB5 : Below w.heap.size w w5 := hB0.trans (hw.mono hB0.size)
    clear hbase hf
    refine hK _ _ (wp_ret ?_)
    show bodyPost Tryz.prog Tryz.f8 (fun e w' => e = .returned (.bool true) ∧ Below w.heap.size w w') .ret a w5
    refine bodyPost_ret (v := .bool true) ?_ hdf ⟨rfl, hB5⟩
    rw [Array.getD_eq_getD_getElem?] at ht
    simp [results, Tryz.results8, go_sem, ht]

end Go.Proofs.YtfcmpolhcpbliaaGreatDoor
