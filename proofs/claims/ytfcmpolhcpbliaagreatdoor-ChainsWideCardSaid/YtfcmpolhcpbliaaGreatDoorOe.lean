/- cocyclelaw07.ChainsWide. -/
import Derived.Deep.RegionHeld3
import Derived.Deep.DeepMust
import Derived.Test.YtfcmpolhcpbliaaGreatDoorOb
import Derived.Test.YtfcmpolhcpbliaaGreatDoorPa

namespace Go.Proofs.YtfcmpolhcpbliaaGreatDoor
open Go.RowKit Go.Cx
attribute [local go_sem ↓] Go.wp_at_zero Go.wp_at_succ

theorem row_setF {w : World} {base st n : Nat} {e : TypeId} {v : Value} {xs : List Value} (h : w.ownsRow base e st v n xs) {a : Addr} (hne : ∀ b, v.ownBlock = some b → b ≠ a.block) (u : Value) : (w.setCell a u).ownsRow base e st v n xs := by
  obtain ⟨h1, h2⟩ := h
  refine ⟨h1, ?_⟩
  rcases h2 with h2 | ⟨g, cap, cur, rfl, hg, hh, r⟩
  · exact Or.inl h2
  · exact Or.inr ⟨g, cap, cur, rfl, hg, by rw [Below.heap_setCell _ _ _ _ (hne g rfl)]; exact hh, r⟩
/-- At most twenty bytes. -/
def cutB (s : ByteArray) : ByteArray := s.extract 0 (min (s.size : Int) 20).toNat
theorem cutB_size (s : ByteArray) : (cutB s).size ≤ 20 := by unfold cutB; rw [ByteArray.size_extract]; omega
/-- The terms of the first chain and of the second. -/
def tX (a : Int) (b : Bool) (s : ByteArray) : Tm := ⟨a, b, cutB s⟩
def tY (a : Int) (b : Bool) (s : ByteArray) : Tm := ⟨a, b, ⟨#[0]⟩ ++ cutB s⟩

theorem neX (x : Int) (w : World) : (Go.binOp .neq 46 (wv x) (wv x)).run Tryz.prog w = .ok (.bool false) w := by
  have hp' : Tryz.prog.stoodInHeld 46 = false := by kernel_rfl
  show (Go.binOp .neq 46 (.agg #[.bool (decide (x < 0)), .string (mg x)]) (.agg #[.bool (decide (x < 0)), .string (mg x)])).run Tryz.prog w = _
  simp [go_sem, hp']
theorem cell_setA {w : World} {a p : Addr} {u x : Value} (h : w.cell? p = some x) (hne : p ≠ a) : (w.setCell a u).cell? p = some x := by
  rw [World.cell?_setCell_other _ _ _ _ (fun e => hne e.symm)]; exact h
set_option maxRecDepth 100000 in
set_option maxHeartbeats 4000000 in
theorem laWide (A : Nat → Int) (M : Nat → ByteArray) (B : Nat → Bool) (w : World) (hA : ∀ k, 0 ≤ A k ∧ A k ≤ 255) (hM : ∀ k, (M k).size ≤ 9223372036854775807) :
    Calls Tryz.prog 7 #[.agg #[.int .u8 (A 0), .int .u8 (A 1), .int .u8 (A 2)], .agg #[.string (M 0), .string (M 1), .string (M 2)], .agg #[.bool (B 0), .bool (B 1), .bool (B 2)]] w fun e w' => e = .returned (.bool true) ∧ Below w.heap.size w w' := by
  go_enter Tryz.func7, Tryz.ntmps7
  go_wp2_with fail
  obtain ⟨W, hW⟩ : ∃ W : World, W = ((w.alloc (.cells #[.int .u8 (A 0), .int .u8 (A 1), .int .u8 (A 2)] 59)).alloc (.cells #[.string (M 0), .string (M 1), .string (M 2)] 60)).alloc (.cells #[.bool (B 0), .bool (B 1), .bool (B 2)] 61) := ⟨_, rfl⟩
  rw [← hW]
  have a0 : ∀ k, k < 3 → W.cell? ⟨w.heap.size, k, none⟩ = some (.int .u8 (A k)) := fun k hk => by
    rw [hW]
    have := cell_new w #[.int .u8 (A 0), .int .u8 (A 1), .int .u8 (A 2)] 59 (0, 0)
    match k, hk with
    | 0, _ => exact keepAl (keepAl (this 0) _) _
    | 1, _ => exact keepAl (keepAl (this 1) _) _
    | 2, _ => exact keepAl (keepAl (this 2) _) _
  have a1 : ∀ k, k < 3 → W.cell? ⟨w.heap.size + 1, k, none⟩ = some (.string (M k)) := fun k hk => by
    rw [hW]
    have := cell_new (w.alloc (.cells #[.int .u8 (A 0), .int .u8 (A 1), .int .u8 (A 2)] 59)) #[.string (M 0), .string (M 1), .string (M 2)] 60 (0, 0)
    rw [World.size_alloc] at this
    match k, hk with
    | 0, _ => exact keepAl (this 0) _
    | 1, _ => exact keepAl (this 1) _
    | 2, _ => exact keepAl (this 2) _
  have a2 : ∀ k, k < 3 → W.cell? ⟨w.heap.size + 1 + 1, k, none⟩ = some (.bool (B k)) := fun k hk => by
    rw [hW]
    have := cell_new ((w.alloc (.cells #[.int .u8 (A 0), .int .u8 (A 1), .int .u8 (A 2)] 59)).alloc (.cells #[.string (M 0), .string (M 1), .string (M 2)] 60)) #[.bool (B 0), .bool (B 1), .bool (B 2)] 61 (0, 0)
    rw [World.size_alloc, World.size_alloc] at this
    match k, hk with
    | 0, _ => exact this 0
    | 1, _ => exact this 1
    | 2, _ => exact this 2
  have hw : Below w.heap.size w W := by rw [hW]; exact (((Below.refl _ _).alloc (Nat.le_refl _) _).alloc (by simp) _).alloc (by simp; omega) _
  have hz : W.heap.size = w.heap.size + 3 := by rw [hW]; simp
  have W3 := Lib.hid hz
  have A0 := Lib.hid a0
  have A1 := Lib.hid a1
  have A2 := Lib.hid a2
  clear hW a0 a1 a2
  refine (laSanity _).mono ?_
  rintro e w1 ⟨rfl, hb1⟩
  have hB1 : Below w.heap.size w w1 := hw.trans (hb1.mono hw.size)
  have HX := Lib.hid (show ∀ k, 0 ≤ (A k).tmod 3 ∧ (A k).tmod 3 < 3 by intro k; have := hA k; rw [Int.tmod_eq_emod_of_nonneg this.1]; omega)
  obtain ⟨X, hX⟩ : ∃ X, X = [tX ((A 0).tmod 3) (B 0) (M 0), tX ((A 1).tmod 3) (B 1) (M 1), tX ((A 2).tmod 3) (B 2) (M 2)] := ⟨_, rfl⟩
  obtain ⟨Y, hY⟩ : ∃ Y, Y = [tY ((A 0).tmod 3) (B 0) (M 0), tY ((A 1).tmod 3) (B 1) (M 1), tY ((A 2).tmod 3) (B 2) (M 2)] := ⟨_, rfl⟩
  have HXK := Lib.hid (show ∀ k, k < 3 → X[k]? = some (tX ((A k).tmod 3) (B k) (M k)) by
    intro k hk; rw [hX]
    match k, hk with
    | 0, _ => rfl
    | 1, _ => rfl
    | 2, _ => rfl)
  have HYK := Lib.hid (show ∀ k, k < 3 → Y[k]? = some (tY ((A k).tmod 3) (B k) (M k)) by
    intro k hk; rw [hY]
    match k, hk with
    | 0, _ => rfl
    | 1, _ => rfl
    | 2, _ => rfl)
  have HXY := Lib.hid (And.intro hX hY)
  clear hX hY
  go_wp2
  go_loopw [8, 9, 16] (fun x y i wr => ∃ k : Nat, i = .int .i64 k ∧ k ≤ 3 ∧ wr.ownsRow w1.heap.size 63 3 x k (tv (X.take k)) ∧ wr.ownsRow w1.heap.size 63 3 y k (tv (Y.take k)) ∧ Hid (Apt x y) ∧ Below w1.heap.size w1 wr) (fun _ _ i _ => 3 - (vI i).toNat)
  case atStart => exact ⟨0, rfl, Nat.zero_le _, World.ownsRow_nil _ _ _ _, World.ownsRow_nil _ _ _ _, (show Hid _ from fun b hb => by cases hb), Below.refl _ _⟩
  case round =>
    obtain ⟨k, rfl, hk, hx, hy, HAp, hB⟩ := hrel
    have hBw : Below w.heap.size w wr := hB1.trans (hB.mono hB1.size)
    by_cases hlt : k < 3
    · have hBW : Below W.heap.size W wr := hb1.trans (hB.mono hb1.size)
      have d0 : wr.cell? ⟨w.heap.size, k, none⟩ = some (.int .u8 (A k)) := Cx.keep hBW (A0.out k hlt)
      have d1 : wr.cell? ⟨w.heap.size + 1, k, none⟩ = some (.string (M k)) := Cx.keep hBW (A1.out k hlt)
      have d2 : wr.cell? ⟨w.heap.size + 1 + 1, k, none⟩ = some (.bool (B k)) := Cx.keep hBW (A2.out k hlt)
      obtain ⟨ak, hak⟩ : ∃ a, a = A k := ⟨_, rfl⟩
      obtain ⟨mk, hmk⟩ : ∃ m, m = M k := ⟨_, rfl⟩
      obtain ⟨bk, hbk⟩ : ∃ b, b = B k := ⟨_, rfl⟩
      have h0 := hA k
      have h1 := hM k
      rw [← hak] at d0 h0
      rw [← hmk] at d1 h1
      rw [← hbk] at d2
      have HK := Lib.hid (And.intro hak (And.intro hmk hbk))
      have hrem := HX.out k
      rw [← hak] at hrem
      obtain ⟨ck, hck⟩ : ∃ c, ak.tmod 3 = c := ⟨_, rfl⟩
      rw [hck] at hrem
      have hwp : IntKind.i64.wrap ck = ck := IntWalk.i64_in _ (by omega)
      have HCK := Lib.hid hck
      have hm0 : (0 : Int) ≤ min (mk.size : Int) 20 := by omega
      have hm1 : min (mk.size : Int) 20 ≤ (mk.size : Int) := by omega
      have HXr := Lib.hid hx
      have HYr := Lib.hid hy
      clear hak hmk hbk hx hy
      go_wp2
      go_region_held3 (fun w' => w'.cell? ⟨w.heap.size + 1, k, none⟩ = some (.string mk) ∧ w'.cell? ⟨w.heap.size + 1 + 1, k, none⟩ = some (.bool bk))
        (first | exact ⟨by assumption, by assumption⟩ | exact ⟨keepAl (by assumption) _, keepAl (by assumption) _⟩)
        (fail)
      all_goals
        obtain ⟨sk, hsk⟩ : ∃ s, s = mk.extract 0 (min (mk.size : Int) 20).toNat := ⟨_, rfl⟩
        rw [← hsk]
        have HSK := Lib.hid hsk
        have hns : ¬ (9223372036854775807 < 1 + sk.size) := by have : sk.size ≤ 20 := by { rw [hsk]; exact cutB_size mk }; omega
        clear hsk
        obtain ⟨V, hV⟩ : ∃ V : World, V = (wr.alloc (.cells #[.bool bk, .string sk] 46)).drew := ⟨_, rfl⟩
        rw [← hV]
        have hwV : Below wr.heap.size wr V := by rw [hV]; exact below_draws ((Below.refl _ wr).alloc (Nat.le_refl _) _) 1
        have v0 : V.cell? ⟨wr.heap.size, 0, none⟩ = some (.bool bk) := by rw [hV]; exact cell_new wr #[.bool bk, .string sk] 46 (0, 0) 0
        have v1 : V.cell? ⟨wr.heap.size, 1, none⟩ = some (.string sk) := by rw [hV]; exact cell_new wr #[.bool bk, .string sk] 46 (0, 0) 1
        have vf : V.frozen? ⟨wr.heap.size, 1, none⟩ = false := by rw [hV]; exact free_at (heap_alloc_new wr _) 1
        have v2 : V.cell? ⟨w.heap.size, k, none⟩ = some (.int .u8 ak) := Cx.keep hwV d0
        have HVZ := Lib.hid (show V.heap.size = wr.heap.size + 1 by rw [hV]; simp)
        have hxV := Lib.hid (ownsRow_below HXr.out hwV)
        have hyV := Lib.hid (ownsRow_below HYr.out hwV)
        clear hV d0 d1 d2
        obtain ⟨i0, hi, hz0, hz1, hz2⟩ := info_parts Tryz.infoTerm
        have hw1s : w1.heap.size ≤ V.heap.size := Nat.le_trans hB.size hwV.size
        go_wp2_with fail
        go_region_held3 (fun w' => w'.cell? ⟨w.heap.size, k, none⟩ = some (.int .u8 ak) ∧ w'.cell? ⟨wr.heap.size, 0, none⟩ = some (.bool bk) ∧ w'.cell? ⟨wr.heap.size, 1, none⟩ = some (.string sk))
          (first | exact ⟨by assumption, by assumption, by assumption⟩ | exact ⟨keepAl (by assumption) _, keepAl (by assumption) _, keepAl (by assumption) _⟩)
          (first
            | (go_must (refine step_append_lies _ rfl _ _ 30 rfl w1.heap.size 63 i0 _ 3 32 Tryz.underlying30 hi hz0 hz1 hz2 rfl (by decide) _ k (tv (X.take k)) rfl ((World.ownsRow.drew hxV.out).alloc _) ⟨V.heap.size, 0, none⟩ 1 1 [.int .i64 ck, .bool bk, .string sk] rfl rfl (news3 V.drew _ _) (one3 _ _ _) (by decide) (by unfold maxLen; omega) (by omega) (by simp; omega) _ rfl ?_; intro g cg w5 hown5 hgrow5 hat5 hlt5; have hgrow6 : ((V.alloc (.cells #[.int .i64 ck, .bool bk, .string sk] 63)).drew).grownBy w5 u8.ownBlock := hgrow5; clear hgrow5; have hne : ∀ q, u8.ownBlock = some q → wr.heap.size ≠ q := fun q e => (by have := (HXr.out.lt q e).2; omega); have hne2 : ∀ q, u8.ownBlock = some q → w.heap.size ≠ q := fun q e => (by have := (HXr.out.lt q e).1; have := hb1.size; have := W3.out; omega); have b0 : w5.cell? ⟨wr.heap.size, 0, none⟩ = some (.bool bk) := grown_keep hgrow6 (keepAl v0 _) hne; have b1 : w5.cell? ⟨wr.heap.size, 1, none⟩ = some (.string sk) := grown_keep hgrow6 (keepAl v1 _) hne; have b2 : w5.cell? ⟨w.heap.size, k, none⟩ = some (.int .u8 ak) := grown_keep hgrow6 (keepAl v2 _) hne2; have bf : w5.frozen? ⟨wr.heap.size, 1, none⟩ = false := (hgrow6.frozen_far ⟨wr.heap.size, 1, none⟩ (by have := HVZ.out; simp; omega) (fun e => hne _ e.symm rfl)).trans (frozen_keepB ((Below.refl _ V).alloc (Nat.le_refl _) _) (World.block_lt_of_cell? V _ v1) vf); have F5 := Lib.hid (And.intro hown5 (And.intro hgrow6 (And.intro hat5 hlt5))); clear hown5 hgrow6 hat5 hlt5)))
        all_goals
          go_wp2
          obtain ⟨zk, hzk⟩ : ∃ z, z = (⟨#[0]⟩ : ByteArray) ++ sk := ⟨_, rfl⟩
          rw [← hzk]
          have HZK := Lib.hid hzk
          clear hzk
          obtain ⟨U, hU⟩ : ∃ U : World, U = w5.setCell ⟨wr.heap.size, 1, none⟩ (.string zk) := ⟨_, rfl⟩
          rw [← hU]
          obtain ⟨hown5, hgrow6, hat5, hlt5⟩ := F5.out
          have hgne : g ≠ wr.heap.size := by
            rcases hat5 with h | h
            · have := (HXr.out.lt g h).2; omega
            · have h' : g = (V.alloc (.cells #[.int .i64 ck, .bool bk, .string sk] 63)).heap.size := h
              have := HVZ.out; simp at h'; omega
          have t0 : U.cell? ⟨wr.heap.size, 0, none⟩ = some (.bool bk) := by rw [hU]; exact cell_setA b0 (by simp)
          have t1 : U.cell? ⟨wr.heap.size, 1, none⟩ = some (.string zk) := by rw [hU]; exact World.cell?_setCell_same' _ _ _ (by rw [b1]; rfl)
          have t2 : U.cell? ⟨w.heap.size, k, none⟩ = some (.int .u8 ak) := by rw [hU]; exact cell_setA b2 (by intro e; injection e with e _; have := hb1.size; have := W3.out; have := hB.size; omega)
          have hyb : ∀ q, u9.ownBlock = some q → q < wr.heap.size := fun q e => (HYr.out.lt q e).2
          have hgx : ∀ q, u9.ownBlock = some q → q ≠ g := fun q e => by
            intro hqg
            rcases hat5 with h | h
            · exact HAp.out g h (by rw [e, hqg])
            · have h' : g = (V.alloc (.cells #[.int .i64 ck, .bool bk, .string sk] 63)).heap.size := h
              have := HVZ.out; have := hyb q e; simp at h'; omega
          have hyU : U.ownsRow w1.heap.size 63 3 u9 k (tv (Y.take k)) := by
            rw [hU]
            refine row_setF (row_far (World.ownsRow.drew (hyV.out.alloc _)) hgrow6 fun q e => fun e2 => ?_) (fun q e => by have := hyb q e; show q ≠ wr.heap.size; omega) _
            exact HAp.out q e2.symm e
          have hxU : U.ownsRow w1.heap.size 63 3 (.slice (some ⟨g, 0, none⟩) (k + 1) cg) (k + 1) (tv (X.take k) ++ [.int .i64 ck, .bool bk, .string sk]) := by
            rw [hU]
            exact row_setF hown5 (fun q e => by cases e; exact hgne) _
          have hw5 : Below w1.heap.size w1 w5 := ((below_draws ((hB.trans (hwV.mono hB.size)).alloc hw1s _) 1)).grown hgrow6 (by simp; omega) (fun q e => (HXr.out.lt q e).1)
          have hwU : Below w1.heap.size w1 U := by rw [hU]; exact hw5.setCell hB.size _
          have hUz : w5.heap.size ≤ U.heap.size := by rw [hU]; simp [World.setCell]
          have HU := Lib.hid (And.intro hyU (And.intro hxU (And.intro hwU (And.intro hUz (And.intro hlt5 hgx)))))
          have hw1U : w1.heap.size ≤ U.heap.size := hwU.size
          clear hU hyU hxU hw5 hwU hUz hown5 hgrow6 hat5 hlt5 b0 b1 b2 bf v0 v1 v2 vf hgx hyb hgne
          go_region_held3 (fun w' => w'.cell? ⟨w.heap.size, k, none⟩ = some (.int .u8 ak) ∧ w'.cell? ⟨wr.heap.size, 0, none⟩ = some (.bool bk) ∧ w'.cell? ⟨wr.heap.size, 1, none⟩ = some (.string zk))
            (first | exact ⟨by assumption, by assumption, by assumption⟩ | exact ⟨keepAl (by assumption) _, keepAl (by assumption) _, keepAl (by assumption) _⟩)
            (first
              | (go_must (refine step_append_lies _ rfl _ _ 30 rfl w1.heap.size 63 i0 _ 3 32 Tryz.underlying30 hi hz0 hz1 hz2 rfl (by decide) _ k (tv (Y.take k)) rfl ((World.ownsRow.drew HU.out.1).alloc _) ⟨U.heap.size, 0, none⟩ 1 1 [.int .i64 ck, .bool bk, .string zk] rfl rfl (news3 U.drew _ _) (one3 _ _ _) (by decide) (by unfold maxLen; omega) (by omega) (by simp; omega) _ rfl ?_; intro g2 cg2 w6 hown6 hgrow7 hat6 hlt6; have hgrow8 : ((U.alloc (.cells #[.int .i64 ck, .bool bk, .string zk] 63)).drew).grownBy w6 u9.ownBlock := hgrow7; clear hgrow7; have hne9 : ∀ q, u9.ownBlock = some q → wr.heap.size ≠ q := fun q e => (by have := (HYr.out.lt q e).2; omega); have hne8 : ∀ q, u9.ownBlock = some q → w.heap.size ≠ q := fun q e => (by have := (HYr.out.lt q e).1; have := hb1.size; have := W3.out; omega); have s0 : w6.cell? ⟨wr.heap.size, 0, none⟩ = some (.bool bk) := grown_keep hgrow8 (keepAl t0 _) hne9; have s1 : w6.cell? ⟨wr.heap.size, 1, none⟩ = some (.string zk) := grown_keep hgrow8 (keepAl t1 _) hne9; have s2 : w6.cell? ⟨w.heap.size, k, none⟩ = some (.int .u8 ak) := grown_keep hgrow8 (keepAl t2 _) hne8; have F6 := Lib.hid (And.intro hown6 (And.intro hgrow8 (And.intro hat6 hlt6))); clear hown6 hgrow8 hat6 hlt6)))
          all_goals
            go_wp2
            go_roundw
            case measure => simp [vI]; omega
            case rel =>
              obtain ⟨hown6, hgrow8, hat6, hlt6⟩ := F6.out
              obtain ⟨hyU, hxU, hwU, hUz, hlt5, hgx⟩ := HU.out
              obtain ⟨ea, em, eb⟩ := HK.out
              have hat7 : u9.ownBlock = some g2 ∨ g2 = (U.alloc (.cells #[.int .i64 ck, .bool bk, .string zk] 63)).heap.size := hat6
              refine ⟨k + 1, i64_eq (by omega), by omega, ?_, ?_, (show Hid _ from ?_), (below_draws (hwU.alloc hw1U _) 1).grown hgrow8 (by simp; omega) (fun q e => (HYr.out.lt q e).1)⟩
              · have h1 : w6.ownsRow _ _ _ _ _ _ := row_far (World.ownsRow.drew (hxU.alloc (.cells #[.int .i64 ck, .bool bk, .string zk] 63))) hgrow8 (fun q e e2 => hgx q e2.symm (by cases e; rfl))
                have h2 : X.take (k + 1) = X.take k ++ [tX ck bk mk] := by rw [List.take_add_one, HXK.out k hlt, ← ea, ← em, ← eb, HCK.out]; rfl
                rw [h2, tv_append]
                have h3 : sk = cutB mk := HSK.out
                rw [h3] at h1
                exact h1
              · have h2 : Y.take (k + 1) = Y.take k ++ [tY ck bk mk] := by rw [List.take_add_one, HYK.out k hlt, ← ea, ← em, ← eb, HCK.out]; rfl
                rw [h2, tv_append]
                have h3 : sk = cutB mk := HSK.out
                have h4 := HZK.out
                rw [h3] at h4
                rw [h4] at hown6
                exact hown6
              · intro q hq
                cases hq
                intro hq
                have hq' : g2 = g := by injection hq
                rcases hat7 with h | h
                · exact hgx g2 h hq'
                · rw [World.size_alloc] at h; omega
    · have hk3 : k = 3 := by omega
      have hX3 : X.take k = X := List.take_of_length_le (by rw [HXY.out.1, hk3]; exact Nat.le_refl _)
      have hY3 : Y.take k = Y := List.take_of_length_le (by rw [HXY.out.2, hk3]; exact Nat.le_refl _)
      rw [hX3] at hx
      rw [hY3] at hy
      have HXr := Lib.hid (Sl.of_ownsRow hx)
      have HYr := Lib.hid (Sl.of_ownsRow hy)
      have hax := HX
      have hXok : TOk 21 X := fun t ht => by
        rw [HXY.out.1] at ht
        have key : ∀ j, t = tX ((A j).tmod 3) (B j) (M j) → -9223372036854775808 ≤ t.c ∧ t.c ≤ 9223372036854775807 ∧ t.m.size ≤ 21 := fun j e => by
          subst e
          have h1 := HX.out j
          have h2 := cutB_size (M j)
          show -9223372036854775808 ≤ (A j).tmod 3 ∧ (A j).tmod 3 ≤ 9223372036854775807 ∧ (cutB (M j)).size ≤ 21
          omega
        simp only [List.mem_cons, List.not_mem_nil, or_false] at ht
        rcases ht with e | e | e
        · exact key 0 e
        · exact key 1 e
        · exact key 2 e
      have hYok : TOk 21 Y := fun t ht => by
        rw [HXY.out.2] at ht
        have key : ∀ j, t = tY ((A j).tmod 3) (B j) (M j) → -9223372036854775808 ≤ t.c ∧ t.c ≤ 9223372036854775807 ∧ t.m.size ≤ 21 := fun j e => by
          subst e
          have h1 := HX.out j
          have h2 := cutB_size (M j)
          show -9223372036854775808 ≤ (A j).tmod 3 ∧ (A j).tmod 3 ≤ 9223372036854775807 ∧ ((⟨#[0]⟩ : ByteArray) ++ cutB (M j)).size ≤ 21
          rw [ByteArray.size_append]
          have h3 : (⟨#[0]⟩ : ByteArray).size = 1 := rfl
          omega
        simp only [List.mem_cons, List.not_mem_nil, or_false] at ht
        rcases ht with e | e | e
        · exact key 0 e
        · exact key 1 e
        · exact key 2 e
      have hXY : prs Y = prs X := by
        rw [HXY.out.1, HXY.out.2]
        simp only [prs, List.map_cons, List.map_nil, Tm.x, tX, tY, iv_zero]
      have hXl : X.length = 3 := by rw [HXY.out.1]; rfl
      have hYl : Y.length = 3 := by rw [HXY.out.2]; rfl
      have XO := Lib.hid (And.intro hXok (And.intro hYok (And.intro hXY (And.intro hXl hYl))))
      clear hk3 hX3 hY3 hx hy hax hXok hYok hXY hXl hYl HAp
      obtain ⟨f8, n8, c8, hv8⟩ := sl_shape HXr.out
      obtain ⟨f9, n9, c9, hv9⟩ := sl_shape HYr.out
      subst hv8 hv9
      go_wp2_with fail
      refine (chCanon _ X 21 _ HXr.out XO.out.1 (by rw [XO.out.2.2.2.1]; omega)).mono ?_
      rintro e w2 ⟨r, rfl, ⟨⟨L, hL, hLc, hLn, hr⟩, hb2⟩⟩
      obtain ⟨az, cz, rfl⟩ := ownsRow_len hr
      obtain ⟨nz, hnz⟩ : ∃ n, n = L.length := ⟨_, rfl⟩
      have hzs := Sl.of_ownsRow hr
      rw [← hnz] at hzs ⊢
      have hnz3 : nz ≤ 3 := by rw [hnz, ← XO.out.2.2.2.1]; exact hLn
      have HL := Lib.hid (And.intro hL (And.intro hLc hnz))
      have HZ := Lib.hid hzs
      have hB2 : Below w.heap.size w w2 := hBw.trans (hb2.mono hBw.size)
      have hX2 := Lib.hid (HXr.out.keep hb2)
      have hY2 := Lib.hid (HYr.out.keep hb2)
      have hLb : ∀ p ∈ L, nb p.2 ≤ 24 := fun p hp => by
        have h1 := tok_nb XO.out.1 p.1
        rw [← hLc, co_mem hL.1 hp, XO.out.2.2.2.1] at h1
        omega
      have HLB := Lib.hid hLb
      clear hL hLc hLn hr hb2 hzs hnz hLb
      go_wp2
      go_loopw [61] (fun i wr => ∃ j : Nat, i = .int .i64 j ∧ j ≤ nz ∧ Below w2.heap.size w2 wr) (fun i _ => nz - (vI i).toNat)
      case atStart => exact ⟨0, rfl, Nat.zero_le _, Below.refl _ _⟩
      case round =>
        obtain ⟨j, rfl, hj, hB3⟩ := hrel
        by_cases hjl : j < nz
        · obtain ⟨p, hp⟩ : ∃ p, L[j]? = some p := ⟨_, List.getElem?_eq_getElem (by rw [← HL.out.2.2]; exact hjl)⟩
          obtain ⟨h2, h3, h4, h5, h6⟩ := HZ.out.open
          obtain ⟨ad, rfl⟩ : ∃ ad, az = some ad := by
            cases az with
            | none => have := h5 rfl; omega
            | some ad => exact ⟨ad, rfl⟩
          have hpt : (ctm L)[j]? = some ⟨p.1, decide (p.2 < 0), mg p.2⟩ := by unfold ctm; rw [List.getElem?_map, hp]; rfl
          obtain ⟨e0, e1, e2⟩ := tv_get (ctm L) j _ hpt
          have d0 : wr.cell? (ad.add (j * 3)) = some (.int .i64 p.1) := Cx.keep hB3 (h6 ad rfl _ _ e0)
          have d1 : wr.cell? ⟨(ad.add (j * 3)).block, (ad.add (j * 3)).off + 1, none⟩ = some (.bool (decide (p.2 < 0))) := by rw [add_part _ _ _ (by omega)]; exact Cx.keep hB3 (h6 ad rfl _ _ e1)
          have d2 : wr.cell? ⟨(ad.add (j * 3)).block, (ad.add (j * 3)).off + 2, none⟩ = some (.string (mg p.2)) := by rw [add_part _ _ _ (by omega)]; exact Cx.keep hB3 (h6 ad rfl _ _ e2)
          have hpb := HLB.out p (List.mem_of_getElem? hp)
          have hne : ∀ W : World, (Go.binOp .neq 46 (.agg #[.bool (decide (p.2 < 0)), .string (mg p.2)]) (.agg #[.bool (decide (p.2 < 0)), .string (mg p.2)])).run Tryz.prog W = .ok (.bool false) W := fun W => neX p.2 W
          have hgd := eqgW
          clear h2 h3 h4 h5 h6 hpt e0 e1 e2 hp
          go_wp2_with fail
          obtain ⟨V, hV⟩ : ∃ V : World, V = wr.alloc (.cells #[.int .i64 p.1, .bool (decide (p.2 < 0)), .string (mg p.2)] 63) := ⟨_, rfl⟩
          rw [← hV]
          have v1 : V.cell? ⟨wr.heap.size, 1, none⟩ = some (.bool (decide (p.2 < 0))) := by rw [hV]; exact cell_new wr #[.int .i64 p.1, .bool (decide (p.2 < 0)), .string (mg p.2)] 63 (0, 0) 1
          have v2 : V.cell? ⟨wr.heap.size, 1 + 1, none⟩ = some (.string (mg p.2)) := by rw [hV]; exact cell_new wr #[.int .i64 p.1, .bool (decide (p.2 < 0)), .string (mg p.2)] 63 (0, 0) 2
          have hBV : Below w2.heap.size w2 V := by rw [hV]; exact hB3.alloc hB3.size _
          have hz0 : (⟨#[]⟩ : ByteArray).size ≤ 1099511627776 := by decide
          clear hV d0 d1 d2
          go_region_held3 (fun w' => w'.cell? ⟨wr.heap.size, 1, none⟩ = some (.bool (decide (p.2 < 0))) ∧ w'.cell? ⟨wr.heap.size, 1 + 1, none⟩ = some (.string (mg p.2)))
            (first | exact ⟨by assumption, by assumption⟩ | fail)
            (first
              | (go_at_call 34; refine (refAdd _ _ _ _ _ (by rw [mg_size]; omega) hz0).mono ?_; rintro e w3 ⟨rfl, hb3⟩; rw [show iv (decide (p.2 < 0)) (mg p.2) + iv false ⟨#[]⟩ = p.2 from by rw [iv_mg]; simp [iv, natOf_nil]]; have hB4 : Below V.heap.size V w3 := below_drew (hb3.mono (by simp)); have y1 := Cx.keep hB4 v1; have y2 := Cx.keep hB4 v2))
          all_goals
            go_wp2
            go_roundw
            case measure => simp [vI]; omega
            case rel => exact ⟨j + 1, i64_eq (by omega), by omega, hBV.trans (hB4.mono hBV.size)⟩
        · have hB4 : Below w.heap.size w wr := hB2.trans (hB3.mono hB2.size)
          have hx0 := hX2.out.keep hB3
          have hy0 := hY2.out.keep hB3
          have hz0 := HZ.out.keep hB3
          have HH := Lib.hid (And.intro hB4 (And.intro hx0 (And.intro hy0 hz0)))
          clear hB4 hx0 hy0 hz0
          obtain ⟨hB4, hx0, hy0, hz0⟩ := HH.out
          obtain ⟨hL, hLc, hLn⟩ := HL.out
          obtain ⟨qX, qY, hXY, lX, lY⟩ := XO.out
          have hv8 : ∀ w', Below wr.heap.size wr w' → Sl w' 3 (.slice f8 n8 c8) (tv X) := fun w' h => hx0.keep h
          have hv9 : ∀ w', Below wr.heap.size wr w' → Sl w' 3 (.slice f9 n9 c9) (tv Y) := fun w' h => hy0.keep h
          have hvz : ∀ w', Below wr.heap.size wr w' → Sl w' 3 (.slice az nz cz) (tv (ctm L)) := fun w' h => hz0.keep h
          have hLI : ∀ p ∈ L, I64 p.1 := fun p hp => tok_I64 qX p.1 (by rw [← hLc, co_mem hL.1 hp]; exact hL.2 p hp)
          have qL : TOk 24 (ctm L) := LOk.tok fun p hp => ⟨hLI p hp, HLB.out p hp⟩
          have qL' : TOk 1000 (ctm L) := qL.mono (by decide)
          have hcf : ∀ w', Below wr.heap.size wr w' → (Fk.cf (co (prs X)) 3 1000).holds (.slice az nz cz) w' := fun w' h => ⟨L, hL, hLc, by rw [← hLn]; exact hnz3, qL', hvz w' h⟩
          have lX' : X.length ≤ 100 := by rw [lX]; decide
          have lY' : Y.length ≤ 100 := by rw [lY]; decide
          have lL' : (ctm L).length ≤ 100 := by rw [ctm_len, ← hLn]; omega
          have hsum : ∀ c, co (prs X) c + co (prs Y) c = 2 * co (prs X) c := fun c => by rw [hXY]; omega
          obtain ⟨n, hn⟩ : ∃ n, pg (co (prs X)) (prs X) = n := ⟨_, rfl⟩
          have hn1 : pg (co (prs X)) (prs Y) = n := by rw [hXY, hn]
          have hn2 : pg (co (prs (ctm L))) (prs (ctm L)) = n := by
            rw [prs_ctm, show co L = co (prs X) from funext hLc, ← hn]
            exact pg_congr _ _ _ _ (Nat.le_refl _) hLc
          have HF := Lib.hid (And.intro hv8 (And.intro hv9 (And.intro hvz (And.intro hcf (And.intro hsum (And.intro hn1 (And.intro hn2 (And.intro hB4 (And.intro qX (And.intro qY (And.intro hXY (And.intro lX lY))))))))))))
          have HQ := Lib.hid (And.intro qL (And.intro lL' (And.intro lX' lY')))
          clear hv8 hv9 hvz hcf hsum hn1 hn2 hB4 qX qY hXY lX lY qL lL' lX' lY' hn hL hLc hLn hLI qL' hx0 hy0 hz0
          go_wp2_with fail
          refine (svCanonT _ X 21 (co (prs X)) _ (HF.out.1 _ (Below.refl _ _)) HF.out.2.2.2.2.2.2.2.2.1 HQ.out.2.2.1 (by decide) 3 HF.out.2.2.2.2.2.2.2.2.2.2.2.1 (fun _ => rfl)).mono ?_
          rintro e w3 ⟨r3, rfl, k3, b3⟩
          go_wp2_with fail
          refine (svSameF _ _ _ _ _ _ _ _ (HF.out.2.2.2.1 _ b3) k3).mono ?_
          rintro e w4 ⟨r4, rfl, rfl, b4⟩
          have c4 : Below wr.heap.size wr w4 := b3.trans (b4.mono b3.size)
          clear k3 b3 b4
          go_wp2_with fail
          refine (chEqualT _ _ X Y 21 _ (HF.out.1 _ c4) (HF.out.2.1 _ c4) HF.out.2.2.2.2.2.2.2.2.1 HF.out.2.2.2.2.2.2.2.2.2.1 HQ.out.2.2.1 HQ.out.2.2.2 (by decide) (fun c => by rw [HF.out.2.2.2.2.2.2.2.2.2.2.1])).mono ?_
          rintro e w5 ⟨r5, rfl, rfl, b5⟩
          have c5 := c4.trans (b5.mono c4.size)
          clear b5
          go_wp2_with fail
          refine (chAddT _ _ X Y 21 (fun c => 2 * co (prs X) c) _ (HF.out.1 _ c5) (HF.out.2.1 _ c5) HF.out.2.2.2.2.2.2.2.2.1 HF.out.2.2.2.2.2.2.2.2.2.1 HQ.out.2.2.1 HQ.out.2.2.2 (by decide) 6 (by rw [HF.out.2.2.2.2.2.2.2.2.2.2.2.1, HF.out.2.2.2.2.2.2.2.2.2.2.2.2]) HF.out.2.2.2.2.1).mono ?_
          rintro e w6 ⟨r6, rfl, k6, b6⟩
          have c6 := c5.trans (b6.mono c5.size)
          clear b6
          go_wp2_with fail
          refine (refFrom 2 _ (by decide) (by decide)).mono ?_
          rintro e w7 ⟨rfl, b7⟩
          have k7 := Fk.keep k6 b7
          have c7 := c6.trans (b7.mono c6.size)
          clear b7 k6
          go_wp2_with fail
          refine (svScaleT _ X 21 (fun c => 2 * co (prs X) c) _ (HF.out.1 _ c7) HF.out.2.2.2.2.2.2.2.2.1 HQ.out.2.2.1 (by decide) 2 3 HF.out.2.2.2.2.2.2.2.2.2.2.2.1 (by unfold I64; decide) (fun _ => rfl)).mono ?_
          rintro e w8 ⟨r8, rfl, k8, b8⟩
          have k9 := Fk.keep k7 b8
          have c8 := c7.trans (b8.mono c7.size)
          clear b8 k7
          go_wp2_with fail
          refine (svSameF _ _ _ _ _ _ _ _ k9 k8).mono ?_
          rintro e w9 ⟨r9, rfl, rfl, b9⟩
          have c9 := c8.trans (b9.mono c8.size)
          clear b9 k8 k9
          go_wp2_with fail
          refine (chPairT _ _ X Y 21 _ (HF.out.1 _ c9) (HF.out.2.1 _ c9) HF.out.2.2.2.2.2.2.2.2.1 HF.out.2.2.2.2.2.2.2.2.2.1 HQ.out.2.2.1 HQ.out.2.2.2 (by decide) n HF.out.2.2.2.2.2.1).mono ?_
          rintro e w10 ⟨r10, rfl, rfl, b10⟩
          have c10 := c9.trans (b10.mono c9.size)
          clear b10
          go_wp2_with fail
          refine (svPairT _ _ (ctm L) (ctm L) 24 _ (HF.out.2.2.1 _ c10) (HF.out.2.2.1 _ c10) HQ.out.1 HQ.out.1 HQ.out.2.1 HQ.out.2.1 (by decide) n HF.out.2.2.2.2.2.2.1).mono ?_
          rintro e w11 ⟨r11, rfl, rfl, b11⟩
          have c11 := c10.trans (b11.mono c10.size)
          clear b11
          have heq : ∀ W : World, (Go.binOp .eql 46 (wv n) (wv n)).run Tryz.prog W = .ok (.bool true) W := fun W => eqX n W
          have hgd := eqgW
          go_wp2_with fail
          go_ret
          exact ⟨rfl, HF.out.2.2.2.2.2.2.2.1.trans (c11.mono HF.out.2.2.2.2.2.2.2.1.size)⟩

end Go.Proofs.YtfcmpolhcpbliaaGreatDoor
