/- cocycleref06: SameCell, Canon and Equal at equal complexes. Rows whose numbers are written to: what cocyclelaw07.ChainsKeeps does to results. cocyclelaw07.ChainsKeeps. Written by gen_keep.py out of LaV.src. -/
import Derived.Deep.CutRange
import Derived.Deep.DeepCutAuto
import Derived.Test.YtfcmpolhcpbliaaGreatDoorOn
import Derived.Test.YtfcmpolhcpbliaaGreatDoorOh
import Derived.Test.YtfcmpolhcpbliaaGreatDoorOi
import Derived.Test.YtfcmpolhcpbliaaGreatDoorOk
import Derived.Test.YtfcmpolhcpbliaaGreatDoorPa

namespace Go.Proofs.YtfcmpolhcpbliaaGreatDoor
open Go.RowKit Go.Cx
attribute [local go_sem ↓] Go.wp_at_zero Go.wp_at_succ

set_option maxRecDepth 100000 in
theorem neqSide (w : World) (c g : Int) : (Go.binOp .neq 88 (.agg #[.int .i64 c, .int .i64 g]) (.agg #[.int .i64 c, .int .i64 g])).run Tryz.prog w = .ok (.bool false) w := by
  have hp : Tryz.prog.stoodInHeld 88 = false := by kernel_rfl
  simp [go_sem, hp]
theorem eqgSide : Tryz.prog.eqGuardType Tryz.prog.depth 88 = false := by kernel_rfl

set_option maxRecDepth 100000 in
set_option maxHeartbeats 4000000 in
theorem smSame0 (u v : Value) (i d : Int) (s : List Sd) (w : World) (h : Sl w 2 u (cat Sd.enc s)) (k : Sl w 2 v (cat Sd.enc s)) :
    Calls Tryz.prog 78 #[.agg #[.int .i64 i, .int .i64 d, u], .agg #[.int .i64 i, .int .i64 d, v]] w fun e w' => e = .returned (.bool true) ∧ Below w.heap.size w w' := by
  obtain ⟨a, len, cap, rfl⟩ := sl_shape h
  obtain ⟨b, len', cap', rfl⟩ := sl_shape k
  have hl : s.length = len := by
    obtain ⟨_, _, h3, _⟩ := h.open
    rw [cat_len Sd.enc_len] at h3; omega
  have kl : s.length = len' := by
    obtain ⟨_, _, h3, _⟩ := k.open
    rw [cat_len Sd.enc_len] at h3; omega
  obtain rfl : len = len' := hl.symm.trans kl
  obtain ⟨hc1, hc2, _⟩ := h.open
  obtain ⟨kc1, kc2, _⟩ := k.open
  unfold maxLen at hc2 kc2
  have HH := Lib.hid (And.intro h (And.intro k hl))
  clear h k hl kl
  go_enter Tryz.func78, Tryz.ntmps78
  go_wp2
  obtain ⟨W, hW⟩ : ∃ W : World, W = (w.alloc (.cells #[.int .i64 i, .int .i64 d, .slice a len cap] 93)).alloc (.cells #[.int .i64 i, .int .i64 d, .slice b len cap'] 93) := ⟨_, rfl⟩
  rw [← hW]
  have p2 : W.cell? ⟨w.heap.size, 2, none⟩ = some (.slice a len cap) := by rw [hW]; exact keepAl (cell_new w #[.int .i64 i, .int .i64 d, .slice a len cap] 93 (0, 0) 2) _
  have q2 : W.cell? ⟨w.heap.size + 1, 2, none⟩ = some (.slice b len cap') := by
    rw [hW]
    have := cell_new (w.alloc (.cells #[.int .i64 i, .int .i64 d, .slice a len cap] 93)) #[.int .i64 i, .int .i64 d, .slice b len cap'] 93 (0, 0) 2
    rw [World.size_alloc] at this
    exact this
  have hw : Below w.heap.size w W := by rw [hW]; exact ((Below.refl _ _).alloc (Nat.le_refl _) _).alloc (by simp) _
  clear hW
  go_loopw [5] (fun i wr => ∃ j : Nat, i = .int .i64 j ∧ j ≤ len ∧ Below W.heap.size W wr) (fun i _ => len - (vI i).toNat)
  case atStart => exact ⟨0, rfl, Nat.zero_le _, Below.refl _ _⟩
  case round =>
    obtain ⟨j, rfl, hj, hB⟩ := hrel
    have p0 := Cx.keep hB p2
    have q0 := Cx.keep hB q2
    have hBw : Below w.heap.size w wr := hw.trans (hB.mono hw.size)
    by_cases hlt : j < len
    · obtain ⟨x, hx⟩ : ∃ x, s[j]? = some x := ⟨_, List.getElem?_eq_getElem (by rw [HH.out.2.2]; exact hlt)⟩
      obtain ⟨h2, h3, h4, h5, h6⟩ := HH.out.1.open
      obtain ⟨k2, k3, k4, k5, k6⟩ := HH.out.2.1.open
      obtain ⟨ad, hade⟩ : ∃ ad, a = some ad := by
        cases a with
        | none => have := h5 rfl; omega
        | some ad => exact ⟨ad, rfl⟩
      obtain ⟨bd, hbde⟩ : ∃ ad, b = some ad := by
        cases b with
        | none => have := k5 rfl; omega
        | some ad => exact ⟨ad, rfl⟩
      subst hade hbde
      obtain ⟨e0, e1⟩ := sd_get s j x hx
      have d0 : wr.cell? (ad.add (j * 2)) = some (.int .i64 x.c) := Cx.keep hBw (h6 ad rfl _ _ e0)
      have d1 : wr.cell? ⟨(ad.add (j * 2)).block, (ad.add (j * 2)).off + 1, none⟩ = some (.int .i64 x.g) := by rw [add_part _ _ _ (by omega)]; exact Cx.keep hBw (h6 ad rfl _ _ e1)
      have f0 : wr.cell? (bd.add (j * 2)) = some (.int .i64 x.c) := Cx.keep hBw (k6 bd rfl _ _ e0)
      have f1 : wr.cell? ⟨(bd.add (j * 2)).block, (bd.add (j * 2)).off + 1, none⟩ = some (.int .i64 x.g) := by rw [add_part _ _ _ (by omega)]; exact Cx.keep hBw (k6 bd rfl _ _ e1)
      have hne := fun W : World => neqSide W x.c x.g
      have hgd := eqgSide
      clear h2 h3 h4 h5 h6 k2 k3 k4 k5 k6 e0 e1 hx
      go_wp2
      go_quiet (fail)
      go_wp2
      go_roundw
      case measure => simp [vI]; omega
      case rel => exact ⟨j + 1, i64_eq (by omega), by omega, below_draws hB nq⟩
    · go_wp2
      go_ret
      exact ⟨rfl, hBw⟩

set_option maxRecDepth 100000 in
set_option maxHeartbeats 4000000 in
theorem smCanon (v : Value) (l : List Ce) (w : World) (h : SlC w v l) (hl : l.length ≤ 1099511627776) (hsl : ∀ x ∈ l, x.s.length ≤ 1099511627776) :
    Calls Tryz.prog 77 #[.agg #[v]] w fun e w' => ∃ r m, e = .returned (.agg #[r]) ∧ m.map Ce.cl = ordK (l.map Ce.cl) ∧ RowC w' w.heap.size r m ∧ Below w.heap.size w w' := by
  obtain ⟨a, len, cap, rfl⟩ := sl_shape h.1
  have HH := Lib.hid ((h.mono fun p u hc => keepAl hc (.cells #[.slice a len cap] 27)).mono fun p u hc => keepAl hc (.cells #[.slice none 0 0] 27))
  have HSL := Lib.hid hsl
  clear h hsl
  go_enter Tryz.func77, Tryz.ntmps77
  go_wp2_with fail
  refine (smOrdered _ _ l _ rfl HH.out hl HSL.out).mono ?_
  rintro e w1 ⟨r, M, rfl, hM, hR, hb1⟩
  obtain ⟨ma, mc, hre⟩ := ownsRow_len hR.1
  subst hre
  have c0 : w1.cell? ⟨w.heap.size + 1, 0, none⟩ = some (.slice none 0 0) := by
    refine Cx.keep hb1 ?_
    have := cell_new (w.alloc (.cells #[.slice a len cap] 27)) #[.slice none 0 0] 27 (0, 0) 0
    rw [World.size_alloc] at this
    exact this
  have z0 : w1.frozen? ⟨w.heap.size + 1, 0, none⟩ = false := by
    have hb := Bv.new (w.alloc (.cells #[.slice a len cap] 27)) (.slice none 0 0) 27
    have := hb.keep hb1
    rw [World.size_alloc] at this
    exact this.2
  have HR := Lib.hid (And.intro hM (And.intro hR hb1))
  clear hM hR hb1
  go_wp2_with fail
  refine bodyPost_ret (v := .agg #[.slice ma M.length mc]) (by simp [results, Tryz.results77, go_sem, (Bv.put (w := w1) (b := w.heap.size + 1) ⟨c0, z0⟩ (.slice ma M.length mc)).1]) rfl ?_
  obtain ⟨hM, hR, hb1⟩ := HR.out
  have hsz : (((w.alloc (.cells #[.slice a len cap] 27)).alloc (.cells #[.slice none 0 0] 27)).heap.size) = w.heap.size + 2 := by simp
  rw [hsz] at hR
  exact ⟨_, M, rfl, hM, (hR.set (by show w.heap.size + 1 < _; omega) _).mono (by omega), (((Below.refl _ w).alloc (Nat.le_refl _) _).alloc (by simp) _ |>.trans (hb1.mono (by rw [hsz]; omega))).setCell (by show w.heap.size ≤ _; simp) _⟩

set_option maxRecDepth 100000 in
set_option maxHeartbeats 4000000 in
theorem smEqual0 (u v : Value) (l m : List Ce) (w : World) (h : SlC w u l) (k : SlC w v m) (he : l.map Ce.cl = m.map Ce.cl) (hl : l.length ≤ 1099511627776) (hsl : ∀ x ∈ l, x.s.length ≤ 1099511627776) (hsm : ∀ x ∈ m, x.s.length ≤ 1099511627776) :
    Calls Tryz.prog 46 #[.agg #[u], .agg #[v]] w fun e w' => e = .returned (.bool true) ∧ Below w.heap.size w w' := by
  obtain ⟨a, len, cap, rfl⟩ := sl_shape h.1
  obtain ⟨b, len', cap', rfl⟩ := sl_shape k.1
  have hlm : l.length = m.length := by simpa using congrArg List.length he
  have hk2 := (k.mono fun p u hc => keepAl hc (.cells #[.slice a len cap] 27)).mono fun p u hc => keepAl hc (.cells #[.slice b len' cap'] 27)
  have hh2 := (h.mono fun p u hc => keepAl hc (.cells #[.slice a len cap] 27)).mono fun p u hc => keepAl hc (.cells #[.slice b len' cap'] 27)
  have HH := Lib.hid (And.intro hh2 (And.intro hk2 (And.intro he (And.intro hlm (And.intro hsl hsm)))))
  clear h k hsl hsm he hlm hk2 hh2
  go_enter Tryz.func46, Tryz.ntmps46
  have hfld := fldComplex
  go_wp2_with fail
  obtain ⟨W, hW⟩ : ∃ W : World, W = (w.alloc (.cells #[.slice a len cap] 27)).alloc (.cells #[.slice b len' cap'] 27) := ⟨_, rfl⟩
  rw [← hW] at HH ⊢
  have hw : Below w.heap.size w W := by rw [hW]; exact ((Below.refl _ _).alloc (Nat.le_refl _) _).alloc (by simp) _
  have q1 : W.cell? ⟨w.heap.size + 1, 0, none⟩ = some (.slice b len' cap') := by
    rw [hW]
    have := cell_new (w.alloc (.cells #[.slice a len cap] 27)) #[.slice b len' cap'] 27 (0, 0) 0
    rw [World.size_alloc] at this
    exact this
  clear hW
  refine (smCanon _ l _ HH.out.1 hl HH.out.2.2.2.2.1).mono ?_
  rintro e w1 ⟨r1, A, rfl, hA, hRA, hb1⟩
  obtain ⟨aa, ac, hae⟩ := ownsRow_len hRA.1
  subst hae
  replace q1 := Cx.keep hb1 q1
  have HA := Lib.hid (And.intro hA (And.intro hRA hb1))
  clear hA hRA hb1
  go_wp2_with fail
  refine (smCanon _ m _ (HH.out.2.1.mono fun p u hc => Cx.keep HA.out.2.2 hc) (by have := HH.out.2.2.2.1; omega) HH.out.2.2.2.2.2).mono ?_
  rintro e w2 ⟨r2, B, rfl, hB, hRB, hb2⟩
  obtain ⟨ba, bc, hbe⟩ := ownsRow_len hRB.1
  subst hbe
  obtain ⟨n, hn⟩ : ∃ n, n = A.length := ⟨_, rfl⟩
  have hcl : A.map Ce.cl = B.map Ce.cl := by rw [HA.out.1, hB, HH.out.2.2.1]
  have hnB : n = B.length := by rw [hn]; simpa using congrArg List.length hcl
  have hsA : SlC w2 (.slice aa A.length ac) A := HA.out.2.1.slc.mono fun p u hc => Cx.keep hb2 hc
  have hsB := hRB.slc
  have hBw : Below w.heap.size w w2 := hw.trans ((HA.out.2.2.mono hw.size).trans (hb2.mono (Nat.le_trans hw.size HA.out.2.2.size)))
  rw [← hn] at hsA ⊢
  rw [← hnB] at hsB ⊢
  obtain ⟨g1, g2, _⟩ := hsA.1.open
  obtain ⟨g3, g4, _⟩ := hsB.1.open
  unfold maxLen at g2 g4
  have HF := Lib.hid (And.intro hn (And.intro hnB (And.intro hcl (And.intro hsA (And.intro hsB hBw)))))
  clear hn hnB hcl hsA hsB hBw hB hRB hb2 hw q1
  go_wp2_with fail
  go_loopw [7] (fun i wr => ∃ j : Nat, i = .int .i64 j ∧ j ≤ n ∧ Below w2.heap.size w2 wr) (fun i _ => n - (vI i).toNat)
  case atStart => exact ⟨0, rfl, Nat.zero_le _, Below.refl _ _⟩
  case round =>
    obtain ⟨j, rfl, hj, hB⟩ := hrel
    obtain ⟨hn, hnB, hcl, hsA, hsB, hBw⟩ := HF.out
    by_cases hlt : j < n
    · obtain ⟨x, hx⟩ : ∃ x, A[j]? = some x := ⟨_, List.getElem?_eq_getElem (by rw [← hn]; exact hlt)⟩
      obtain ⟨y, hy⟩ : ∃ y, B[j]? = some y := ⟨_, List.getElem?_eq_getElem (by rw [← hnB]; exact hlt)⟩
      have hxy : x.cl = y.cl := by
        have h1 := congrArg (fun l => l[j]?) hcl
        simp only [List.getElem?_map, hx, hy, Option.map_some, Option.some.injEq] at h1
        exact h1
      obtain ⟨yi, yd, ya, yn, yc, ys⟩ := y
      obtain ⟨xi, xd, xa, xn, xc, xs⟩ := x
      obtain ⟨rfl, rfl, rfl⟩ : xi = yi ∧ xd = yd ∧ xs = ys := by
        have h1 := congrArg Cl.id hxy
        have h2 := congrArg Cl.dim hxy
        have h3 := congrArg Cl.s hxy
        exact ⟨h1, h2, h3⟩
      obtain ⟨h2, h3, h4, h5, h6⟩ := hsA.1.open
      obtain ⟨k2, k3, k4, k5, k6⟩ := hsB.1.open
      obtain ⟨ad, hade⟩ : ∃ ad, aa = some ad := by
        cases aa with
        | none => have := h5 rfl; omega
        | some ad => exact ⟨ad, rfl⟩
      obtain ⟨bd, hbde⟩ : ∃ ad, ba = some ad := by
        cases ba with
        | none => have := k5 rfl; omega
        | some ad => exact ⟨ad, rfl⟩
      subst hade hbde
      obtain ⟨e0, e1, e2⟩ := ce_get A j _ hx
      obtain ⟨e3, e4, e5⟩ := ce_get B j _ hy
      have d0 : wr.cell? (ad.add (j * 3)) = some (.int .i64 xi) := Cx.keep hB (h6 ad rfl _ _ e0)
      have d1 : wr.cell? ⟨(ad.add (j * 3)).block, (ad.add (j * 3)).off + 1, none⟩ = some (.int .i64 xd) := by rw [add_part _ _ _ (by omega)]; exact Cx.keep hB (h6 ad rfl _ _ e1)
      have d2 : wr.cell? ⟨(ad.add (j * 3)).block, (ad.add (j * 3)).off + 2, none⟩ = some (.slice xa xn xc) := by rw [add_part _ _ _ (by omega)]; exact Cx.keep hB (h6 ad rfl _ _ e2)
      have f0 : wr.cell? (bd.add (j * 3)) = some (.int .i64 xi) := Cx.keep hB (k6 bd rfl _ _ e3)
      have f1 : wr.cell? ⟨(bd.add (j * 3)).block, (bd.add (j * 3)).off + 1, none⟩ = some (.int .i64 xd) := by rw [add_part _ _ _ (by omega)]; exact Cx.keep hB (k6 bd rfl _ _ e4)
      have f2 : wr.cell? ⟨(bd.add (j * 3)).block, (bd.add (j * 3)).off + 2, none⟩ = some (.slice ya yn yc) := by rw [add_part _ _ _ (by omega)]; exact Cx.keep hB (k6 bd rfl _ _ e5)
      have hsx : ∀ w', Below wr.heap.size wr w' → Sl w' 2 (.slice xa xn xc) (cat Sd.enc xs) := fun w' h => ((hsA.2 _ (List.mem_of_getElem? hx)).keep hB).keep h
      have hsy : ∀ w', Below wr.heap.size wr w' → Sl w' 2 (.slice ya yn yc) (cat Sd.enc xs) := fun w' h => ((hsB.2 _ (List.mem_of_getElem? hy)).keep hB).keep h
      have HSS := Lib.hid (And.intro hsx hsy)
      have hdr : Below wr.heap.size wr wr.drew := below_draws (Below.refl _ wr) 1
      clear h2 h3 h4 h5 h6 k2 k3 k4 k5 k6 e0 e1 e2 e3 e4 e5 hsx hsy hxy hcl hx hy hsA hsB hn hnB
      go_wp2_with fail
      go_region_held3 (fun w' => w'.cell? (ad.add (j * 3)) = some (.int .i64 xi) ∧ w'.cell? ⟨(ad.add (j * 3)).block, (ad.add (j * 3)).off + 1, none⟩ = some (.int .i64 xd) ∧ w'.cell? ⟨(ad.add (j * 3)).block, (ad.add (j * 3)).off + 2, none⟩ = some (.slice xa xn xc) ∧ w'.cell? (bd.add (j * 3)) = some (.int .i64 xi) ∧ w'.cell? ⟨(bd.add (j * 3)).block, (bd.add (j * 3)).off + 1, none⟩ = some (.int .i64 xd) ∧ w'.cell? ⟨(bd.add (j * 3)).block, (bd.add (j * 3)).off + 2, none⟩ = some (.slice ya yn yc))
        (first | exact ⟨by assumption, by assumption, by assumption, by assumption, by assumption, by assumption⟩)
        (first
          | (go_at_call 78; refine (smSame0 _ _ xi xd xs _ (HSS.out.1 _ hdr) (HSS.out.2 _ hdr)).mono ?_; rintro e w3 ⟨rfl, hb3⟩; have hB3 : Below wr.heap.size wr w3 := hdr.trans (hb3.mono hdr.size); have a0 := Cx.keep hB3 d0; have a1 := Cx.keep hB3 d1; have a2 := Cx.keep hB3 d2; have a3 := Cx.keep hB3 f0; have a4 := Cx.keep hB3 f1; have a5 := Cx.keep hB3 f2; have HB3 := Lib.hid hB3))
      go_wp2
      go_roundw
      case measure => simp [vI]; omega
      case rel => exact ⟨j + 1, i64_eq (by omega), by omega, hB.trans (HB3.out.mono hB.size)⟩
    · go_wp2
      go_ret
      exact ⟨rfl, hBw.trans (hB.mono hBw.size)⟩

end Go.Proofs.YtfcmpolhcpbliaaGreatDoor

namespace Go.Proofs.YtfcmpolhcpbliaaGreatDoor
open Go.RowKit Go.Cx

theorem cell_setC {w : World} {a p : Addr} {u x : Value} (h : w.cell? p = some x) (hne : p ≠ a) : (w.setCell a u).cell? p = some x := by
  rw [World.cell?_setCell_other _ _ _ _ (fun e => hne e.symm)]; exact h
/-- A row of terms whose cells' numbers may be written. -/
def RowI (w : World) (b B : Nat) (v : Value) : Prop := ∃ a n c, v = .slice a n c ∧ n ≤ c ∧ c ≤ maxLen ∧ (a = none → n = 0) ∧ ∀ ad, a = some ad → (b ≤ ad.block ∧ ad.block < B) ∧ ∀ k, k < n → ∃ x, w.cell? (ad.add (k * 3)) = some (.int .i64 x) ∧ w.frozen? (ad.add (k * 3)) = false
theorem RowI.of {w : World} {b : Nat} {v : Value} {L : List (Int × Int)} (h : w.ownsRow b 63 3 v L.length (tv (ctm L))) : RowI w b w.heap.size v := by
  have hs := Sl.of_ownsRow h
  rcases h.2 with ⟨rfl, h0⟩ | ⟨g, cap, cur, rfl, hb, hg, hn, hm, hcs, ht⟩
  · exact ⟨none, 0, 0, rfl, Nat.le_refl _, Nat.zero_le _, fun _ => rfl, fun ad h => by cases h⟩
  · refine ⟨some ⟨g, 0, none⟩, L.length, cap, rfl, hn, hm, fun e => (by cases e), fun ad had => ?_⟩
    obtain rfl := Option.some.inj had
    refine ⟨⟨hb, (Array.getElem?_eq_some_iff.1 hg).1⟩, fun k hk => ?_⟩
    obtain ⟨_, _, _, _, h6⟩ := hs.open
    obtain ⟨p, hp⟩ : ∃ p, L[k]? = some p := ⟨_, List.getElem?_eq_getElem hk⟩
    have hpt : (ctm L)[k]? = some ⟨p.1, decide (p.2 < 0), mg p.2⟩ := by unfold ctm; rw [List.getElem?_map, hp]; rfl
    exact ⟨p.1, h6 _ rfl _ _ (tv_get (ctm L) k _ hpt).1, by rw [show (⟨g, 0, none⟩ : Addr).add (k * 3) = ⟨g, k * 3, none⟩ by simp [Addr.add]; intro h; omega]; exact free_at hg _⟩
theorem RowI.keep {w w' : World} {b B : Nat} {v : Value} (h : RowI w b B v) (hb : Below w.heap.size w w') : RowI w' b B v := by
  obtain ⟨a, n, c, rfl, h1, h2, h3, h4⟩ := h
  refine ⟨a, n, c, rfl, h1, h2, h3, fun ad had => ⟨(h4 ad had).1, fun k hk => ?_⟩⟩
  obtain ⟨x, h5, h6⟩ := (h4 ad had).2 k hk
  exact ⟨x, Cx.keep hb h5, frozen_keepB hb (World.block_lt_of_cell? w _ h5) h6⟩
theorem RowI.mono {w : World} {b B B' : Nat} {v : Value} (h : RowI w b B v) (hB : B ≤ B') : RowI w b B' v := by
  obtain ⟨a, n, c, rfl, h1, h2, h3, h4⟩ := h
  exact ⟨a, n, c, rfl, h1, h2, h3, fun ad had => ⟨⟨(h4 ad had).1.1, Nat.lt_of_lt_of_le (h4 ad had).1.2 hB⟩, (h4 ad had).2⟩⟩
theorem RowI.set {w : World} {b B : Nat} {v : Value} (h : RowI w b B v) (p : Addr) (y z : Int) (hp : w.cell? p = some (.int .i64 z)) : RowI (w.setCell p (.int .i64 y)) b B v := by
  obtain ⟨a, n, c, rfl, h1, h2, h3, h4⟩ := h
  refine ⟨a, n, c, rfl, h1, h2, h3, fun ad had => ⟨(h4 ad had).1, fun k hk => ?_⟩⟩
  obtain ⟨x, h5, h6⟩ := (h4 ad had).2 k hk
  by_cases he : ad.add (k * 3) = p
  · refine ⟨y, ?_, by simpa [World.frozen?_setCell] using h6⟩
    rw [he]
    exact World.cell?_setCell_same' _ _ _ (by rw [hp]; rfl)
  · exact ⟨x, cell_setC h5 he, by simpa [World.frozen?_setCell] using h6⟩
/-- A slice of rows, at block B; the rows lie from block b on, ahead of B. -/
def RowsI (w : World) (b B : Nat) (vs : List Value) : Prop := b ≤ B ∧ ∀ i v, vs[i]? = some v → w.cell? ⟨B, i, none⟩ = some v ∧ RowI w b B v
theorem RowsI.keep {w w' : World} {b B : Nat} {vs : List Value} (h : RowsI w b B vs) (hb : Below w.heap.size w w') : RowsI w' b B vs :=
  ⟨h.1, fun i v hv => ⟨Cx.keep hb (h.2 i v hv).1, (h.2 i v hv).2.keep hb⟩⟩
theorem RowsI.set {w : World} {b B : Nat} {vs : List Value} (h : RowsI w b B vs) (p : Addr) (y z : Int) (hp : w.cell? p = some (.int .i64 z)) (hB : p.block < B) : RowsI (w.setCell p (.int .i64 y)) b B vs :=
  ⟨h.1, fun i v hv => ⟨cell_set (h.2 i v hv).1 (by show B ≠ p.block; omega), (h.2 i v hv).2.set p y z hp⟩⟩

/-- What the operations of a region that makes a slice of rows yield. -/
inductive Kk
  | any
  | val (v : Value)
  | row (b : Nat)
  | rows (b n : Nat)
def Kk.holds : Kk → Value → World → Prop
  | .any, _, _ => True
  | .val x, v, _ => v = x
  | .row b, v, w => RowI w b w.heap.size v
  | .rows b n, v, w => ∃ B vs, v = .slice (some ⟨B, 0, none⟩) n n ∧ vs.length = n ∧ RowsI w b B vs
theorem Kk.keep {k : Kk} {v : Value} {w w' : World} (h : k.holds v w) (hb : Below w.heap.size w w') : k.holds v w' := by
  cases k with
  | any => trivial
  | val x => exact h
  | row b => exact (RowI.keep h hb).mono hb.size
  | rows b n => obtain ⟨B, vs, h1, h2, h3⟩ := h; exact ⟨B, vs, h1, h2, h3.keep hb⟩
theorem row_of {w w' : World} {r : Value} {f : Int → Int} {N b : Nat} (h : CRes w w' r f N) (hb : b ≤ w.heap.size) : (Kk.row b).holds r w' := by
  obtain ⟨⟨L, _, _, _, h4⟩, _⟩ := h
  exact RowI.of (ownsRow_mono h4 hb)
theorem Tryz.infoST : (Tryz.prog.info? 30).map (fun i => (i.zero, i.size, i.bytes)) = some (some (.slice none 0 0), 1, 24) := by kernel_rfl
theorem RowsI.new {w : World} {b : Nat} (hb : b ≤ w.heap.size) {vs : List Value} (h : ∀ v ∈ vs, RowI w b w.heap.size v) (t : TypeId) : RowsI (w.alloc (.cells vs.toArray t)) b w.heap.size vs :=
  ⟨hb, fun i v hv => ⟨by rw [cell_new]; simpa using hv, (h v (List.mem_of_getElem? hv)).keep ((Below.refl _ w).alloc (Nat.le_refl _) _)⟩⟩

theorem do_len {Q : Exit → Act → World → Prop} {K : Act → World → Prop} {o : Oper} {a : Act} {w : World} {t e : TypeId} (x : Operand) (hop : o.op = .call { callee := .builtin .len, args := #[x], argTypes := #[t] }) (ht : Tryz.prog.underlying t = some (.slice e)) (ad : Option Addr) (n c : Nat) (hx : a.eval x = .slice ad n c) (h : K (a.put o.dst (.int .i64 n)) w) : Oper.wp Tryz.prog o a w K Q := by
  unfold Oper.wp
  have : (execOp a.eval o).run Tryz.prog w = .ok (.value (.int .i64 n)) w := by
    generalize a.eval = ρ at hx
    simp [execOp, hop, resolve, invoke, hx, builtin, Builtin.len_, run_underlying ht, goInt, Result.andThen]
  rw [this]
  exact h

theorem build5 (w : World) (x0 x1 x2 x3 x4 : Value) (h0 : ∃ a n c, x0 = .slice a n c) (h1 : ∃ a n c, x1 = .slice a n c) (h2 : ∃ a n c, x2 = .slice a n c) (h3 : ∃ a n c, x3 = .slice a n c) (h4 : ∃ a n c, x4 = .slice a n c) : (Instr.buildSlice 33 5 #[(0, x0), (1, x1), (2, x2), (3, x3), (4, x4)]).run Tryz.prog w = .ok (.slice (some ⟨w.heap.size, 0, none⟩) 5 5) (w.alloc (.cells #[x0, x1, x2, x3, x4] 30)) := by
  obtain ⟨a0, n0, c0, rfl⟩ := h0
  obtain ⟨a1, n1, c1, rfl⟩ := h1
  obtain ⟨a2, n2, c2, rfl⟩ := h2
  obtain ⟨a3, n3, c3, rfl⟩ := h3
  obtain ⟨a4, n4, c4, rfl⟩ := h4
  exact build_run w _ _ _ _ _ _ 1 24 Tryz.underlying33 Tryz.infoST (by omega) (by omega) (by kernel_rfl)
theorem RowI.shape {w : World} {b B : Nat} {v : Value} (h : RowI w b B v) : ∃ a n c, v = .slice a n c := by
  obtain ⟨a, n, c, h, _⟩ := h
  exact ⟨a, n, c, h⟩
theorem RowI.none {w : World} {b B n c : Nat} (h : RowI w b B (.slice none n c)) : n = 0 := by
  obtain ⟨a, n', c', he, _, _, h3, _⟩ := h
  injection he with h4 h5 h6
  subst h4 h5
  exact h3 rfl
theorem RowI.at {w : World} {b B n c : Nat} {ad : Addr} (h : RowI w b B (.slice (some ad) n c)) {k : Nat} (hk : k < n) : (b ≤ ad.block ∧ ad.block < B) ∧ ∃ x, w.cell? (ad.add (k * 3)) = some (.int .i64 x) ∧ w.frozen? (ad.add (k * 3)) = false := by
  obtain ⟨a, n', c', he, _, _, _, h4⟩ := h
  injection he with h5 h6 h7
  subst h5 h6
  exact ⟨(h4 ad rfl).1, (h4 ad rfl).2 k hk⟩

end Go.Proofs.YtfcmpolhcpbliaaGreatDoor

namespace Go.Proofs.YtfcmpolhcpbliaaGreatDoor
open Go.RowKit Go.Cx
attribute [local go_sem ↓] Go.wp_at_zero Go.wp_at_succ

theorem smEqF (u v : Value) (K : List Cl) (w : World) (h : (Fk.cx K).holds (.agg #[u]) w) (k : (Fk.cx K).holds (.agg #[v]) w) (hK : KOk K) (hl : K.length ≤ 1000) : Calls Tryz.prog 46 #[.agg #[u], .agg #[v]] w (Gives .tt w) := by
  obtain ⟨x, l, hx, h1, h2⟩ := h
  obtain ⟨y, m, hy, k1, k2⟩ := k
  obtain rfl : u = x := by injection hx with e; exact congrArg (fun a : Array Value => a.getD 0 undef) e
  obtain rfl : v = y := by injection hy with e; exact congrArg (fun a : Array Value => a.getD 0 undef) e
  have hc := hK.cok h2
  have hm := hK.cok k2
  exact (smEqual0 u v l m w h1 k1 (h2.trans k2.symm) (by rw [← h2, List.length_map] at hl; omega) (fun x hx => (hc x hx).2.1) (fun x hx => (hm x hx).2.1)).mono fun e w' ⟨he, hb⟩ => ⟨_, he, rfl, hb⟩
theorem ef_ref06_Equal : ∀ args w, (callFunc 46 args).run Tryz.prog w = .ok (.enter 46 args) w := enter_fn Tryz.func46 (by kernel_rfl) (by kernel_rfl)
theorem add_lo (a : Addr) (n : Nat) : (a.add n).block = a.block := by unfold Addr.add; split <;> rfl
set_option maxRecDepth 100000 in
set_option maxHeartbeats 4000000 in
theorem laKeeps (v0 v1 : Value) (l : List Int) (la : List (Int × Int)) (w : World) (h0 : Sl w 1 v0 (ints l)) (h1 : Sl w 2 v1 (pv la)) (r1 : ∀ p ∈ la, I64 p.1 ∧ I64 p.2) :
    Calls Tryz.prog 10 #[v0, v1] w fun e w' => e = .returned (.bool true) ∧ Below w.heap.size w w' := by
  obtain ⟨a0, k0, c0, rfl⟩ := sl_shape h0
  obtain ⟨a1, k1, c1, rfl⟩ := sl_shape h1
  have H := Lib.hid (And.intro h0 h1)
  clear h0 h1
  go_enter Tryz.func10, Tryz.ntmps10
  go_wp2_with fail
  refine (laSanity _).mono ?_
  rintro e w1 ⟨rfl, hb1⟩
  go_wp2_with fail
  refine (smSimplices _ l _ (H.out.1.keep hb1)).mono ?_
  rintro e w2 ⟨r, m, rfl, hm, hR, hb2⟩
  obtain ⟨ua, uc, hue⟩ := ownsRow_len hR.1
  subst hue
  have hB2 : Below w.heap.size w w2 := hb1.trans (hb2.mono hb1.size)
  have HC := Lib.hid (And.intro hm hR.slc)
  have HB2 := Lib.hid hB2
  clear hm hR hb1 hb2 hB2
  go_wp2_with fail
  refine (smSimplices _ l _ (H.out.1.keep HB2.out)).mono ?_
  rintro e w3 ⟨r, m2, rfl, hm2, hR2, hb3⟩
  obtain ⟨ub, ud, hue⟩ := ownsRow_len hR2.1
  subst hue
  have HC2 := Lib.hid (And.intro hm2 hR2.slc)
  have HB3 := Lib.hid hb3
  clear hm2 hR2 hb3
  go_wp2_with fail
  obtain ⟨W1, hW1⟩ : ∃ W1 : World, W1 = (w3.alloc (.cells #[.slice ua m.length uc] 27)).alloc (.cells #[.slice ub m2.length ud] 27) := ⟨_, rfl⟩
  rw [← hW1]
  have hB31 : Below w3.heap.size w3 W1 := by rw [hW1]; exact ((Below.refl _ _).alloc (Nat.le_refl _) _).alloc (by simp) _
  have hBw : Below w.heap.size w W1 := HB2.out.trans ((HB3.out.mono HB2.out.size).trans (hB31.mono (Nat.le_trans HB2.out.size HB3.out.size)))
  have hca : (Fk.cx (simpN l)).holds (.agg #[.slice ua m.length uc]) W1 := ⟨_, m, rfl, (HC.out.2.mono fun p u hc => Cx.keep HB3.out hc).mono fun p u hc => Cx.keep hB31 hc, HC.out.1⟩
  have hcb : (Fk.cx (simpN l)).holds (.agg #[.slice ub m2.length ud]) W1 := ⟨_, m2, rfl, HC2.out.2.mono fun p u hc => Cx.keep hB31 hc, HC2.out.1⟩
  have hba : Bv W1 w3.heap.size (.slice ua m.length uc) := by rw [hW1]; exact (Bv.new w3 _ _).alloc _
  have hbb : Bv W1 (w3.heap.size + 1) (.slice ub m2.length ud) := by
    rw [hW1]
    have := Bv.new (w3.alloc (.cells #[.slice ua m.length uc] 27)) (.slice ub m2.length ud) 27
    rw [World.size_alloc] at this
    exact this
  have H1 := Lib.hid (And.intro hBw (And.intro hca (And.intro hcb (And.intro hba hbb))))
  clear hB31 hBw hca hcb hba hbb hW1
  refine (svTermsF _ la W1.heap.size _ (H.out.2.keep H1.out.1) r1 (Nat.le_refl _)).mono ?_
  rintro e w4 ⟨v8, rfl, hx, hb4⟩
  have hX4 := Lib.hid (And.intro hx hb4)
  clear hx hb4
  go_wp2_with fail
  refine (svTermsF _ la W1.heap.size _ (H.out.2.keep (H1.out.1.trans (hX4.out.2.mono H1.out.1.size))) r1 hX4.out.2.size).mono ?_
  rintro e w5 ⟨v9, rfl, hy, hb5⟩
  have hX5 := Lib.hid (And.intro hy hb5)
  clear hy hb5
  go_wp2_with fail
  refine (refFrom 1 _ (by decide) (by decide)).mono ?_
  rintro e w6 ⟨rfl, hb6⟩
  rw [show wv 1 = .agg #[.bool (decide ((1 : Int) < 0)), .string (mg 1)] from rfl]
  have hX6 := Lib.hid hb6
  clear hb6
  go_wp2_with fail
  obtain ⟨W0, hW0⟩ : ∃ W0 : World, W0 = w6.alloc (.cells #[.bool false, .string (mg 1)] 46) := ⟨_, rfl⟩
  rw [← hW0]
  have hB60 : Below w6.heap.size w6 W0 := by rw [hW0]; exact (Below.refl _ _).alloc (Nat.le_refl _) _
  have hB50 : Below w5.heap.size w5 W0 := hX6.out.trans (hB60.mono hX6.out.size)
  have hB40 : Below w4.heap.size w4 W0 := hX5.out.2.trans (hB50.mono hX5.out.2.size)
  have hB10 : Below W1.heap.size W1 W0 := hX4.out.2.trans (hB40.mono hX4.out.2.size)
  have hBw : Below w.heap.size w W0 := H1.out.1.trans (hB10.mono H1.out.1.size)
  obtain ⟨L, hL⟩ : ∃ L, L = la.take 30 := ⟨_, rfl⟩
  have q1 : LOk 8 L := hL ▸ lok8 r1
  have len1 : (ctm L).length ≤ 30 := by rw [ctm_len, hL]; simp; omega
  have s8 : Sl W0 3 v8 (tv (ctm L)) := by
    have := Sl.of_ownsRow hX4.out.1.2
    rw [← hL] at this
    exact this.keep hB40
  have s9 : Sl W0 3 v9 (tv (ctm L)) := by
    have := Sl.of_ownsRow hX5.out.1.2
    rw [← hL] at this
    exact this.keep hB50
  obtain ⟨K, hKe⟩ : ∃ K, K = simpN l := ⟨_, rfl⟩
  have hok := simpN_ok l
  have hca := Fk.keep (k := .cx (simpN l)) H1.out.2.1 hB10
  have hcb := Fk.keep (k := .cx (simpN l)) H1.out.2.2.1 hB10
  rw [← hKe] at hok hca hcb
  obtain ⟨hK, hR, hKl⟩ := hok
  have hba := H1.out.2.2.2.1.keep hB10
  have hbb := H1.out.2.2.2.2.keep hB10
  have hbw : Bx W0 w6.heap.size (decide ((1 : Int) < 0)) (mg 1) := by rw [hW0, show decide ((1 : Int) < 0) = false from rfl]; exact Bx.new w6 _ _ _
  have HH := Lib.hid (And.intro hBw (And.intro s8 (And.intro s9 (And.intro hR (And.intro hca (And.intro hcb (And.intro hba (And.intro hbb hbw))))))))
  clear hB60 hB50 hB40 hB10 hBw s8 s9 hca hcb hba hbb hbw hW0 hKe hL hR
  go_cut [37, 38, 39] from 24 to 36 (fun p q r wx => ∃ (B : Nat) (vs : List Value), p = .slice (some ⟨B, 0, none⟩) 5 5 ∧ q = .int .i64 5 ∧ r = .int .i64 0 ∧ vs.length = 5 ∧ Hid (RowsI wx W0.heap.size B vs) ∧ Hid (Below W0.heap.size W0 wx))
  case first =>
    rename_i J K2 hJ hK2
    obtain ⟨hBw, s8, s9, hR, hca, hcb, hba, hbb, hbw⟩ := HH.out
    have hv8 : ∀ w', Below W0.heap.size W0 w' → Sl w' 3 v8 (tv (ctm L)) := fun w' h => s8.keep h
    have hwl : w6.heap.size < W0.heap.size := World.block_lt_of_cell? W0 _ hbw.1
    obtain ⟨xa, ma, hxa, hsa, hma⟩ := hca
    have hxe : xa = .slice ua m.length uc := by
      injection hxa with h1
      have := congrArg (fun a : Array Value => a.getD 0 undef) h1
      exact this.symm
    subst hxe
    have hcok := hK.cok hma
    have hraw : (raws ma).length ≤ 720 := by rw [raws_cl, hma]; exact hR
    have hcx : ∀ w', Below W0.heap.size W0 w' → SlC w' (.slice ua m.length uc) ma := fun w' h => hsa.mono fun p u hc => Cx.keep h hc
    refine region_facts rfl (fun i v w => (([.val v8, .row W0.heap.size, .val v8, .row W0.heap.size, .val (wv 1), .val v8, .row W0.heap.size, .val (.agg #[.slice ua m.length uc]), .val v8, .row W0.heap.size, .val (.agg #[.slice ua m.length uc]), .val v8, .row W0.heap.size, .rows W0.heap.size 5, .val (.int .i64 5), .val (.int .i64 0)] : List Kk).getD i .any).holds v w) 83 rfl (by kernel_rfl) (by kernel_rfl) ?hF ?step ?done
    case hF => exact fun i v w w' h hb => Kk.keep h hb
    case step =>
      intro i o ho a w' hw hd hbase hsz
      have ht8 := hbase 8 (noDst_spec (by kernel_rfl))
      have ht6 := hbase 6 (noDst_spec (by kernel_rfl))
      have ht10 := hbase 10 (noDst_spec (by kernel_rfl))
      match i, ho, hd with
      | 0, ho, hd =>
        obtain rfl := Option.some.inj ho
        exact ⟨rfl, do_move _ (.inl rfl) ⟨_, rfl, ht8, Below.refl _ _⟩⟩
      | 1, ho, hd =>
        obtain rfl := Option.some.inj ho
        have f0 : a.tmps.getD 24 undef = v8 := hd 0 _ _ rfl rfl (by kernel_rfl)
        exact ⟨rfl, do_call _ _ _ rfl ef_chains_Canon #[v8] (by simp [Act.eval, f0]) ((chCanon v8 (ctm L) 8 _ (hv8 _ hw) q1.tok (by omega)).mono fun e w3 ⟨r, he, hc⟩ => ⟨r, he, r, rfl, row_of hc hw.size, hc.below⟩)⟩
      | 2, ho, hd =>
        obtain rfl := Option.some.inj ho
        exact ⟨rfl, do_move _ (.inl rfl) ⟨_, rfl, ht8, Below.refl _ _⟩⟩
      | 3, ho, hd =>
        obtain rfl := Option.some.inj ho
        have f0 : a.tmps.getD 26 undef = v8 := hd 2 _ _ rfl rfl (by kernel_rfl)
        exact ⟨rfl, do_call _ _ _ rfl ef_chains_Add #[v8, .slice none 0 0] (by simp [Act.eval, f0]) ((chAdd2 v8 (.slice none 0 0) (ctm L) [] 8 _ (hv8 _ hw) (Sl.nil _ _) q1.tok (fun t ht => by cases ht) (by simp only [List.length_nil]; omega)).mono fun e w3 ⟨r, he, hc⟩ => ⟨r, he, r, rfl, row_of hc hw.size, hc.below⟩)⟩
      | 4, ho, hd =>
        obtain rfl := Option.some.inj ho
        exact ⟨rfl, do_load _ _ rfl _ ht10 _ (ldW (hbw.keep hw hwl)) ⟨_, rfl, rfl, Below.refl _ _⟩⟩
      | 5, ho, hd =>
        obtain rfl := Option.some.inj ho
        exact ⟨rfl, do_move _ (.inl rfl) ⟨_, rfl, ht8, Below.refl _ _⟩⟩
      | 6, ho, hd =>
        obtain rfl := Option.some.inj ho
        have f0 : a.tmps.getD 28 undef = wv 1 := hd 4 _ _ rfl rfl (by kernel_rfl)
        have f1 : a.tmps.getD 29 undef = v8 := hd 5 _ _ rfl rfl (by kernel_rfl)
        exact ⟨rfl, do_call _ _ _ rfl ef_chains_Scale #[wv 1, v8] (by simp [Act.eval, f0, f1]) ((chScale (decide ((1 : Int) < 0)) (mg 1) v8 (ctm L) 8 _ (hv8 _ hw) q1.tok (by rw [mg_size]; exact nb_int 1 (by decide) (by decide)) (by omega)).mono fun e w3 ⟨r, he, hc⟩ => ⟨r, he, r, rfl, row_of hc hw.size, hc.below⟩)⟩
      | 7, ho, hd =>
        obtain rfl := Option.some.inj ho
        exact ⟨rfl, do_load _ _ rfl _ ht6 _ (ldK (hba.keep hw)) ⟨_, rfl, rfl, Below.refl _ _⟩⟩
      | 8, ho, hd =>
        obtain rfl := Option.some.inj ho
        exact ⟨rfl, do_move _ (.inl rfl) ⟨_, rfl, ht8, Below.refl _ _⟩⟩
      | 9, ho, hd =>
        obtain rfl := Option.some.inj ho
        have f0 : a.tmps.getD 31 undef = .agg #[.slice ua m.length uc] := hd 7 _ _ rfl rfl (by kernel_rfl)
        have f1 : a.tmps.getD 32 undef = v8 := hd 8 _ _ rfl rfl (by kernel_rfl)
        exact ⟨rfl, do_call _ _ _ rfl ef_chains_Boundary #[.agg #[.slice ua m.length uc], v8] (by simp [Act.eval, f0, f1]) ((chBoundary _ ma v8 (ctm L) 8 _ (hcx _ hw) hcok (hv8 _ hw) q1.tok (by omega)).mono fun e w3 ⟨r, he, hc⟩ => ⟨r, he, r, rfl, row_of hc hw.size, hc.below⟩)⟩
      | 10, ho, hd =>
        obtain rfl := Option.some.inj ho
        exact ⟨rfl, do_load _ _ rfl _ ht6 _ (ldK (hba.keep hw)) ⟨_, rfl, rfl, Below.refl _ _⟩⟩
      | 11, ho, hd =>
        obtain rfl := Option.some.inj ho
        exact ⟨rfl, do_move _ (.inl rfl) ⟨_, rfl, ht8, Below.refl _ _⟩⟩
      | 12, ho, hd =>
        obtain rfl := Option.some.inj ho
        have f0 : a.tmps.getD 34 undef = .agg #[.slice ua m.length uc] := hd 10 _ _ rfl rfl (by kernel_rfl)
        have f1 : a.tmps.getD 35 undef = v8 := hd 11 _ _ rfl rfl (by kernel_rfl)
        exact ⟨rfl, do_call _ _ _ rfl ef_chains_Coboundary #[.agg #[.slice ua m.length uc], v8] (by simp [Act.eval, f0, f1]) ((chCoboundary _ ma v8 (ctm L) 8 _ (hcx _ hw) hcok (hv8 _ hw) q1.tok (by omega)).mono fun e w3 ⟨r, he, hc⟩ => ⟨r, he, r, rfl, row_of hc hw.size, hc.below⟩)⟩
      | 13, ho, hd =>
        obtain rfl := Option.some.inj ho
        have f0 : RowI w' W0.heap.size w'.heap.size (a.tmps.getD 25 undef) := hd 1 _ _ rfl rfl (by kernel_rfl)
        have f1 : RowI w' W0.heap.size w'.heap.size (a.tmps.getD 27 undef) := hd 3 _ _ rfl rfl (by kernel_rfl)
        have f2 : RowI w' W0.heap.size w'.heap.size (a.tmps.getD 30 undef) := hd 6 _ _ rfl rfl (by kernel_rfl)
        have f3 : RowI w' W0.heap.size w'.heap.size (a.tmps.getD 33 undef) := hd 9 _ _ rfl rfl (by kernel_rfl)
        have f4 : RowI w' W0.heap.size w'.heap.size (a.tmps.getD 36 undef) := hd 12 _ _ rfl rfl (by kernel_rfl)
        refine ⟨rfl, do_slice 33 5 _ rfl #[(0, a.tmps.getD 25 undef), (1, a.tmps.getD 27 undef), (2, a.tmps.getD 30 undef), (3, a.tmps.getD 33 undef), (4, a.tmps.getD 36 undef)] (by simp [Act.eval]) _ _ (build5 _ _ _ _ _ _ f0.shape f1.shape f2.shape f3.shape f4.shape) ⟨_, rfl, ⟨w'.heap.size, [a.tmps.getD 25 undef, a.tmps.getD 27 undef, a.tmps.getD 30 undef, a.tmps.getD 33 undef, a.tmps.getD 36 undef], rfl, rfl, RowsI.new hw.size (fun v hv => ?_) _⟩, (Below.refl _ _).alloc (Nat.le_refl _) _⟩⟩
        simp only [List.mem_cons, List.not_mem_nil, or_false] at hv
        rcases hv with rfl | rfl | rfl | rfl | rfl <;> assumption
      | 14, ho, hd =>
        obtain rfl := Option.some.inj ho
        obtain ⟨B, vs, f0, _, _⟩ : (Kk.rows W0.heap.size 5).holds (a.tmps.getD 37 undef) w' := hd 13 _ _ rfl rfl (by kernel_rfl)
        exact ⟨rfl, do_len _ rfl Tryz.underlying33 _ 5 5 f0 ⟨_, rfl, rfl, Below.refl _ _⟩⟩
      | 15, ho, hd =>
        obtain rfl := Option.some.inj ho
        exact ⟨rfl, do_move _ (.inl rfl) ⟨_, rfl, rfl, Below.refl _ _⟩⟩
      | i + 16, ho, hd =>
        have : i + 16 < 16 := (Array.getElem?_eq_some_iff.1 ho).1
        omega
    case done =>
      intro a w7 hsz hdf hf hbase hw
      obtain ⟨B, vs, hb1, hb2, hb3⟩ : (Kk.rows W0.heap.size 5).holds (a.tmps.getD 37 undef) w7 := hf 13 _ _ rfl rfl
      have hb4 : a.tmps.getD 38 undef = .int .i64 5 := hf 14 _ _ rfl rfl
      have hb5 : a.tmps.getD 39 undef = .int .i64 0 := hf 15 _ _ rfl rfl
      refine hK2 _ _ (Met.intro (hJ _ _ ⟨a.tmps.getD 24 undef, a.tmps.getD 25 undef, a.tmps.getD 26 undef, a.tmps.getD 27 undef, a.tmps.getD 28 undef, a.tmps.getD 29 undef, a.tmps.getD 30 undef, a.tmps.getD 31 undef, a.tmps.getD 32 undef, a.tmps.getD 33 undef, a.tmps.getD 34 undef, a.tmps.getD 35 undef, a.tmps.getD 36 undef, a.tmps.getD 37 undef, a.tmps.getD 38 undef, a.tmps.getD 39 undef, ⟨B, vs, hb1, hb4, hb5, hb2, Lib.hid hb3, Lib.hid hw⟩, (act_lit hsz hdf hbase).trans ?_⟩))
      kernel_rfl
  case rest =>
    obtain ⟨B, vs, rfl, rfl, rfl, hvl, hRW, hB7⟩ := hcut
    have hB1 : B < wc.heap.size := by
      have := (hRW.out.2 0 _ (List.getElem?_eq_getElem (by rw [hvl]; decide))).1
      exact World.block_lt_of_cell? wc _ this
    obtain ⟨wq, hwq⟩ : ∃ x : World, x = wc := ⟨_, rfl⟩
    subst hwq
    go_wp2_with fail
    go_loopw [39] (fun i wr => ∃ j : Nat, i = .int .i64 j ∧ j ≤ 5 ∧ Hid (RowsI wr W0.heap.size B vs) ∧ Below W0.heap.size W0 wr) (fun i _ => 5 - (vI i).toNat)
    case atStart => exact ⟨0, rfl, by decide, hRW, hB7.out⟩
    case round =>
      obtain ⟨j, rfl, hj, HR, hB⟩ := hrel
      by_cases hlt : j < 5
      · obtain ⟨v, hv⟩ : ∃ v, vs[j]? = some v := ⟨_, List.getElem?_eq_getElem (by rw [hvl]; exact hlt)⟩
        have hcell : wr.cell? ⟨B, j, none⟩ = some v := (HR.out.2 j v hv).1
        obtain ⟨a, n, c, hve, hnc, hcm, _, _⟩ := (HR.out.2 j v hv).2
        subst hve
        unfold maxLen at hcm
        have HV := Lib.hid hv
        have hji : (j : Int) < 5 := by omega
        clear hv
        obtain ⟨wo, hwo⟩ : ∃ x : World, x = wr := ⟨_, rfl⟩
        subst hwo
        go_wp2_with fail
        go_loopw [45] (fun i wr => ∃ k : Nat, i = .int .i64 k ∧ k ≤ n ∧ Hid (RowsI wr W0.heap.size B vs) ∧ Below W0.heap.size W0 wr) (fun i _ => n - (vI i).toNat)
        case atStart => exact ⟨0, rfl, Nat.zero_le _, HR, hB⟩
        case round =>
          clear hcell hB HR
          obtain ⟨k, rfl, hk, HR, hB⟩ := hrel
          by_cases hkl : k < n
          · have hrow := (HR.out.2 j _ HV.out).2
            obtain ⟨ad, had⟩ : ∃ ad, a = some ad := by
              cases a with
              | none => have := hrow.none; omega
              | some ad => exact ⟨ad, rfl⟩
            subst had
            obtain ⟨⟨hb1, hb2⟩, x, hx, hf⟩ := hrow.at hkl
            have hlo := add_lo ad (k * 3)
            have HA := Lib.hid (And.intro hb1 (And.intro hb2 hlo))
            have HX := Lib.hid hx
            clear hrow hb1 hb2 hlo
            go_wp2
            go_roundw
            case measure => simp [vI]; omega
            case rel => exact ⟨k + 1, i64_eq (by omega), by omega, (show Hid _ from HR.out.set _ _ x HX.out (by rw [HA.out.2.2]; exact HA.out.2.1)), hB.setCell (by rw [HA.out.2.2]; exact HA.out.1) _⟩
          · go_wp2
            go_roundw
            case measure => simp [vI]; omega
            case rel => exact ⟨j + 1, i64_eq (by omega), by omega, HR, hB⟩
      · obtain ⟨hBw, s8, s9, hR, hca, hcb, hba, hbb, _⟩ := HH.out
        have hv8 : ∀ w', Below wr.heap.size wr w' → Sl w' 3 v8 (tv (ctm L)) := fun w' h => (s8.keep hB).keep h
        have hv9 : ∀ w', Below wr.heap.size wr w' → Sl w' 3 v9 (tv (ctm L)) := fun w' h => (s9.keep hB).keep h
        have hkA : ∀ w', Below wr.heap.size wr w' → (Fk.cx K).holds (.agg #[.slice ua m.length uc]) w' := fun w' h => Fk.keep (k := .cx K) (Fk.keep (k := .cx K) hca hB) h
        have hkB : ∀ w', Below wr.heap.size wr w' → (Fk.cx K).holds (.agg #[.slice ub m2.length ud]) w' := fun w' h => Fk.keep (k := .cx K) (Fk.keep (k := .cx K) hcb hB) h
        have hbA := hba.keep hB
        have hbB := hbb.keep hB
        have hB0 : Below w.heap.size w wr := hBw.trans (hB.mono hBw.size)
        obtain ⟨N1, hN1⟩ : ∃ N, (ctm L).length = N := ⟨_, rfl⟩
        obtain ⟨G, hG⟩ : ∃ g : Int → Int, ∀ c, co (bdL (co (prs (ctm L))) (rawsK K)) c = g c := ⟨_, fun _ => rfl⟩
        have HZ := Lib.hid (And.intro hv8 (And.intro hv9 (And.intro hkA (And.intro hkB (And.intro hbA (And.intro hbB (And.intro hB0 (And.intro hN1 (And.intro hG hR)))))))))
        clear hv8 hv9 hkA hkB hbA hbB hB0 hN1 hG hR hBw s8 s9 hca hcb hba hbb
        go_wp2_with fail
        rename_i KK hKK
        obtain ⟨hv8, hv9, hkA, hkB, hbA, hbB, hB0, hN1, hG, hR⟩ := HZ.out
        refine region_facts rfl (fun i v w => (([.tt, .tt, .val v8, .val v9, .tt, .tt, .tt, .val (.agg #[.slice ua m.length uc]), .val (.agg #[.slice ub m2.length ud]), .tt, .tt, .tt, .val (.agg #[.slice ua m.length uc]), .val v8, .cf G 720 800, .val (.agg #[.slice ub m2.length ud]), .val v9, .cf G 720 800, .tt, .tt, .tt, .val v8, .val v9, .tt, .tt, .tt] : List Fk).getD i .any).holds v w) 83 rfl (by kernel_rfl) (by kernel_rfl) ?hF2 ?step2 ?done2
        case hF2 => exact fun i v w w' h hb => Fk.keep h hb
        case step2 =>
          intro i o ho a w' hw hd hbase hsz
          have ht8 : (v8 : Value) = v8 := rfl
          have ht9 : (v9 : Value) = v9 := rfl
          have ht5 : (.bool true : Value) = .bool true := rfl
          have hp6 : (.pointer (some ⟨w3.heap.size, 0, none⟩) : Value) = .pointer (some ⟨w3.heap.size, 0, none⟩) := rfl
          have hp7 : (.pointer (some ⟨w3.heap.size + 1, 0, none⟩) : Value) = .pointer (some ⟨w3.heap.size + 1, 0, none⟩) := rfl
          match i, ho, hd with
          | 0, ho, hd =>
            obtain rfl := Option.some.inj ho
            exact ⟨rfl, stp_move _ (.inl rfl) ((hbase 5 (noDst_spec (by kernel_rfl))).trans ht5)⟩
          | 1, ho, hd =>
            obtain rfl := Option.some.inj ho
            have f0 : (Fk.tt).holds (a.tmps.getD 58 undef) w' := hd 0 _ _ rfl rfl (by kernel_rfl)
            exact ⟨rfl, stp_move _ (.inl rfl) f0⟩
          | 2, ho, hd =>
            obtain rfl := Option.some.inj ho
            have fg : (Fk.tt).holds (a.tmps.getD 59 undef) w' := hd 1 _ _ rfl rfl (by kernel_rfl)
            exact ⟨wanted_tt 1 59 rfl rfl (by rw [hsz]; decide) fg, stp_move _ (.inl rfl) ((hbase 8 (noDst_spec (by kernel_rfl))).trans ht8)⟩
          | 3, ho, hd =>
            obtain rfl := Option.some.inj ho
            have fg : (Fk.tt).holds (a.tmps.getD 59 undef) w' := hd 1 _ _ rfl rfl (by kernel_rfl)
            exact ⟨wanted_tt 1 59 rfl rfl (by rw [hsz]; decide) fg, stp_move _ (.inl rfl) ((hbase 9 (noDst_spec (by kernel_rfl))).trans ht9)⟩
          | 4, ho, hd =>
            obtain rfl := Option.some.inj ho
            have f0 : (Fk.val v8).holds (a.tmps.getD 60 undef) w' := hd 2 _ _ rfl rfl (by kernel_rfl)
            have f1 : (Fk.val v9).holds (a.tmps.getD 61 undef) w' := hd 3 _ _ rfl rfl (by kernel_rfl)
            have fg : (Fk.tt).holds (a.tmps.getD 59 undef) w' := hd 1 _ _ rfl rfl (by kernel_rfl)
            exact ⟨wanted_tt 1 59 rfl rfl (by rw [hsz]; decide) fg, stp_call _ _ _ rfl ef_ref07_Same #[v8, v9] (by simp [Act.eval, show a.tmps.getD 60 undef = v8 from f0, show a.tmps.getD 61 undef = v9 from f1]) (svSame' _ _ L _ (hv8 _ hw) (hv9 _ hw))⟩
          | 5, ho, hd =>
            obtain rfl := Option.some.inj ho
            have f0 : (Fk.tt).holds (a.tmps.getD 59 undef) w' := hd 1 _ _ rfl rfl (by kernel_rfl)
            have f1 : (Fk.tt).holds (a.tmps.getD 62 undef) w' := hd 4 _ _ rfl rfl (by kernel_rfl)
            exact ⟨rfl, stp_pick _ _ _ rfl f0 f1⟩
          | 6, ho, hd =>
            obtain rfl := Option.some.inj ho
            have f0 : (Fk.tt).holds (a.tmps.getD 63 undef) w' := hd 5 _ _ rfl rfl (by kernel_rfl)
            exact ⟨rfl, stp_move _ (.inl rfl) f0⟩
          | 7, ho, hd =>
            obtain rfl := Option.some.inj ho
            have fg : (Fk.tt).holds (a.tmps.getD 64 undef) w' := hd 6 _ _ rfl rfl (by kernel_rfl)
            exact ⟨wanted_tt 6 64 rfl rfl (by rw [hsz]; decide) fg, stp_load _ _ rfl _ ((hbase 6 (noDst_spec (by kernel_rfl))).trans hp6) _ (ldK (hbA.keep hw)) rfl⟩
          | 8, ho, hd =>
            obtain rfl := Option.some.inj ho
            have fg : (Fk.tt).holds (a.tmps.getD 64 undef) w' := hd 6 _ _ rfl rfl (by kernel_rfl)
            exact ⟨wanted_tt 6 64 rfl rfl (by rw [hsz]; decide) fg, stp_load _ _ rfl _ ((hbase 7 (noDst_spec (by kernel_rfl))).trans hp7) _ (ldK (hbB.keep hw)) rfl⟩
          | 9, ho, hd =>
            obtain rfl := Option.some.inj ho
            have f0 : (Fk.val (.agg #[.slice ua m.length uc])).holds (a.tmps.getD 65 undef) w' := hd 7 _ _ rfl rfl (by kernel_rfl)
            have f1 : (Fk.val (.agg #[.slice ub m2.length ud])).holds (a.tmps.getD 66 undef) w' := hd 8 _ _ rfl rfl (by kernel_rfl)
            have fg : (Fk.tt).holds (a.tmps.getD 64 undef) w' := hd 6 _ _ rfl rfl (by kernel_rfl)
            exact ⟨wanted_tt 6 64 rfl rfl (by rw [hsz]; decide) fg, stp_call _ _ _ rfl ef_ref06_Equal #[(.agg #[.slice ua m.length uc]), (.agg #[.slice ub m2.length ud])] (by simp [Act.eval, show a.tmps.getD 65 undef = (.agg #[.slice ua m.length uc]) from f0, show a.tmps.getD 66 undef = (.agg #[.slice ub m2.length ud]) from f1]) (smEqF _ _ K _ (hkA _ hw) (hkB _ hw) hK (by omega))⟩
          | 10, ho, hd =>
            obtain rfl := Option.some.inj ho
            have f0 : (Fk.tt).holds (a.tmps.getD 64 undef) w' := hd 6 _ _ rfl rfl (by kernel_rfl)
            have f1 : (Fk.tt).holds (a.tmps.getD 67 undef) w' := hd 9 _ _ rfl rfl (by kernel_rfl)
            exact ⟨rfl, stp_pick _ _ _ rfl f0 f1⟩
          | 11, ho, hd =>
            obtain rfl := Option.some.inj ho
            have f0 : (Fk.tt).holds (a.tmps.getD 68 undef) w' := hd 10 _ _ rfl rfl (by kernel_rfl)
            exact ⟨rfl, stp_move _ (.inl rfl) f0⟩
          | 12, ho, hd =>
            obtain rfl := Option.some.inj ho
            have fg : (Fk.tt).holds (a.tmps.getD 69 undef) w' := hd 11 _ _ rfl rfl (by kernel_rfl)
            exact ⟨wanted_tt 11 69 rfl rfl (by rw [hsz]; decide) fg, stp_load _ _ rfl _ ((hbase 6 (noDst_spec (by kernel_rfl))).trans hp6) _ (ldK (hbA.keep hw)) rfl⟩
          | 13, ho, hd =>
            obtain rfl := Option.some.inj ho
            have fg : (Fk.tt).holds (a.tmps.getD 69 undef) w' := hd 11 _ _ rfl rfl (by kernel_rfl)
            exact ⟨wanted_tt 11 69 rfl rfl (by rw [hsz]; decide) fg, stp_move _ (.inl rfl) ((hbase 8 (noDst_spec (by kernel_rfl))).trans ht8)⟩
          | 14, ho, hd =>
            obtain rfl := Option.some.inj ho
            have f0 : (Fk.val (.agg #[.slice ua m.length uc])).holds (a.tmps.getD 70 undef) w' := hd 12 _ _ rfl rfl (by kernel_rfl)
            have f1 : (Fk.val v8).holds (a.tmps.getD 71 undef) w' := hd 13 _ _ rfl rfl (by kernel_rfl)
            have fg : (Fk.tt).holds (a.tmps.getD 69 undef) w' := hd 11 _ _ rfl rfl (by kernel_rfl)
            exact ⟨wanted_tt 11 69 rfl rfl (by rw [hsz]; decide) fg, stp_call _ _ _ rfl ef_chains_Boundary #[(.agg #[.slice ua m.length uc]), v8] (by simp [Act.eval, show a.tmps.getD 70 undef = (.agg #[.slice ua m.length uc]) from f0, show a.tmps.getD 71 undef = v8 from f1]) (tBd _ _ K (ctm L) G N1 8 720 800 _ (hkA _ hw) (hv8 _ hw) hK q1.tok hN1 hR (by omega) (by omega) hG)⟩
          | 15, ho, hd =>
            obtain rfl := Option.some.inj ho
            have fg : (Fk.tt).holds (a.tmps.getD 69 undef) w' := hd 11 _ _ rfl rfl (by kernel_rfl)
            exact ⟨wanted_tt 11 69 rfl rfl (by rw [hsz]; decide) fg, stp_load _ _ rfl _ ((hbase 7 (noDst_spec (by kernel_rfl))).trans hp7) _ (ldK (hbB.keep hw)) rfl⟩
          | 16, ho, hd =>
            obtain rfl := Option.some.inj ho
            have fg : (Fk.tt).holds (a.tmps.getD 69 undef) w' := hd 11 _ _ rfl rfl (by kernel_rfl)
            exact ⟨wanted_tt 11 69 rfl rfl (by rw [hsz]; decide) fg, stp_move _ (.inl rfl) ((hbase 9 (noDst_spec (by kernel_rfl))).trans ht9)⟩
          | 17, ho, hd =>
            obtain rfl := Option.some.inj ho
            have f0 : (Fk.val (.agg #[.slice ub m2.length ud])).holds (a.tmps.getD 73 undef) w' := hd 15 _ _ rfl rfl (by kernel_rfl)
            have f1 : (Fk.val v9).holds (a.tmps.getD 74 undef) w' := hd 16 _ _ rfl rfl (by kernel_rfl)
            have fg : (Fk.tt).holds (a.tmps.getD 69 undef) w' := hd 11 _ _ rfl rfl (by kernel_rfl)
            exact ⟨wanted_tt 11 69 rfl rfl (by rw [hsz]; decide) fg, stp_call _ _ _ rfl ef_chains_Boundary #[(.agg #[.slice ub m2.length ud]), v9] (by simp [Act.eval, show a.tmps.getD 73 undef = (.agg #[.slice ub m2.length ud]) from f0, show a.tmps.getD 74 undef = v9 from f1]) (tBd _ _ K (ctm L) G N1 8 720 800 _ (hkB _ hw) (hv9 _ hw) hK q1.tok hN1 hR (by omega) (by omega) hG)⟩
          | 18, ho, hd =>
            obtain rfl := Option.some.inj ho
            have f0 : (Fk.cf G 720 800).holds (a.tmps.getD 72 undef) w' := hd 14 _ _ rfl rfl (by kernel_rfl)
            have f1 : (Fk.cf G 720 800).holds (a.tmps.getD 75 undef) w' := hd 17 _ _ rfl rfl (by kernel_rfl)
            have fg : (Fk.tt).holds (a.tmps.getD 69 undef) w' := hd 11 _ _ rfl rfl (by kernel_rfl)
            exact ⟨wanted_tt 11 69 rfl rfl (by rw [hsz]; decide) fg, stp_call _ _ _ rfl ef_ref07_Same #[a.tmps.getD 72 undef, a.tmps.getD 75 undef] (by simp [Act.eval]) (svSameF _ _ _ _ _ _ _ _ f0 f1)⟩
          | 19, ho, hd =>
            obtain rfl := Option.some.inj ho
            have f0 : (Fk.tt).holds (a.tmps.getD 69 undef) w' := hd 11 _ _ rfl rfl (by kernel_rfl)
            have f1 : (Fk.tt).holds (a.tmps.getD 76 undef) w' := hd 18 _ _ rfl rfl (by kernel_rfl)
            exact ⟨rfl, stp_pick _ _ _ rfl f0 f1⟩
          | 20, ho, hd =>
            obtain rfl := Option.some.inj ho
            have f0 : (Fk.tt).holds (a.tmps.getD 77 undef) w' := hd 19 _ _ rfl rfl (by kernel_rfl)
            exact ⟨rfl, stp_move _ (.inl rfl) f0⟩
          | 21, ho, hd =>
            obtain rfl := Option.some.inj ho
            have fg : (Fk.tt).holds (a.tmps.getD 78 undef) w' := hd 20 _ _ rfl rfl (by kernel_rfl)
            exact ⟨wanted_tt 20 78 rfl rfl (by rw [hsz]; decide) fg, stp_move _ (.inl rfl) ((hbase 8 (noDst_spec (by kernel_rfl))).trans ht8)⟩
          | 22, ho, hd =>
            obtain rfl := Option.some.inj ho
            have fg : (Fk.tt).holds (a.tmps.getD 78 undef) w' := hd 20 _ _ rfl rfl (by kernel_rfl)
            exact ⟨wanted_tt 20 78 rfl rfl (by rw [hsz]; decide) fg, stp_move _ (.inl rfl) ((hbase 9 (noDst_spec (by kernel_rfl))).trans ht9)⟩
          | 23, ho, hd =>
            obtain rfl := Option.some.inj ho
            have f0 : (Fk.val v8).holds (a.tmps.getD 79 undef) w' := hd 21 _ _ rfl rfl (by kernel_rfl)
            have f1 : (Fk.val v9).holds (a.tmps.getD 80 undef) w' := hd 22 _ _ rfl rfl (by kernel_rfl)
            have fg : (Fk.tt).holds (a.tmps.getD 78 undef) w' := hd 20 _ _ rfl rfl (by kernel_rfl)
            exact ⟨wanted_tt 20 78 rfl rfl (by rw [hsz]; decide) fg, stp_call _ _ _ rfl ef_chains_Equal #[v8, v9] (by simp [Act.eval, show a.tmps.getD 79 undef = v8 from f0, show a.tmps.getD 80 undef = v9 from f1]) (chEqualT _ _ (ctm L) (ctm L) 8 _ (hv8 _ hw) (hv9 _ hw) q1.tok q1.tok (by omega) (by omega) (by decide) (fun _ => rfl))⟩
          | 24, ho, hd =>
            obtain rfl := Option.some.inj ho
            have f0 : (Fk.tt).holds (a.tmps.getD 78 undef) w' := hd 20 _ _ rfl rfl (by kernel_rfl)
            have f1 : (Fk.tt).holds (a.tmps.getD 81 undef) w' := hd 23 _ _ rfl rfl (by kernel_rfl)
            exact ⟨rfl, stp_pick _ _ _ rfl f0 f1⟩
          | 25, ho, hd =>
            obtain rfl := Option.some.inj ho
            have f0 : (Fk.tt).holds (a.tmps.getD 82 undef) w' := hd 24 _ _ rfl rfl (by kernel_rfl)
            exact ⟨rfl, stp_move _ (.inr rfl) f0⟩
          | i + 26, ho, hd =>
            have : i + 26 < 26 := (Array.getElem?_eq_some_iff.1 ho).1
            omega
        case done2 =>
          intro a w5 hsz hdf hf hbase hw
          have ht : (Fk.tt).holds (a.tmps.getD 4 undef) w5 := hf 25 _ _ rfl rfl
          have hB2 := hB0.trans (hw.mono hB0.size)
          clear hbase hf
          refine hKK _ _ (wp_ret ?_)
          show bodyPost Tryz.prog Tryz.f10 (fun e w' => e = .returned (.bool true) ∧ Below w.heap.size w w') .ret a w5
          refine bodyPost_ret (v := .bool true) ?_ hdf ⟨rfl, hB2⟩
          have ht' : a.tmps.getD 4 undef = .bool true := ht
          rw [Array.getD_eq_getD_getElem?] at ht'
          simp [results, Tryz.results10, go_sem, ht']

end Go.Proofs.YtfcmpolhcpbliaaGreatDoor
