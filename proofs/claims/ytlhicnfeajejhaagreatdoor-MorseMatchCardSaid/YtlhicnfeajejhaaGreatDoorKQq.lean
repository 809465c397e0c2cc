/- cocycleref06.Copy: a copy of a complex, whose rows are the call's own and lie apart. Conditions: none. cocycleref06.Shuffled: a complex with cells .. -/
import Derived.Test.YtlhicnfeajejhaaGreatDoorKQp
set_option maxRecDepth 1000000
set_option maxHeartbeats 16000000
namespace Go.Proofs.YtlhicnfeajejhaaGreatDoor
open Go.RowKit Go.Cx
attribute [local go_sem ↓] Go.wp_at_zero Go.wp_at_succ
structure CS (w : World) (base : Nat) (v : Value) (L : List Ce) : Prop where
 sds : ∀ x ∈ L, w.ownsRow base 108 2 x.sl x.s.length (cat Sd.enc x.s)
 dst : L.Pairwise fun x y => Apr x.sl y.sl
 far : ∀ x ∈ L, Apr x.sl v
theorem CS.keep {w w' : World} {base : Nat} {v : Value} {L : List Ce} (h : CS w base v L) (hb : Below w.heap.size w w') : CS w' base v L := ⟨fun x hx => ownsRow_below (h.sds x hx) hb, h.dst, h.far⟩
theorem CS.low {w : World} {base : Nat} {v : Value} {L : List Ce} (h : CS w base v L) {p : Addr} (hp : p.block < base) (u : Value) : CS (w.setCell p u) base v L := ⟨fun x hx => ownsRow_setCell_below (h.sds x hx) hp u, h.dst, h.far⟩
theorem CS.perm {w : World} {base : Nat} {v : Value} {L M : List Ce} (h : CS w base v L) (hp : L.Perm M) : CS w base v M :=
 ⟨fun x hx => h.sds x (hp.mem_iff.2 hx), (hp.pairwise_iff (fun h => h.symm)).1 h.dst, fun x hx => h.far x (hp.mem_iff.2 hx)⟩
theorem CS.snoc {w w1 w2 : World} {base g n c B : Nat} {v : Value} {L : List Ce} {y : Ce} (h : CS w base v L) (hB : base ≤ B) (hBw : w.heap.size ≤ B) (hb : Below w.heap.size w w1) (hs : w1.ownsRow B 108 2 y.sl y.s.length (cat Sd.enc y.s)) (hvl : ∀ b, v.ownBlock = some b → b < w.heap.size)
  (hg : w1.grownBy w2 v.ownBlock) (hl : v.ownBlock = some g ∨ w1.heap.size ≤ g) : CS w2 base (.slice (some ⟨g, 0, none⟩) n c) (L ++ [y]) := by
 have old : ∀ x ∈ L, ∀ b, x.sl.ownBlock = some b → b < w.heap.size := fun x hx b hb => ((h.sds x hx).lt b hb).2
 have new : ∀ b, y.sl.ownBlock = some b → B ≤ b ∧ b < w1.heap.size := fun b hb => hs.lt b hb
 have hw := hb.size
 have hgx : ∀ x : Value, (∀ b, x.ownBlock = some b → b < w1.heap.size) → Apr x v → Apr x (.slice (some ⟨g, 0, none⟩) n c) := fun x hx hxv b hb e => by
  have e : g = b := by injection e
  subst e
  rcases hl with hl | hl
  ·exact hxv g hb hl
  ·have := hx g hb; omega
 have hyv : Apr y.sl v := fun b hb e => by have := (new b hb).1; have := hvl b e; omega
 have kept : ∀ x : Value, Apr x v → ∀ {m : Nat} {t : TypeId} {st bs : Nat} {xs : List Value}, w1.ownsRow bs t st x m xs → w2.ownsRow bs t st x m xs := fun x hxv m t st bs xs hr => hr.kept hg (by
  cases ho : x.ownBlock with
  | none => exact .inl rfl
  | some b => exact .inr fun e => hxv b ho e.symm)
 refine ⟨fun x hx => ?_, ?_, fun x hx => ?_⟩
 ·rcases List.mem_append.1 hx with hx | hx
  ·exact kept _ (h.far x hx) (ownsRow_below (h.sds x hx) hb)
  ·simp at hx; subst hx
   exact kept _ hyv (ownsRow_mono hs hB)
 ·refine List.pairwise_append.2 ⟨h.dst, List.pairwise_singleton _ _, fun x hx z hz b hb e => ?_⟩
  simp at hz; subst hz
  have := old x hx b hb
  have := (new b e).1
  omega
 ·rcases List.mem_append.1 hx with hx | hx
  ·exact hgx _ (fun b hb => Nat.lt_of_lt_of_le (old x hx b hb) hw) (h.far x hx)
  ·simp at hx; subst hx
   exact hgx _ (fun b hb => (new b hb).2) hyv
theorem CS.nil (w : World) (base : Nat) (v : Value) : CS w base v [] := ⟨fun x hx => (by cases hx), .nil, fun x hx => (by cases hx)⟩
theorem smCopy (v : Value) (l : List Ce) (w : World) (h : SlC w v l) (hl : l.length ≤ 1000000) (hsl : ∀ x ∈ l, x.s.length ≤ 1000000) :
  Calls Tryz.prog 102 #[.agg #[v]] w fun e w' => ∃ r M, e = .returned (.agg #[r]) ∧ M.map Ce.cl = l.map Ce.cl ∧ w'.ownsRow w.heap.size 75 3 r M.length (cat Ce.enc M) ∧ CS w' w.heap.size r M ∧ Below w.heap.size w w' := by
 obtain ⟨a, n, cap, rfl⟩ := sl_shape h.1
 have hlen : l.length = n := by
  obtain ⟨_, _, h3, _⟩ := h.1.open
  rw [cat_len Ce.enc_len] at h3; omega
 obtain ⟨hc1, hc2, _⟩ := h.1.open
 unfold maxLen at hc2
 rw [hlen] at hl
 have HH := lhd (aiq h (aiq hlen hsl))
 clear h hlen hsl
 go_enter Tryz.func102, Tryz.ntmps102
 go_wp2_with fail
 obtain ⟨W, hW⟩ : ∃ W, W = ((w.alloc (.cells #[.slice a n cap] 26)).alloc (.cells #[.slice none 0 0] 26)).alloc (.cells #[.slice none 0 0] 26) := ⟨_, rfl⟩
 rw [← hW]
 have hB : Below w.heap.size w W := by rw [hW]; exact (((Below.refl _ w).alloc (nlr _) _).alloc (by simp) _).alloc (by simp; omega) _
 have hzW : W.heap.size = w.heap.size + 3 := by rw [hW]; simp
 have b0 : Bv W w.heap.size (.slice a n cap) := by rw [hW]; exact ((Bv.new w _ _).alloc _).alloc _
 have b1 : Bv W (w.heap.size + 1) (.slice none 0 0) := by
  rw [hW]
  have := (Bv.new (w.alloc (.cells #[.slice a n cap] 26)) (.slice none 0 0) 26).alloc (.cells #[.slice none 0 0] 26)
  rw [World.size_alloc] at this
  exact this
 have b2 : Bv W (w.heap.size + 1 + 1) (.slice none 0 0) := by
  rw [hW]
  have := Bv.new ((w.alloc (.cells #[.slice a n cap] 26)).alloc (.cells #[.slice none 0 0] 26)) (.slice none 0 0) 26
  rw [World.size_alloc, World.size_alloc] at this
  exact this
 have HB := lhd (aiq hB (aiq b0 (aiq b1 (aiq b2 hzW))))
 clear hW hB b0 b1 b2 hzW
 go_loopw [4] (fun p wr => ∃ (k : Nat) (u : Value) (M : List Ce), p = .int .i64 k ∧ k ≤ n ∧ M.length = k ∧ Hid (M.map Ce.cl = (l.take k).map Ce.cl ∧ wr.ownsRow W.heap.size 75 3 u M.length (cat Ce.enc M) ∧ CS wr W.heap.size u M ∧ Bv wr (w.heap.size + 1 + 1) u ∧ Bv wr w.heap.size (.slice a n cap) ∧ Bv wr (w.heap.size + 1) (.slice none 0 0) ∧ Below w.heap.size w wr ∧ W.heap.size ≤ wr.heap.size)) (fun p _ => n - (vI p).toNat)
 case atStart => exact ⟨0, _, [], rfl, Nat.zero_le _, rfl, (show Hid _ from ⟨rfl, World.ownsRow_nil _ _ _ _, CS.nil _ _ _, HB.out.2.2.2.1, HB.out.2.1, HB.out.2.2.1, HB.out.1, nlr _⟩)⟩
 case round =>
  obtain ⟨k, u, M, rfl, hk, hMk, HI⟩ := hrel
  have b0 := HI.out.2.2.2.2.1.1
  have c2 := HI.out.2.2.2.1.1
  have f2 := HI.out.2.2.2.1.2
  by_cases hlt : k < n
  ·obtain ⟨ua, un, uc, hue⟩ := sl_shape (Sl.of_ownsRow HI.out.2.1)
   subst hue
   obtain ⟨x, hx⟩ : ∃ x, l[k]? = some x := ⟨_, List.getElem?_eq_getElem (by rw [HH.out.2.1]; exact hlt)⟩
   obtain ⟨h2, h3, h4, h5, h6⟩ := HH.out.1.1.open
   obtain ⟨ad, hade⟩ : ∃ ad, a = some ad := by
    cases a with
    | none => have := h5 rfl; omega
    | some ad => exact ⟨ad, rfl⟩
   subst hade
   obtain ⟨e0, e1, e2⟩ := ce_get l k x hx
   have hB := HI.out.2.2.2.2.2.2.1
   have d0 : wr.cell? (ad.add (k * 3)) = some (.int .i64 x.id) := Cx.keep hB (h6 ad rfl _ _ e0)
   have d1 : wr.cell? ⟨(ad.add (k * 3)).block, (ad.add (k * 3)).off + 1, none⟩ = some (.int .i64 x.dim) := by rw [add_part _ _ _ (by omega)]; exact Cx.keep hB (h6 ad rfl _ _ e1)
   have d2 : wr.cell? ⟨(ad.add (k * 3)).block, (ad.add (k * 3)).off + 2, none⟩ = some (.slice x.a x.n x.c) := by rw [add_part _ _ _ (by omega)]; exact Cx.keep hB (h6 ad rfl _ _ e2)
   have hsx : Sl wr 2 (.slice x.a x.n x.c) (cat Sd.enc x.s) := (HH.out.1.2 x (List.mem_of_getElem? hx)).keep hB
   have hxn : x.s.length = x.n := by
    obtain ⟨_, _, h3, _⟩ := hsx.open
    rw [cat_len Sd.enc_len] at h3; omega
   have hxl : x.n ≤ 1000000 := by rw [← hxn]; exact HH.out.2.2 x (List.mem_of_getElem? hx)
   have HX := lhd (aiq hx (aiq hsx hxn))
   clear h2 h3 h4 h5 h6 e0 e1 e2 hx hsx hxn hB
   go_upto_region 6 with fail
   obtain ⟨V, hV⟩ : ∃ V, V = wr.alloc (.cells #[.int .i64 x.id, .int .i64 x.dim, .slice x.a x.n x.c] 75) := ⟨_, rfl⟩
   obtain ⟨q, hq⟩ : ∃ q, q = wr.heap.size := ⟨_, rfl⟩
   have hBV : Below wr.heap.size wr V := by rw [hV]; exact (Below.refl _ wr).alloc (nlr _) _
   have y0 : V.cell? ⟨q, 0, none⟩ = some (.int .i64 x.id) := by rw [hV, hq]; exact cell_new wr _ _ (0, 0) 0
   have y1 : V.cell? ⟨q, 1, none⟩ = some (.int .i64 x.dim) := by rw [hV, hq]; exact cell_new wr _ _ (0, 0) 1
   have y2 : V.cell? ⟨q, 2, none⟩ = some (.slice x.a x.n x.c) := by rw [hV, hq]; exact cell_new wr _ _ (0, 0) 2
   have z2 : V.frozen? ⟨q, 2, none⟩ = false := by rw [hV, hq]; exact free_at (heap_alloc_new wr _) 2
   rw [← hq, ← hV]
   have hqV : V.heap.size = q + 1 := by rw [hV, hq]; simp
   have HV := lhd (aiq hBV (aiq y0 (aiq y1 hqV)))
   have HQ := lhd hq
   clear hBV y0 y1 hqV hV hq d0 d1 d2 b0 c2 f2
   have hsV : Sl (V.alloc (.cells #[] 108)) 2 (.slice x.a x.n x.c) (cat Sd.enc x.s) := (HX.out.2.1.keep HV.out.1).alloc _
   have hcl : (cat Sd.enc x.s).length = x.n * 2 := by rw [cat_len Sd.enc_len, HX.out.2.2]
   have HCL := lhd (aiq hsV hcl)
   have y2a : (V.alloc (.cells #[] 108)).cell? ⟨q, 2, none⟩ = some (.slice x.a x.n x.c) := keepAl y2 _
   clear hsV hcl
   go_wp2_with (at_builtin; refine wpList_appS (W := V) rfl _ _ 73 rfl V.heap.size 108 Tryz.infoEs Tryz.underlying73 rfl (by decide) (by decide) _ _ _ rfl (row_empty V 108 2) _ x.n (cat Sd.enc x.s) rfl HCL.out.1 HCL.out.2 (cat_ones Sd.enc_one _) ?apAa (((Below.refl _ V).alloc (nlr _) _)) ?apBa ?_)
   case apAa => omega
   case apBa => simp
   intro v5 w5 hr5 _ hB5
   have hr5 := row_n (m := x.s.length) hr5 (by have := HX.out.2.2; omega)
   obtain ⟨a5, c5, he5⟩ := ownsRow_len hr5
   subst he5
   have y2' := Cx.keep hB5 y2
   have z2' := frozen_keepB hB5 (by have := HV.out.2.2.2; show q < _; omega) z2
   obtain ⟨xl, hxl2⟩ : ∃ xl, xl = x.s.length := ⟨_, rfl⟩
   rw [← hxl2] at hr5 ⊢
   have H5 := lhd (aiq hr5 (aiq hB5 hxl2))
   clear hr5 hB5 y2 y2a z2 hxl2
   go_upto_region 7 with fail
   obtain ⟨V6, hV6⟩ : ∃ V6, V6 = w5.setCell ⟨q, 2, none⟩ (.slice a5 xl c5) := ⟨_, rfl⟩
   have hWr := HI.out.2.2.2.2.2.2.2
   have hz := HB.out.2.2.2.2
   have hqq := HQ.out
   have hqV := HV.out.2.2.2
   have hB5 := H5.out.2.1
   have hB6 : Below wr.heap.size wr V6 := by rw [hV6]; exact (HV.out.1.trans (hB5.mono HV.out.1.size)).setCell (by show wr.heap.size ≤ q; omega) _
   have g0 : V6.cell? ⟨q, 0, none⟩ = some (.int .i64 x.id) := by rw [hV6]; exact cell_setB2 (Cx.keep hB5 HV.out.2.1) (by simp)
   have g1 : V6.cell? ⟨q, 1, none⟩ = some (.int .i64 x.dim) := by rw [hV6]; exact cell_setB2 (Cx.keep hB5 HV.out.2.2.1) (by simp)
   have g2 : V6.cell? ⟨q, 2, none⟩ = some (.slice a5 xl c5) := by rw [hV6]; exact World.cell?_setCell_same _ _ _ y2'
   have b2 : Bv V6 (w.heap.size + 1 + 1) (.slice ua un uc) := HI.out.2.2.2.1.keep hB6
   have c2 := b2.1
   have f2 := b2.2
   have hrow : V6.ownsRow W.heap.size 75 3 (.slice ua un uc) M.length (cat Ce.enc M) := ownsRow_below HI.out.2.1 hB6
   have hs5 : V6.ownsRow V.heap.size 108 2 (.slice a5 xl c5) xl (cat Sd.enc x.s) := by
    rw [hV6]
    exact row_setH H5.out.1 (fun b hb e => by have := (H5.out.1.lt b hb).1; have e : b = q := e; omega) _
   have hz6 : W.heap.size ≤ V6.heap.size := Nat.le_trans hWr hB6.size
   rw [← hV6]
   have H6 := lhd (aiq hrow (aiq hs5 (aiq hB6 b2)))
   clear hV6 hB5 hrow hs5 hB6 b2 y2' z2' hWr hz hqq hqV
   go_wp2_with (at_builtin; refine wpList_appL (W := V6) rfl _ _ 24 rfl W.heap.size 75 Tryz.infoEc Tryz.underlying24 rfl (by decide) (by decide) _ _ _ rfl H6.out.1 [.int .i64 x.id, .int .i64 x.dim, .slice a5 xl c5] rfl rfl (Ce.enc_one ⟨x.id, x.dim, a5, xl, c5, x.s⟩) (by omega) (Below.refl _ _) hz6 ?_)
   intro gb gc w7 hr7 hg7 hl7 hB7
   have hzW := HB.out.2.2.2.2
   have b7 : Bv w7 (w.heap.size + 1 + 1) (.slice ua un uc) := H6.out.2.2.2.below hB7 (by omega)
   have c7 := b7.1
   have f7 := b7.2
   have H7 := lhd (aiq hr7 (aiq hg7 (aiq hl7 (aiq hB7 (aiq b7 hzW)))))
   clear hr7 hg7 hl7 hB7 b7 hzW c2 f2 g0 g1 g2
   go_wp2_with fail
   go_roundw
   case measure => simp [vI]; omega
   case rel =>
    obtain ⟨hr7, hg7, hl7, hB7, b7, hzW⟩ := H7.out
    obtain ⟨i1, i2, i3, i4, i5, i6, i7, i8⟩ := HI.out
    have hB6 := H6.out.2.2.1
    have hlow : ∀ b u z, b < W.heap.size → b ≠ w.heap.size + 1 + 1 → Bv wr b u → Bv (w7.setCell ⟨w.heap.size + 1 + 1, 0, none⟩ z) b u := fun b u z hb hne h => ((h.keep hB6).below hB7 hb).other hne _
    refine ⟨k + 1, _, M ++ [⟨x.id, x.dim, a5, xl, c5, x.s⟩], i64_eq (by omega), by omega, by rw [List.length_append]; show M.length + 1 = _; omega, (show Hid _ from ⟨?_, ?_, ?_, b7.put _, ?_, ?_, ?_, ?_⟩)⟩
    ·rw [List.map_append, i1, List.take_add_one, HX.out.1, List.map_append]; rfl
    ·rw [List.length_append, hMk, cat_append, cat_one]
     exact ownsRow_setCell_below (a := ⟨w.heap.size + 1 + 1, 0, none⟩) hr7 (by show w.heap.size + 1 + 1 < _; omega) _
    ·refine (CS.snoc (B := V.heap.size) i3 (Nat.le_trans i8 HV.out.1.size) HV.out.1.size (hB6.trans ((Below.refl _ _).alloc hB6.size _)) ?_ (fun b hb => (i2.lt b hb).2) hg7 ?_).low (p := ⟨w.heap.size + 1 + 1, 0, none⟩) (by show w.heap.size + 1 + 1 < _; omega) _
     ·show World.ownsRow _ _ _ _ (.slice a5 xl c5) x.s.length _
      rw [← H5.out.2.2]
      exact (H6.out.2.1.alloc _)
     ·exact hl7.imp_right fun e => by rw [e]; simp
    ·exact hlow _ _ _ (by omega) (by omega) i5
    ·exact hlow _ _ _ (by omega) (by omega) i6
    ·have h1 := i7.trans (hB6.mono i7.size)
     exact (h1.trans (hB7.mono (show w.heap.size ≤ W.heap.size by omega))).setCell (by show w.heap.size ≤ w.heap.size + 1 + 1; omega) _
    ·have := hB7.size; have := hB6.size; simp; omega
  ·have hkn : k = n := by omega
   subst hkn
   obtain ⟨ua, un, uc, rfl⟩ := sl_shape (Sl.of_ownsRow HI.out.2.1)
   have f1 := HI.out.2.2.2.2.2.1.2
   have c1 := HI.out.2.2.2.2.2.1.1
   go_wp2
   refine bodyPost_ret (v := .agg #[.slice ua un uc]) ?_ rfl ⟨_, M, rfl, ?_, ?_, ?_, ?_⟩
   ·simp [results, Tryz.results102, go_sem, c1]
   ·rw [HI.out.1, List.take_of_length_le (by rw [HH.out.2.1]; exact nlr _)]
   ·exact ownsRow_mono (ownsRow_setCell_below HI.out.2.1 (by have := HB.out.2.2.2.2; show w.heap.size + 1 < _; omega) _) (by have := HB.out.2.2.2.2; omega)
   ·have h3 := HI.out.2.2.1.low (p := ⟨w.heap.size + 1, 0, none⟩) (by have := HB.out.2.2.2.2; show w.heap.size + 1 < _; omega) (.slice ua un uc)
    exact ⟨fun x hx => ownsRow_mono (h3.sds x hx) (by have := HB.out.2.2.2.2; omega), h3.dst, h3.far⟩
   ·exact HI.out.2.2.2.2.2.2.1.setCell (p := ⟨w.heap.size + 1, 0, none⟩) (by show w.heap.size ≤ w.heap.size + 1; omega) _
end Go.Proofs.YtlhicnfeajejhaaGreatDoor
namespace Go.Cx
open Go.Proofs.YtlhicnfeajejhaaGreatDoor Go.RowKit
theorem cat_put3 : ∀ (L : List Ce) (i : Nat) (y : Ce), i < L.length → (((cat Ce.enc L).set (i * 3) (.int .i64 y.id)).set (i * 3 + 1) (.int .i64 y.dim)).set (i * 3 + 2) (.slice y.a y.n y.c) = cat Ce.enc (L.set i y)
 | [], i, y, h => absurd h (Nat.not_lt_zero _)
 | x :: L, 0, y, h => rfl
 | x :: L, i + 1, y, h => by
  have ih := cat_put3 L i y (by simpa using h)
  rw [List.set_cons_succ, cat_cons, cat_cons, ← ih, show (i + 1) * 3 = i * 3 + 1 + 1 + 1 by omega]
  rfl
theorem cat_put2 : ∀ (L : List Sd) (i : Nat) (y : Sd), i < L.length → ((cat Sd.enc L).set (i * 2) (.int .i64 y.c)).set (i * 2 + 1) (.int .i64 y.g) = cat Sd.enc (L.set i y)
 | [], i, y, h => absurd h (Nat.not_lt_zero _)
 | x :: L, 0, y, h => rfl
 | x :: L, i + 1, y, h => by
  have ih := cat_put2 L i y (by simpa using h)
  rw [List.set_cons_succ, cat_cons, cat_cons, ← ih, show (i + 1) * 2 = i * 2 + 1 + 1 by omega]
  rfl
theorem put3 {w : World} {base g n c : Nat} {t : TypeId} {L : List Ce} (h : w.ownsRow base t 3 (.slice (some ⟨g, 0, none⟩) n c) n (cat Ce.enc L)) (i : Nat) (y : Ce) (hi : i < L.length) :
  (((w.setCell ⟨g, i * 3, none⟩ (.int .i64 y.id)).setCell ⟨g, i * 3 + 1, none⟩ (.int .i64 y.dim)).setCell ⟨g, i * 3 + 2, none⟩ (.slice y.a y.n y.c)).ownsRow base t 3 (.slice (some ⟨g, 0, none⟩) n c) n (cat Ce.enc (L.set i y)) := by
 rw [← cat_put3 L i y hi]
 exact (((h.stored _ _).1.stored _ _).1.stored _ _).1
theorem put2 {w : World} {base g n c : Nat} {t : TypeId} {L : List Sd} (h : w.ownsRow base t 2 (.slice (some ⟨g, 0, none⟩) n c) n (cat Sd.enc L)) (i : Nat) (y : Sd) (hi : i < L.length) :
  ((w.setCell ⟨g, i * 2, none⟩ (.int .i64 y.c)).setCell ⟨g, i * 2 + 1, none⟩ (.int .i64 y.g)).ownsRow base t 2 (.slice (some ⟨g, 0, none⟩) n c) n (cat Sd.enc (L.set i y)) := by
 rw [← cat_put2 L i y hi]
 exact ((h.stored _ _).1.stored _ _).1
theorem swap_at {α : Type} (l : List α) {i k : Nat} {x y : α} (hi : l[i]? = some x) (hk : l[k]? = some y) : ((l.set i y).set k x).Perm l := by
 obtain ⟨h1, rfl⟩ := List.getElem?_eq_some_iff.1 hi
 obtain ⟨h2, rfl⟩ := List.getElem?_eq_some_iff.1 hk
 exact List.set_set_perm h1 h2
theorem cat_same : ∀ (L : List Ce) (i : Nat) (x y : Ce), L[i]? = some x → y.enc = x.enc → cat Ce.enc (L.set i y) = cat Ce.enc L
 | [], i, x, y, h, _ => by simp at h
 | z :: L, 0, x, y, h, e => by
  have : z = x := by simpa using h
  subst this
  rw [List.set_cons_zero, cat_cons, cat_cons, e]
 | z :: L, i + 1, x, y, h, e => by
  rw [List.set_cons_succ, cat_cons, cat_cons, cat_same L i x y (by simpa using h) e]
end Go.Cx
namespace Go.Proofs.YtlhicnfeajejhaaGreatDoor
open Go.RowKit Go.Cx
attribute [local go_sem ↓] Go.wp_at_zero Go.wp_at_succ
theorem CS.set3 {w : World} {base g n c : Nat} {L : List Ce} (h : CS w base (.slice (some ⟨g, 0, none⟩) n c) L) (j : Nat) (u : Value) : CS (w.setCell ⟨g, j, none⟩ u) base (.slice (some ⟨g, 0, none⟩) n c) L :=
 ⟨fun x hx => row_setH (h.sds x hx) (fun b hb e => h.far x hx b hb (by rw [e]; rfl)) u, h.dst, h.far⟩
theorem CS.set2 {w w' : World} {base : Nat} {v : Value} {L : List Ce} (h : CS w base v L) {i : Nat} {x y : Ce} (hi : L[i]? = some x) (hsl : y.sl = x.sl) (hy : w'.ownsRow base 108 2 y.sl y.s.length (cat Sd.enc y.s))
  (hk : ∀ z ∈ L, Apr z.sl x.sl → w'.ownsRow base 108 2 z.sl z.s.length (cat Sd.enc z.s)) : CS w' base v (L.set i y) := by
 have hx := List.mem_of_getElem? hi
 refine ⟨fun z hz => ?_, pw_set (fun _ _ h => h.symm) h.dst fun j z hj hz => ?_, fun z hz => ?_⟩
 ·obtain ⟨j, hj⟩ := List.getElem?_of_mem hz
  rw [List.getElem?_set] at hj
  by_cases hij : i = j
  ·rw [if_pos hij] at hj
   split at hj
   ·cases hj; exact hy
   ·cases hj
  ·rw [if_neg hij] at hj
   refine hk z (List.mem_of_getElem? hj) ?_
   obtain ⟨i1, rfl⟩ := List.getElem?_eq_some_iff.1 hi
   obtain ⟨j1, rfl⟩ := List.getElem?_eq_some_iff.1 hj
   have hp := List.pairwise_iff_getElem.1 h.dst
   rcases Nat.lt_or_gt_of_ne hij with h1 | h1
   ·exact (hp i j i1 j1 h1).symm
   ·exact hp j i j1 i1 h1
 ·rw [hsl]
  obtain ⟨i1, rfl⟩ := List.getElem?_eq_some_iff.1 hi
  obtain ⟨j1, rfl⟩ := List.getElem?_eq_some_iff.1 hz
  have hp := List.pairwise_iff_getElem.1 h.dst
  rcases Nat.lt_or_gt_of_ne hj with h1 | h1
  ·exact (hp j i j1 i1 h1).symm
  ·exact hp i j i1 j1 h1
 ·rcases List.mem_or_eq_of_mem_set hz with hz | rfl
  ·exact h.far z hz
  ·rw [hsl]; exact h.far x hx
theorem smMod (n m : Int) (w : World) (h1 : 1 ≤ m) (h2 : m ≤ 1000000000) : Calls Tryz.prog 103 #[.int .i64 n, .int .i64 m] w fun e w' => e = .returned (.int .i64 (n % m)) ∧ Below w.heap.size w w' := by
 have hm : ¬ m = 0 := by omega
 have h3 := Int.lt_tmod_of_pos n (show 0 < m by omega)
 have h4 := Int.tmod_lt_of_pos n (show 0 < m by omega)
 have he := mod_eq n m h1
 have HE := lhd he
 clear he
 go_enter Tryz.func103, Tryz.ntmps103
 go_wp2
 go_ret
 exact ⟨by rw [← HE.out]; rfl, Below.refl _ _⟩
theorem smShuffled (v : Value) (l : List Ce) (by_ : Int) (w : World) (h : SlC w v l) (hl : l.length ≤ 1000000) (hsl : ∀ x ∈ l, x.s.length ≤ 1000000) :
  Calls Tryz.prog 40 #[.agg #[v], .int .i64 by_] w fun e w' => ∃ r M, e = .returned (.agg #[r]) ∧ Shu (l.map Ce.cl) (M.map Ce.cl) ∧ SlC w' r M ∧ Below w.heap.size w w' := by
 obtain ⟨a, n0, cap, rfl⟩ := sl_shape h.1
 obtain ⟨W, hW⟩ : ∃ W, W = (w.alloc (.cells #[.slice a n0 cap] 26)).alloc (.cells #[.slice none 0 0] 26) := ⟨_, rfl⟩
 have hB : Below w.heap.size w W := by rw [hW]; exact ((Below.refl _ w).alloc (nlr _) _).alloc (by simp) _
 have hzW : W.heap.size = w.heap.size + 2 := by rw [hW]; simp
 have b1 : Bv W (w.heap.size + 1) (.slice none 0 0) := by
  rw [hW]
  have := Bv.new (w.alloc (.cells #[.slice a n0 cap] 26)) (.slice none 0 0) 26
  rw [World.size_alloc] at this
  exact this
 have hcp := smCopy _ l W (h.keep hB) hl hsl
 have HH := lhd (aiq hB (aiq b1 (aiq hzW (aiq hcp hsl))))
 have HWq := lhd hW
 clear h hsl hB hzW b1 hcp hW
 go_enter Tryz.func40, Tryz.ntmps40
 go_wp2_with fail
 rw [← HWq.out]
 refine HH.out.2.2.2.1.mono ?_
 rintro e w1 ⟨r, M, rfl, hM, hrow, hcs, hb1⟩
 obtain ⟨ra, rc, hre⟩ := ownsRow_len hrow
 subst hre
 obtain ⟨n, hn⟩ : ∃ n, n = M.length := ⟨_, rfl⟩
 have hnl : n ≤ 1000000 := by
  have := congrArg List.length hM
  rw [List.length_map, List.length_map] at this
  omega
 rw [← hn] at hrow hcs ⊢
 have hM64 : ∀ x ∈ M, x.s.length ≤ 1000000 := fun x hx => by
  have h8 : x.cl ∈ l.map Ce.cl := by rw [← hM]; exact List.mem_map.2 ⟨x, hx, rfl⟩
  obtain ⟨y, hy, hye⟩ := List.mem_map.1 h8
  have e : y.s = x.s := congrArg Cl.s hye
  rw [← e]
  exact HH.out.2.2.2.2 y hy
 obtain ⟨_, hrc, _⟩ := (Sl.of_ownsRow hrow).open
 unfold maxLen at hrc
 have HM := lhd (aiq hM (aiq hrow (aiq hcs (aiq hb1 (aiq hn hM64)))))
 clear hM hrow hcs hb1 hn hM64
 go_upto_region 2 with fail
 obtain ⟨W2, hW2⟩ : ∃ W2, W2 = w1.alloc (.cells #[.slice ra n rc] 26) := ⟨_, rfl⟩
 obtain ⟨ob, hob⟩ : ∃ ob, ob = w1.heap.size := ⟨_, rfl⟩
 have hB2 : Below w1.heap.size w1 W2 := by rw [hW2]; exact (Below.refl _ _).alloc (nlr _) _
 have b2 : Bv W2 ob (.slice ra n rc) := by rw [hW2, hob]; exact Bv.new _ _ _
 rw [← hob, ← hW2]
 have hBw : Below w.heap.size w W2 := HH.out.1.trans ((HM.out.2.2.2.1.trans (hB2.mono HM.out.2.2.2.1.size)).mono HH.out.1.size)
 have b1 : Bv W2 (w.heap.size + 1) (.slice none 0 0) := (HH.out.2.1.keep HM.out.2.2.2.1).keep hB2
 have hob2 : W.heap.size ≤ ob := by rw [hob]; exact HM.out.2.2.2.1.size
 have hrw := ownsRow_below HM.out.2.1 hB2
 have hcw := HM.out.2.2.1.keep hB2
 have hne : ∀ b, (Value.slice ra n rc).ownBlock = some b → b ≠ ob := fun b hb => by have := (HM.out.2.1.lt b hb).2; omega
 have hne2 : ∀ x ∈ M, ∀ b, x.sl.ownBlock = some b → b ≠ ob := fun x hx b hb => by have := ((HM.out.2.2.1.sds x hx).lt b hb).2; omega
 have c2 := b2.1
 have H2 := lhd (aiq hBw (aiq b1 (aiq b2 (aiq hrw (aiq hcw (aiq hne (aiq hob2 hne2)))))))
 clear hW2 hob hB2 b2 hBw b1 hob2 hrw hcw hne hne2
 go_wp2_with fail
 go_loopw [6] (fun p wr => ∃ (t : Nat) (P : List Ce), p = .int .i64 ((t : Int) - 1) ∧ t ≤ n ∧ P.length = n ∧ Hid (P.Perm M ∧ wr.ownsRow W.heap.size 75 3 (.slice ra n rc) n (cat Ce.enc P) ∧ CS wr W.heap.size (.slice ra n rc) M ∧ Bv wr ob (.slice ra n rc) ∧ Bv wr (w.heap.size + 1) (.slice none 0 0) ∧ Below w.heap.size w wr ∧ ob < wr.heap.size)) (fun p _ => (vI p).toNat)
 case atStart => exact ⟨n, M, rfl, nlr _, HM.out.2.2.2.2.1.symm, (show Hid _ from ⟨List.Perm.refl _, H2.out.2.2.2.1, H2.out.2.2.2.2.1, H2.out.2.2.1, H2.out.2.1, H2.out.1, World.block_lt_of_cell? W2 _ c2⟩)⟩
 case round =>
  obtain ⟨t, P, rfl, ht, hPn, HI⟩ := hrel
  by_cases ht2 : 2 ≤ t
  ·obtain ⟨i, hi⟩ : ∃ i, t = i + 1 := ⟨t - 1, by omega⟩
   have hti : (t : Int) - 1 = (i : Int) := by omega
   rw [hti]
   have hi0 : (0 : Int) < i := by omega
   have hin : i < n := by omega
   have hinI : (i : Int) < n := by omega
   have hi1 : (1 : Int) ≤ (i : Int) + 1 := by omega
   have hi2 : (i : Int) + 1 ≤ 1000000000 := by omega
   have HI1 := lhd (aiq hi1 hi2)
   obtain ⟨g, cg, hre, hg1, hg2⟩ := HI.out.2.1.form (by omega)
   injection hre with hre1 hre2 hre3
   subst hre1 hre3
   clear hi ht2 ht hti hi1 hi2
   go_wp2_with fail
   refine (smMod _ _ wr HI1.out.1 HI1.out.2).mono ?_
   rintro e w3 ⟨rfl, hb3⟩
   obtain ⟨k, hk, hki⟩ : ∃ k : Nat, wrap64 (by_ + 7 * (i : Int)) % ((i : Int) + 1) = (k : Int) ∧ k ≤ i := by
    have h1 := Int.emod_nonneg (wrap64 (by_ + 7 * (i : Int))) (show ((i : Int) + 1) ≠ 0 by omega)
    have h2 := Int.emod_lt_of_pos (wrap64 (by_ + 7 * (i : Int))) (show 0 < (i : Int) + 1 by omega)
    exact ⟨(wrap64 (by_ + 7 * (i : Int)) % ((i : Int) + 1)).toNat, by omega, by omega⟩
   rw [hk]
   have HK := lhd hk
   obtain ⟨x, hx⟩ : ∃ x, P[i]? = some x := ⟨_, List.getElem?_eq_getElem (by omega)⟩
   obtain ⟨y, hy⟩ : ∃ y, P[k]? = some y := ⟨_, List.getElem?_eq_getElem (by omega)⟩
   have hkI : (k : Int) < n := by omega
   obtain ⟨p1, p2, p3, p4, p5, p6, p7⟩ := HI.out
   have hrow := ownsRow_below p2 hb3
   have at3 : ∀ (w : World) (L : List Ce) (j : Nat) (z : Ce), w.ownsRow W.heap.size 75 3 (.slice (some ⟨g, 0, none⟩) n rc) n (cat Ce.enc L) → j < n → L[j]? = some z → w.cell? ⟨g, j * 3, none⟩ = some (.int .i64 z.id) ∧ w.cell? ⟨g, j * 3 + 1, none⟩ = some (.int .i64 z.dim) ∧ w.cell? ⟨g, j * 3 + 2, none⟩ = some (.slice z.a z.n z.c) ∧ w.frozen? ⟨g, j * 3, none⟩ = false ∧ w.frozen? ⟨g, j * 3 + 1, none⟩ = false ∧ w.frozen? ⟨g, j * 3 + 2, none⟩ = false := fun w L j z hr hj hz => by
    obtain ⟨e0, e1, e2⟩ := ce_get L j z hz
    exact ⟨(hr.cellAt _ (by omega)).trans e0, (hr.cellAt _ (by omega)).trans e1, (hr.cellAt _ (by omega)).trans e2, hr.frozenAt _, hr.frozenAt _, hr.frozenAt _⟩
   have AT := lhd at3
   obtain ⟨d0, d1, d2, _⟩ := at3 w3 P i x hrow hin hx
   have c3 := (p4.keep hb3).1
   have H3 := lhd (aiq hx (aiq hy (aiq hrow hb3)))
   clear hk hx hy p1 p2 p3 p4 p5 p6 p7 hrow hb3 at3 c2
   go_upto_region 7 with fail
   obtain ⟨V, hV⟩ : ∃ V, V = w3.alloc (.cells #[.int .i64 x.id, .int .i64 x.dim, .slice x.a x.n x.c] 75) := ⟨_, rfl⟩
   obtain ⟨q, hq⟩ : ∃ q, q = w3.heap.size := ⟨_, rfl⟩
   have hBV : Below w3.heap.size w3 V := by rw [hV]; exact (Below.refl _ w3).alloc (nlr _) _
   have x0 : V.cell? ⟨q, 0, none⟩ = some (.int .i64 x.id) := by rw [hV, hq]; exact cell_new w3 _ _ (0, 0) 0
   have x1 : V.cell? ⟨q, 1, none⟩ = some (.int .i64 x.dim) := by rw [hV, hq]; exact cell_new w3 _ _ (0, 0) 1
   have x2 : V.cell? ⟨q, 2, none⟩ = some (.slice x.a x.n x.c) := by rw [hV, hq]; exact cell_new w3 _ _ (0, 0) 2
   rw [← hq, ← hV]
   have hrV := ownsRow_below H3.out.2.2.1 hBV
   obtain ⟨i0, i1, i2, i3, i4, i5⟩ := AT.out V P i x hrV hin H3.out.1
   obtain ⟨k0, k1, k2, _⟩ := AT.out V P k y hrV (by omega) H3.out.2.1
   have cV := Cx.keep hBV c3
   have hgq : g < q := by rw [hq]; exact Nat.lt_of_lt_of_le hg2 H3.out.2.2.2.size
   have HV := lhd (aiq hBV (aiq x0 (aiq x1 (aiq x2 (aiq hrV (aiq cV (aiq hgq hq)))))))
   clear hBV x0 x1 x2 hrV d0 d1 d2 c3 hV hq hgq
   go_still_tail 8, (by kernel_rfl)
   change wpList _ _ _ _ _ V.drew
   have hD : Below V.heap.size V V.drew := below_draws (Below.refl _ V) 1
   obtain ⟨U, hU⟩ : ∃ U, U = V.drew := ⟨_, rfl⟩
   rw [← hU] at hD ⊢
   have HD := lhd hD
   have hrU := ownsRow_below HV.out.2.2.2.2.1 hD
   obtain ⟨j0, j1, j2, j3, j4, j5⟩ := AT.out U P i x hrU hin H3.out.1
   obtain ⟨m0, m1, m2, _⟩ := AT.out U P k y hrU (by omega) H3.out.2.1
   have cU := Cx.keep hD HV.out.2.2.2.2.2.1
   clear i0 i1 i2 i3 i4 i5 k0 k1 k2 cV hU hD hrU
   go_upto_region 8 with fail
   obtain ⟨U2, hU2⟩ : ∃ U2, U2 = ((U.setCell ⟨g, i * 3, none⟩ (.int .i64 y.id)).setCell ⟨g, i * 3 + 1, none⟩ (.int .i64 y.dim)).setCell ⟨g, i * 3 + 2, none⟩ (.slice y.a y.n y.c) := ⟨_, rfl⟩
   rw [← hU2]
   have hobg : ob ≠ g := fun e => H2.out.2.2.2.2.2.1 g rfl e.symm
   have hqg : q ≠ g := by have := HV.out.2.2.2.2.2.2.1; omega
   have far : ∀ b j v, b ≠ g → U.cell? ⟨b, j, none⟩ = some v → U2.cell? ⟨b, j, none⟩ = some v := fun b j v hb h => by
    rw [hU2]; exact cell_set (cell_set (cell_set h hb) hb) hb
   have y0 := far q 0 _ hqg (Cx.keep HD.out HV.out.2.1)
   have y1 := far q 1 _ hqg (Cx.keep HD.out HV.out.2.2.1)
   have y2 := far q 2 _ hqg (Cx.keep HD.out HV.out.2.2.2.1)
   have cU2 := far ob 0 _ hobg cU
   have hrU := ownsRow_below HV.out.2.2.2.2.1 HD.out
   have hrU2 : U2.ownsRow W.heap.size 75 3 (.slice (some ⟨g, 0, none⟩) n rc) n (cat Ce.enc (P.set i y)) := by rw [hU2]; exact put3 hrU i y (by omega)
   obtain ⟨z, hz⟩ : ∃ z, (P.set i y)[k]? = some z := ⟨_, List.getElem?_eq_getElem (by rw [List.length_set]; omega)⟩
   obtain ⟨z0, z1, z2, z3, z4, z5⟩ := AT.out U2 (P.set i y) k z hrU2 (by omega) hz
   have HU2 := lhd (aiq hU2 hrU2)
   clear j0 j1 j2 j3 j4 j5 m0 m1 m2 cU hobg far hrU hrU2 hU2 hz
   go_wp2_with fail
   go_roundw
   case measure => simp [vI]; omega
   case rel =>
    obtain ⟨p1, p2, p3, p4, p5, p6, p7⟩ := HI.out
    have hBw : Below wr.heap.size wr U := (H3.out.2.2.2.trans ((HV.out.1.trans (HD.out.mono HV.out.1.size)).mono H3.out.2.2.2.size))
    have hgl := hg1
    have hobg : ob ≠ g := fun e => H2.out.2.2.2.2.2.1 g rfl e.symm
    refine ⟨i, (P.set i y).set k x, i64_eq (by omega), by omega, by rw [List.length_set, List.length_set]; exact hPn, (show Hid _ from ⟨(swap_at P H3.out.1 H3.out.2.1).trans p1, put3 HU2.out.2 k x (by rw [List.length_set]; omega), ?_, ?_, ?_, ?_, ?_⟩)⟩
    ·rw [HU2.out.1]
     exact ((((((p3.keep hBw).set3 _ _).set3 _ _).set3 _ _).set3 _ _).set3 _ _).set3 _ _
    ·rw [HU2.out.1]
     exact ((((((p4.keep hBw).other hobg _).other hobg _).other hobg _).other hobg _).other hobg _).other hobg _
    ·have hne : w.heap.size + 1 ≠ g := by have := HH.out.2.2.1; omega
     rw [HU2.out.1]
     exact ((((((p5.keep hBw).other hne _).other hne _).other hne _).other hne _).other hne _).other hne _
    ·have hle : w.heap.size ≤ g := by have := HH.out.2.2.1; omega
     rw [HU2.out.1]
     exact ((((((p6.trans (hBw.mono p6.size)).setCell hle _).setCell hle _).setCell hle _).setCell hle _).setCell hle _).setCell hle _
    ·have := hBw.size
     rw [HU2.out.1]
     simp
     omega
  ·have hnt : ¬ (0 : Int) < (t : Int) - 1 := by omega
   have c3 := HI.out.2.2.2.1.1
   obtain ⟨wo, hwo⟩ : ∃ wo, wo = wr := ⟨_, rfl⟩
   subst hwo
   have HP := lhd (aiq HI.out.1 (HI.out.2.2.1.perm HI.out.1.symm))
   clear ht2 ht c2
   go_wp2_with fail
   go_loopw [9] (fun p wr => ∃ (i : Nat) (Q : List Ce), p = .int .i64 i ∧ i ≤ n ∧ Q.length = n ∧ Hid (Mix (P.map Ce.cl) (Q.map Ce.cl) ∧ wr.ownsRow W.heap.size 75 3 (.slice ra n rc) n (cat Ce.enc Q) ∧ CS wr W.heap.size (.slice ra n rc) Q ∧ Bv wr ob (.slice ra n rc) ∧ Bv wr (w.heap.size + 1) (.slice none 0 0) ∧ Below w.heap.size w wr ∧ ob < wr.heap.size ∧ ∀ x ∈ Q, x.s.length ≤ 1000000 ∧ ∀ b, x.sl.ownBlock = some b → b ≠ ob)) (fun p _ => n - (vI p).toNat)
   case atStart => exact ⟨0, P, rfl, Nat.zero_le _, hPn, (show Hid _ from ⟨Mix.refl _, HI.out.2.1, HP.out.2, HI.out.2.2.2.1, HI.out.2.2.2.2.1, HI.out.2.2.2.2.2.1, HI.out.2.2.2.2.2.2, fun x hx => ⟨HM.out.2.2.2.2.2 x (HP.out.1.mem_iff.1 hx), H2.out.2.2.2.2.2.2.2 x (HP.out.1.mem_iff.1 hx)⟩⟩)⟩
   case round =>
    obtain ⟨i, Q, rfl, hi, hQn, HQ⟩ := hrel
    have c4 := HQ.out.2.2.2.1.1
    by_cases hlt : i < n
    ·obtain ⟨g, cg, hre, hg1, hg2⟩ := HQ.out.2.1.form (by omega)
     injection hre with hre1 hre2 hre3
     subst hre1 hre3
     obtain ⟨x, hx⟩ : ∃ x, Q[i]? = some x := ⟨_, List.getElem?_eq_getElem (by omega)⟩
     obtain ⟨e0, e1, e2⟩ := ce_get Q i x hx
     have d2 : wr.cell? ⟨g, i * 3 + 2, none⟩ = some (.slice x.a x.n x.c) := (HQ.out.2.1.cellAt _ (by omega)).trans e2
     have hrs := HQ.out.2.2.1.sds x (List.mem_of_getElem? hx)
     have hxl := (HQ.out.2.2.2.2.2.2.2 x (List.mem_of_getElem? hx)).1
     have hxn : x.s.length = x.n := by
      obtain ⟨_, _, h3, _⟩ := (Sl.of_ownsRow hrs).open
      have h4 : (cat Sd.enc x.s).length = x.n * 2 := h3
      rw [cat_len Sd.enc_len] at h4; omega
     obtain ⟨m, hm⟩ : ∃ m, m = x.n := ⟨_, rfl⟩
     have hm6 : m ≤ 1000000 := by omega
     have hrs' : wr.ownsRow W.heap.size 108 2 (.slice x.a m x.c) m (cat Sd.enc x.s) := by rw [hm]; exact row_n hrs hxn
     obtain ⟨xa, hxa⟩ : ∃ xa, xa = x.a := ⟨_, rfl⟩
     obtain ⟨xc, hxc⟩ : ∃ xc, xc = x.c := ⟨_, rfl⟩
     rw [← hm, ← hxa, ← hxc] at d2
     rw [← hxa, ← hxc] at hrs'
     obtain ⟨hmc, hxc64, _⟩ := (Sl.of_ownsRow hrs').open
     unfold maxLen at hxc64
     obtain ⟨wi, hwi⟩ : ∃ wi, wi = wr := ⟨_, rfl⟩
     subst hwi
     have HX := lhd (aiq hx (aiq hrs' (aiq hxn (aiq hm (aiq hxa hxc)))))
     clear e0 e1 e2 hx hrs hxl hxn hm hrs' hxa hxc c3
     go_wp2_with fail
     go_loopw [11] (fun p wr => ∃ (t : Nat) (S : List Sd), p = .int .i64 ((t : Int) - 1) ∧ t ≤ m ∧ S.length = m ∧ Hid (S.Perm x.s ∧ wr.ownsRow W.heap.size 75 3 (.slice (some ⟨g, 0, none⟩) n rc) n (cat Ce.enc Q) ∧ wr.ownsRow W.heap.size 108 2 (.slice xa m xc) m (cat Sd.enc S) ∧ (∀ z ∈ Q, Apr z.sl (.slice xa m xc) → wr.ownsRow W.heap.size 108 2 z.sl z.s.length (cat Sd.enc z.s)) ∧ Bv wr ob (.slice (some ⟨g, 0, none⟩) n rc) ∧ Bv wr (w.heap.size + 1) (.slice none 0 0) ∧ Below w.heap.size w wr ∧ ob < wr.heap.size)) (fun p _ => (vI p).toNat)
     case atStart => exact ⟨m, x.s, rfl, nlr _, by rw [HX.out.2.2.1, HX.out.2.2.2.1], (show Hid _ from ⟨List.Perm.refl _, HQ.out.2.1, HX.out.2.1, fun z hz _ => HQ.out.2.2.1.sds z hz, HQ.out.2.2.2.1, HQ.out.2.2.2.2.1, HQ.out.2.2.2.2.2.1, HQ.out.2.2.2.2.2.2.1⟩)⟩
     case round =>
      obtain ⟨t3, S, rfl, ht3, hSm, HS⟩ := hrel
      by_cases ht2 : 2 ≤ t3
      ·obtain ⟨j, hj⟩ : ∃ j, t3 = j + 1 := ⟨t3 - 1, by omega⟩
       have htj : (t3 : Int) - 1 = (j : Int) := by omega
       rw [htj]
       have hj0 : (0 : Int) < j := by omega
       have hjm : j < m := by omega
       have hjI : (j : Int) < m := by omega
       have HJ1 := lhd (show (1 : Int) ≤ (j : Int) + 1 ∧ (j : Int) + 1 ≤ 1000000000 by omega)
       obtain ⟨g2, cg2, hre, hs1, hs2⟩ := HS.out.2.2.1.form (by omega)
       injection hre with hre1 hre2 hre3
       subst hre1 hre3
       clear hj ht2 ht3 htj
       go_wp2_with fail
       refine (smMod _ _ wr HJ1.out.1 HJ1.out.2).mono ?_
       rintro e w3 ⟨rfl, hb3⟩
       obtain ⟨k, hk, hkj⟩ : ∃ k : Nat, wrap64 (wrap64 (by_.tdiv 3) + 5 * (j : Int)) % ((j : Int) + 1) = (k : Int) ∧ k ≤ j := by
        have h1 := Int.emod_nonneg (wrap64 (wrap64 (by_.tdiv 3) + 5 * (j : Int))) (show ((j : Int) + 1) ≠ 0 by omega)
        have h2 := Int.emod_lt_of_pos (wrap64 (wrap64 (by_.tdiv 3) + 5 * (j : Int))) (show 0 < (j : Int) + 1 by omega)
        exact ⟨(wrap64 (wrap64 (by_.tdiv 3) + 5 * (j : Int)) % ((j : Int) + 1)).toNat, by omega, by omega⟩
       rw [hk]
       obtain ⟨s, hs⟩ : ∃ s, S[j]? = some s := ⟨_, List.getElem?_eq_getElem (by omega)⟩
       obtain ⟨r, hr⟩ : ∃ r, S[k]? = some r := ⟨_, List.getElem?_eq_getElem (by omega)⟩
       have hkI : (k : Int) < m := by omega
       have at2 : ∀ (w : World) (L : List Sd) (j : Nat) (z : Sd), w.ownsRow W.heap.size 108 2 (.slice (some ⟨g2, 0, none⟩) m xc) m (cat Sd.enc L) → j < m → L[j]? = some z → w.cell? ⟨g2, j * 2, none⟩ = some (.int .i64 z.c) ∧ w.cell? ⟨g2, j * 2 + 1, none⟩ = some (.int .i64 z.g) ∧ w.frozen? ⟨g2, j * 2, none⟩ = false ∧ w.frozen? ⟨g2, j * 2 + 1, none⟩ = false := fun w L j z hr hj hz => by
        obtain ⟨e0, e1⟩ := sd_get L j z hz
        exact ⟨(hr.cellAt _ (by omega)).trans e0, (hr.cellAt _ (by omega)).trans e1, hr.frozenAt _, hr.frozenAt _⟩
       have AT := lhd at2
       have hr3 := ownsRow_below HS.out.2.2.1 hb3
       obtain ⟨d0, d1, _⟩ := at2 w3 S j s hr3 hjm hs
       have H3 := lhd (aiq hs (aiq hr (aiq hr3 hb3)))
       clear hk hs hr hr3 hb3 at2 c4 d2
       go_upto_region 18 with fail
       obtain ⟨V, hV⟩ : ∃ V, V = w3.alloc (.cells #[.int .i64 s.c, .int .i64 s.g] 108) := ⟨_, rfl⟩
       obtain ⟨q, hq⟩ : ∃ q, q = w3.heap.size := ⟨_, rfl⟩
       have hBV : Below w3.heap.size w3 V := by rw [hV]; exact (Below.refl _ w3).alloc (nlr _) _
       have x0 : V.cell? ⟨q, 0, none⟩ = some (.int .i64 s.c) := by rw [hV, hq]; exact cell_new w3 _ _ (0, 0) 0
       have x1 : V.cell? ⟨q, 1, none⟩ = some (.int .i64 s.g) := by rw [hV, hq]; exact cell_new w3 _ _ (0, 0) 1
       rw [← hq, ← hV]
       have hrV := ownsRow_below H3.out.2.2.1 hBV
       obtain ⟨i0, i1, i2, i3⟩ := AT.out V S j s hrV hjm H3.out.1
       obtain ⟨k0, k1, _⟩ := AT.out V S k r hrV (by omega) H3.out.2.1
       have hgq : g2 < q := by rw [hq]; exact Nat.lt_of_lt_of_le hs2 H3.out.2.2.2.size
       have HV := lhd (aiq hBV (aiq x0 (aiq x1 (aiq hrV hgq))))
       clear hBV x0 x1 hrV d0 d1 hV hq hgq
       go_upto_region 19 with fail
       obtain ⟨U, hU⟩ : ∃ U, U = (V.setCell ⟨g2, j * 2, none⟩ (.int .i64 r.c)).setCell ⟨g2, j * 2 + 1, none⟩ (.int .i64 r.g) := ⟨_, rfl⟩
       rw [← hU]
       have hqg : q ≠ g2 := by have := HV.out.2.2.2.2; omega
       have y0 : U.cell? ⟨q, 0, none⟩ = some (.int .i64 s.c) := by rw [hU]; exact cell_set (cell_set HV.out.2.1 hqg) hqg
       have y1 : U.cell? ⟨q, 1, none⟩ = some (.int .i64 s.g) := by rw [hU]; exact cell_set (cell_set HV.out.2.2.1 hqg) hqg
       have hrU : U.ownsRow W.heap.size 108 2 (.slice (some ⟨g2, 0, none⟩) m xc) m (cat Sd.enc (S.set j r)) := by rw [hU]; exact put2 HV.out.2.2.2.1 j r (by omega)
       obtain ⟨z, hz⟩ : ∃ z, (S.set j r)[k]? = some z := ⟨_, List.getElem?_eq_getElem (by rw [List.length_set]; omega)⟩
       obtain ⟨z0, z1, z2, z3⟩ := AT.out U (S.set j r) k z hrU (by omega) hz
       have HU := lhd (aiq hU hrU)
       clear i0 i1 i2 i3 k0 k1 hrU hU hz hqg
       go_wp2_with fail
       go_roundw
       case measure => simp [vI]; omega
       case rel =>
        obtain ⟨s1, s2, s3, s4, s5, s6, s7, s8⟩ := HS.out
        have hBw : Below wr.heap.size wr V := H3.out.2.2.2.trans (HV.out.1.mono H3.out.2.2.2.size)
        have hxb : x.sl.ownBlock = some g2 := by
         have := HX.out.2.2.2.2.1
         unfold Ce.sl
         rw [← this]; rfl
        have hxm := List.mem_of_getElem? HX.out.1
        have hog : ob ≠ g2 := fun e => (HQ.out.2.2.2.2.2.2.2 x hxm).2 g2 hxb e.symm
        have hne : w.heap.size + 1 ≠ g2 := by have := HH.out.2.2.1; omega
        have hle : w.heap.size ≤ g2 := by have := HH.out.2.2.1; omega
        have hgg : ∀ b, (Value.slice (some ⟨g, 0, none⟩) n rc).ownBlock = some b → b ≠ g2 := fun b hb e => HQ.out.2.2.1.far x hxm g2 hxb (by rw [hb, e])
        have hset : ∀ {b v}, b ≠ g2 → Bv wr b v → Bv (((U.setCell ⟨g2, k * 2, none⟩ (.int .i64 s.c))).setCell ⟨g2, k * 2 + 1, none⟩ (.int .i64 s.g)) b v := fun {b v} hb h => by
         rw [HU.out.1]
         exact ((((h.keep hBw).other hb _).other hb _).other hb _).other hb _
        have hrowset : ∀ {t : TypeId} {st nn : Nat} {v : Value} {xs : List Value}, (∀ b, v.ownBlock = some b → b ≠ g2) → wr.ownsRow W.heap.size t st v nn xs → (((U.setCell ⟨g2, k * 2, none⟩ (.int .i64 s.c))).setCell ⟨g2, k * 2 + 1, none⟩ (.int .i64 s.g)).ownsRow W.heap.size t st v nn xs := fun {t st nn v xs} hb h => by
         rw [HU.out.1]
         exact row_setH (row_setH (row_setH (row_setH (ownsRow_below h hBw) hb _) hb _) hb _) hb _
        refine ⟨j, (S.set j r).set k s, i64_eq (by omega), by omega, by rw [List.length_set, List.length_set]; exact hSm, (show Hid _ from ⟨(swap_at S H3.out.1 H3.out.2.1).trans s1, hrowset hgg s2, put2 HU.out.2 k s (by rw [List.length_set]; omega), fun z hz ha => hrowset (fun b hb e => ha b hb (by rw [e]; rfl)) (s4 z hz ha), hset hog s5, hset hne s6, ?_, ?_⟩)⟩
        ·rw [HU.out.1]
         exact ((((s7.trans (hBw.mono s7.size)).setCell hle _).setCell hle _).setCell hle _).setCell hle _
        ·have := hBw.size
         rw [HU.out.1]
         simp
         omega
      ·have hnt3 : ¬ (0 : Int) < (t3 : Int) - 1 := by omega
       go_wp2_with fail
       go_roundw
       case measure => simp [vI]; omega
       case rel =>
        obtain ⟨s1, s2, s3, s4, s5, s6, s7, s8⟩ := HS.out
        obtain ⟨x1, x2, x3, x4, x5, x6⟩ := HX.out
        have hsl : x.sl = .slice xa m xc := by unfold Ce.sl; rw [x4, x5, x6]
        refine ⟨i + 1, Q.set i ⟨x.id, x.dim, x.a, x.n, x.c, S⟩, i64_eq (by omega), by omega, by rw [List.length_set]; exact hQn, (show Hid _ from ⟨?_, ?_, ?_, s5, s6, s7, s8, fun z hz => ?_⟩)⟩
        ·rw [List.map_set]
         exact HQ.out.1.at (x := x.cl) (by rw [List.getElem?_map, x1]; rfl) rfl rfl s1
        ·rw [cat_same Q i x ⟨x.id, x.dim, x.a, x.n, x.c, S⟩ x1 rfl]; exact s2
        ·refine HQ.out.2.2.1.set2 x1 rfl ?_ (fun z hz ha => s4 z hz (by rw [← hsl]; exact ha))
         show World.ownsRow _ _ _ _ x.sl S.length _
         rw [hsl, hSm]
         exact s3
        ·rcases List.mem_or_eq_of_mem_set hz with hz | rfl
         ·exact HQ.out.2.2.2.2.2.2.2 z hz
         ·exact ⟨by show S.length ≤ _; omega, (HQ.out.2.2.2.2.2.2.2 x (List.mem_of_getElem? x1)).2⟩
    ·have hin : i = n := by omega
     subst hin
     have f1 := HQ.out.2.2.2.2.1.2
     have c1 := HQ.out.2.2.2.2.1.1
     clear c3
     go_wp2
     refine bodyPost_ret (v := .agg #[.slice ra i rc]) ?_ rfl ⟨_, Q, rfl, ⟨P.map Ce.cl, ?_, HQ.out.1⟩, ?_, ?_⟩
     ·simp [results, Tryz.results40, go_sem, c1]
     ·rw [← HM.out.1]; exact (HP.out.1.map Ce.cl).symm
     ·have hlt : w.heap.size + 1 < W.heap.size := by have := HH.out.2.2.1; omega
      exact ⟨Sl.of_ownsRow (ownsRow_setCell_below (a := ⟨w.heap.size + 1, 0, none⟩) HQ.out.2.1 hlt _), fun x hx => Sl.of_ownsRow ((HQ.out.2.2.1.low (p := ⟨w.heap.size + 1, 0, none⟩) hlt _).sds x hx)⟩
     ·exact HQ.out.2.2.2.2.2.1.setCell (p := ⟨w.heap.size + 1, 0, none⟩) (by show w.heap.size ≤ w.heap.size + 1; omega) _
end Go.Proofs.YtlhicnfeajejhaaGreatDoor
