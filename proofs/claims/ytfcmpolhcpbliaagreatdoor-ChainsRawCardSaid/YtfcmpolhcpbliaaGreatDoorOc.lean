/- cocyclelaw07: raw. -/
import Derived.Test.YtfcmpolhcpbliaaGreatDoorOa
import Derived.Test.YtfcmpolhcpbliaaGreatDoorOb

namespace Go.Proofs.YtfcmpolhcpbliaaGreatDoor
open Go.RowKit Go.Cx
attribute [local go_sem ↓] Go.wp_at_zero Go.wp_at_succ

theorem cell_setB {w : World} {a p : Addr} {u x : Value} (h : w.cell? p = some x) (hne : p ≠ a) : (w.setCell a u).cell? p = some x := by
  rw [World.cell?_setCell_other _ _ _ _ (fun e => hne e.symm)]; exact h
/-- A raw cell as a cell: six sides at most. -/
def cut6 (x : Ce) : Cl := ⟨x.id, x.dim, x.s.take 6⟩

set_option maxRecDepth 100000 in
set_option maxHeartbeats 4000000 in
theorem laRaw (v : Value) (l : List Ce) (w : World) (h : SlC w v l) :
    Calls Tryz.prog 26 #[v] w fun e w' => ∃ r m, e = .returned (.agg #[r]) ∧ m.map Ce.cl = (l.take 10).map cut6 ∧ SlC w' r m ∧ Below w.heap.size w w' := by
  obtain ⟨a, len, cap, rfl⟩ := sl_shape h.1
  have hlen : l.length = len := by
    obtain ⟨_, _, h3, _⟩ := h.1.open
    rw [cat_len Ce.enc_len] at h3; omega
  have hcm : len ≤ maxLen := by obtain ⟨h1, h2, _⟩ := h.1.open; omega
  unfold maxLen at hcm
  have HH := Lib.hid h
  have HL := Lib.hid hlen
  clear h hlen
  go_enter Tryz.func26, Tryz.ntmps26
  go_wp2
  obtain ⟨W, hW⟩ : ∃ W : World, W = (w.alloc (.cells #[.slice none 0 0] 27)).alloc (.cells #[.slice none 0 0] 27) := ⟨_, rfl⟩
  rw [← hW]
  have b0 : Bv W w.heap.size (.slice none 0 0) := by rw [hW]; exact (Bv.new w _ _).alloc _
  have b1 : Bv W (w.heap.size + 1) (.slice none 0 0) := by rw [hW]; have := Bv.new (w.alloc (.cells #[.slice none 0 0] 27)) (.slice none 0 0) 27; rwa [World.size_alloc] at this
  have hw : Below w.heap.size w W := by rw [hW]; exact ((Below.refl _ _).alloc (Nat.le_refl _) _).alloc (by simp) _
  have hz : W.heap.size = w.heap.size + 2 := by rw [hW]; simp
  clear hW
  go_loopw [4] (fun i wr => ∃ (k : Nat) (m : List Ce) (u : Value), i = .int .i64 k ∧ k ≤ len ∧ k ≤ 10 ∧ m.length = k ∧ wr.ownsRow W.heap.size 93 3 u k (cat Ce.enc m) ∧
    Hid (∀ x ∈ m, wr.ownsRow W.heap.size 88 2 x.sl x.s.length (cat Sd.enc x.s)) ∧ Hid (m.map Ce.cl = (l.take k).map cut6) ∧ Bv wr (w.heap.size + 1) u ∧ Bv wr w.heap.size (.slice none 0 0) ∧ Below w.heap.size w wr ∧ W.heap.size ≤ wr.heap.size) (fun i _ => len - (vI i).toNat)
  case atStart => exact ⟨0, [], _, rfl, Nat.zero_le _, by omega, rfl, World.ownsRow_nil _ _ _ _, (show Hid _ from fun x hx => by simp at hx), (show Hid _ from rfl), b1, b0, hw, Nat.le_refl _⟩
  case round =>
    obtain ⟨k, m, u, rfl, hk, hk10, hmk, hrow, HF, HE, hb1, hb0, hB, hzr⟩ := hrel
    by_cases hlt : k < len ∧ k < 10
    · obtain ⟨hlt, hlt10⟩ := hlt
      obtain ⟨x, hx⟩ : ∃ x, l[k]? = some x := ⟨_, List.getElem?_eq_getElem (by rw [HL.out]; exact hlt)⟩
      obtain ⟨h2, h3, h4, h5, h6⟩ := HH.out.1.open
      obtain ⟨ad, rfl⟩ : ∃ ad, a = some ad := by
        cases a with
        | none => have := h5 rfl; omega
        | some ad => exact ⟨ad, rfl⟩
      obtain ⟨e0, e1, e2⟩ := ce_get l k x hx
      have d0 : wr.cell? (ad.add (k * 3)) = some (.int .i64 x.id) := Cx.keep hB (h6 ad rfl _ _ e0)
      have d1 : wr.cell? ⟨(ad.add (k * 3)).block, (ad.add (k * 3)).off + 1, none⟩ = some (.int .i64 x.dim) := by rw [add_part _ _ _ (by omega)]; exact Cx.keep hB (h6 ad rfl _ _ e1)
      have w2 : w.cell? ⟨(ad.add (k * 3)).block, (ad.add (k * 3)).off + 2, none⟩ = some (.slice x.a x.n x.c) := by rw [add_part _ _ _ (by omega)]; exact h6 ad rfl _ _ e2
      have hxm := List.mem_of_getElem? hx
      have hsx := HH.out.2 x hxm
      obtain ⟨g2, g3, g4, g5, g6⟩ := hsx.open
      unfold maxLen at g3
      have hsl : x.s.length = x.n := by rw [cat_len Sd.enc_len] at g4; omega
      have G2 := Lib.hid g2
      have hxn : x.n ≤ 9223372036854775807 := Nat.le_trans g2 g3
      have htk : (l.take (k + 1)).map cut6 = (l.take k).map cut6 ++ [cut6 x] := by rw [List.take_add_one, hx]; simp
      have HTK := Lib.hid htk
      have G5 := Lib.hid g5
      have G6 := Lib.hid g6
      have HSL := Lib.hid hsl
      have W2 := Lib.hid w2
      have Hrow := Lib.hid hrow
      have HB1 := Lib.hid hb1
      have HB0 := Lib.hid hb0
      clear h2 h3 h4 h5 h6 e0 e1 e2 hx hxm hsx g2 g4 g5 g6 hsl w2 htk hrow hb1 hb0
      obtain ⟨wo, hwo⟩ : ∃ wo : World, wo = wr := ⟨_, rfl⟩
      subst hwo
      go_wp2_with fail
      go_region_held3 (fun w' => w'.cell? (ad.add (k * 3)) = some (.int .i64 x.id) ∧ w'.cell? ⟨(ad.add (k * 3)).block, (ad.add (k * 3)).off + 1, none⟩ = some (.int .i64 x.dim))
        (first | exact ⟨by assumption, by assumption⟩ | exact ⟨keepAl (by assumption) _, keepAl (by assumption) _⟩)
        (fail)
      all_goals
        go_wp2
        obtain ⟨V, hV⟩ : ∃ V : World, V = (wo.alloc (.cells #[.int .i64 x.id, .int .i64 x.dim, .slice none 0 0] 93)).drew := ⟨_, rfl⟩
        rw [← hV]
        have v0 : V.cell? ⟨wo.heap.size, 0, none⟩ = some (.int .i64 x.id) := by rw [hV]; exact cell_new wo #[.int .i64 x.id, .int .i64 x.dim, .slice none 0 0] 93 (0, 0) 0
        have v1 : V.cell? ⟨wo.heap.size, 1, none⟩ = some (.int .i64 x.dim) := by rw [hV]; exact cell_new wo #[.int .i64 x.id, .int .i64 x.dim, .slice none 0 0] 93 (0, 0) 1
        have v2 : V.cell? ⟨wo.heap.size, 2, none⟩ = some (.slice none 0 0) := by rw [hV]; exact cell_new wo #[.int .i64 x.id, .int .i64 x.dim, .slice none 0 0] 93 (0, 0) 2
        have vf : V.frozen? ⟨wo.heap.size, 2, none⟩ = false := by rw [hV]; exact free_at (heap_alloc_new wo _) 2
        have hBV : Below wo.heap.size wo V := by rw [hV]; exact below_draws ((Below.refl _ wo).alloc (Nat.le_refl _) _) 1
        have hVz : V.heap.size = wo.heap.size + 1 := by rw [hV]; simp
        clear hV
        go_loopw [6] (fun i wr => ∃ (j : Nat) (sv : Value), i = .int .i64 j ∧ j ≤ x.n ∧ j ≤ 6 ∧ Hid (wr.ownsRow (wo.heap.size + 1) 88 2 sv j (cat Sd.enc (x.s.take j))) ∧
          wr.cell? ⟨wo.heap.size, 0, none⟩ = some (.int .i64 x.id) ∧ wr.cell? ⟨wo.heap.size, 1, none⟩ = some (.int .i64 x.dim) ∧ wr.cell? ⟨wo.heap.size, 2, none⟩ = some sv ∧ wr.frozen? ⟨wo.heap.size, 2, none⟩ = false ∧ Below wo.heap.size wo wr ∧ wo.heap.size + 1 ≤ wr.heap.size) (fun i _ => x.n - (vI i).toNat)
        case atStart => exact ⟨0, _, rfl, Nat.zero_le _, by omega, (show Hid _ from World.ownsRow_nil _ _ _ _), v0, v1, v2, vf, hBV, by omega⟩
        case round =>
          clear v0 v1 v2 vf d0 d1
          obtain ⟨j, sv, rfl, hj, hj6, HR, c0, c1, c2, cf, hBi, hzi⟩ := hrel
          have d2 : wr.cell? ⟨(ad.add (k * 3)).block, (ad.add (k * 3)).off + 2, none⟩ = some (.slice x.a x.n x.c) := Cx.keep (hB.trans (hBi.mono hB.size)) W2.out
          by_cases hlt2 : j < x.n ∧ j < 6
          · obtain ⟨hlt2, hlt6⟩ := hlt2
            obtain ⟨s, hs⟩ : ∃ s, x.s[j]? = some s := ⟨_, List.getElem?_eq_getElem (by rw [HSL.out]; exact hlt2)⟩
            obtain ⟨bd, hbd⟩ : ∃ ad, x.a = some ad := by
              cases hxa : x.a with
              | none => have := G5.out hxa; have := G2.out; omega
              | some ad => exact ⟨ad, rfl⟩
            obtain ⟨f0, f1⟩ := sd_get x.s j s hs
            have hBwr : Below w.heap.size w wr := hB.trans (hBi.mono hB.size)
            have Z0 := Lib.hid (G6.out bd hbd _ _ f0)
            have Z1 := Lib.hid (show w.cell? ⟨(bd.add (j * 2)).block, (bd.add (j * 2)).off + 1, none⟩ = some (.int .i64 s.g) by rw [add_part _ _ _ (by omega)]; exact G6.out bd hbd _ _ f1)
            have z0 : wr.cell? (bd.add (j * 2)) = some (.int .i64 s.c) := Cx.keep hBwr Z0.out
            have z1 : wr.cell? ⟨(bd.add (j * 2)).block, (bd.add (j * 2)).off + 1, none⟩ = some (.int .i64 s.g) := Cx.keep hBwr Z1.out
            have W2' := Lib.hid W2.out
            rw [hbd] at d2 W2'
            have htk : x.s.take (j + 1) = x.s.take j ++ [s] := by rw [List.take_add_one, hs]; rfl
            have HTK2 := Lib.hid htk
            clear f0 f1 hs htk
            have za : (wr.alloc (.cells #[.int .i64 s.c, .int .i64 s.g] 88)).cell? ⟨wo.heap.size, 2, none⟩ = some sv := keepAl c2 _
            have fa : (wr.alloc (.cells #[.int .i64 s.c, .int .i64 s.g] 88)).frozen? ⟨wo.heap.size, 2, none⟩ = false := frozen_keepB ((Below.refl _ wr).alloc (Nat.le_refl _) _) (World.block_lt_of_cell? wr _ c2) cf
            obtain ⟨i0, hi, hz0, hz1, hz2⟩ := info_parts Tryz.infoEs
            go_wp2_with fail
            go_region_law (first
                | (refine step_append_lies _ rfl _ _ 91 rfl (wo.heap.size + 1) 88 i0 _ 2 16 Tryz.underlying91 hi hz0 hz1 hz2 rfl (by decide) _ _ _ rfl ((World.ownsRow.drew HR.out).alloc _) ⟨wr.heap.size, 0, none⟩ 1 1 s.enc rfl rfl (news3 wr.drew _ s.enc) (Sd.enc_one s) (by decide) (by unfold maxLen; omega) (by omega) (by simp; omega) _ rfl ?_; intro g2 cg w6 hown6 hgrow6 hat6 hlt6; have hgrow7 : ((wr.alloc (.cells #[.int .i64 s.c, .int .i64 s.g] 88)).drew).grownBy w6 sv.ownBlock := hgrow6; clear hgrow6 hat6; have hne : ∀ k, sv.ownBlock = some k → wo.heap.size ≠ k := fun k e => (by have := (HR.out.lt k e).1; omega); have b2 : w6.cell? ⟨wo.heap.size, 2, none⟩ = some sv := grown_keep hgrow7 (keepAl c2 _) hne; have bf : w6.frozen? ⟨wo.heap.size, 2, none⟩ = false := (hgrow7.frozen_far ⟨wo.heap.size, 2, none⟩ (by simp; omega) (fun e => hne _ e.symm rfl)).trans fa; have hBw6 : Below wo.heap.size wo w6 := (below_draws (hBi.alloc (by omega) _) 1).grown hgrow7 (by simp; omega) (fun k e => (by have := (HR.out.lt k e).1; omega)); have hBw7 := hB.trans (hBw6.mono hB.size); have y1 := Cx.keep hBw7 W2'.out; have y2 := Cx.keep hBw7 Z0.out; have y3 := Cx.keep hBw7 Z1.out; have b0' : w6.cell? ⟨wo.heap.size, 0, none⟩ = some (.int .i64 x.id) := grown_keep hgrow7 (keepAl c0 _) hne; have b1' : w6.cell? ⟨wo.heap.size, 1, none⟩ = some (.int .i64 x.dim) := grown_keep hgrow7 (keepAl c1 _) hne; have F6 := Lib.hid (And.intro hown6 hgrow7); clear hown6 hgrow7))
            all_goals
              go_wp2
              go_roundw
              case measure => simp [vI]; omega
              case rel =>
                obtain ⟨hown6, hgrow7⟩ := F6.out
                have hz6 := hBw6.size
                have hz7 := hgrow7.size
                simp at hz7
                refine ⟨j + 1, _, i64_eq (by omega), by omega, by omega, (show Hid _ from ?_), cell_setB b0' (by simp), cell_setB b1' (by simp), World.cell?_setCell_same' _ _ _ (by rw [b2]; rfl), by simpa [World.frozen?_setCell] using bf, hBw6.setCell (Nat.le_refl _) _, by simp [World.setCell]; omega⟩
                rw [HTK2.out, cat_append, cat_one]
                exact ownsRow_setCell_below hown6 (by show wo.heap.size < _; omega) _
          · have hjs : x.s.take j = x.s.take 6 := by
              rcases Nat.lt_or_ge j x.n with hh | hh
              · rw [show j = 6 by omega]
              · rw [List.take_of_length_le (by rw [HSL.out]; exact hh), List.take_of_length_le (by rw [HSL.out]; omega)]
            have hjl : (x.s.take j).length = j := by rw [List.length_take, HSL.out]; omega
            have HJS := Lib.hid (And.intro hjs hjl)
            clear hjs hjl
            obtain ⟨p0, p1⟩ := HB1.out.keep hBi
            have hrowR : wr.ownsRow W.heap.size 93 3 u k (cat Ce.enc m) := ownsRow_below Hrow.out hBi
            have HRR := Lib.hid hrowR
            clear hrowR
            have hzw : W.heap.size ≤ wr.heap.size := Nat.le_trans hzr hBi.size
            have h0z : w.heap.size + 1 < W.heap.size := by omega
            have h6 : j < x.n → ¬ ((j : Int) < 6) := fun _ => by omega
            have fin : ∀ (v' : Value) (w6 : World), w6.ownsRow W.heap.size 93 3 v' (k + 1) (cat Ce.enc m ++ [.int .i64 x.id, .int .i64 x.dim, sv]) → wr.grownBy w6 u.ownBlock →
                w6.cell? ⟨w.heap.size + 1, 0, none⟩ = some u ∧ w6.frozen? ⟨w.heap.size + 1, 0, none⟩ = false ∧
                ∃ (m' : List Ce) (u' : Value), k + 1 ≤ len ∧ k + 1 ≤ 10 ∧ m'.length = k + 1 ∧ (w6.setCell ⟨w.heap.size + 1, 0, none⟩ v').ownsRow W.heap.size 93 3 u' (k + 1) (cat Ce.enc m') ∧
                  Hid (∀ x ∈ m', (w6.setCell ⟨w.heap.size + 1, 0, none⟩ v').ownsRow W.heap.size 88 2 x.sl x.s.length (cat Sd.enc x.s)) ∧ Hid (m'.map Ce.cl = (l.take (k + 1)).map cut6) ∧ Bv (w6.setCell ⟨w.heap.size + 1, 0, none⟩ v') (w.heap.size + 1) u' ∧ Bv (w6.setCell ⟨w.heap.size + 1, 0, none⟩ v') w.heap.size (.slice none 0 0) ∧ Below w.heap.size w (w6.setCell ⟨w.heap.size + 1, 0, none⟩ v') ∧ W.heap.size ≤ (w6.setCell ⟨w.heap.size + 1, 0, none⟩ v').heap.size := fun v' w6 r1 r2 => by
              have hub : ∀ b, u.ownBlock = some b → W.heap.size ≤ b := fun b e => (HRR.out.lt b e).1
              have y0 : w6.cell? ⟨w.heap.size + 1, 0, none⟩ = some u := grown_keep r2 p0 (fun b e => by have := hub b e; show w.heap.size + 1 ≠ b; omega)
              have y1 : w6.frozen? ⟨w.heap.size + 1, 0, none⟩ = false := (r2.frozen_far ⟨w.heap.size + 1, 0, none⟩ (World.block_lt_of_cell? wr _ p0) (fun e => by have h9 : W.heap.size ≤ w.heap.size + 1 := hub _ e.symm; omega)).trans p1
              obtain ⟨n0, n1⟩ := (HB0.out.keep hBi)
              have y2 : Bv w6 w.heap.size (.slice none 0 0) := ⟨grown_keep r2 n0 (fun b e => by have := hub b e; show w.heap.size ≠ b; omega), (r2.frozen_far ⟨w.heap.size, 0, none⟩ (World.block_lt_of_cell? wr _ n0) (fun e => by have h9 : W.heap.size ≤ w.heap.size := hub _ e.symm; omega)).trans n1⟩
              have hz6 := r2.size
              obtain ⟨asv, csv, hsv⟩ := ownsRow_len HR.out
              refine ⟨y0, y1, m ++ [⟨x.id, x.dim, asv, j, csv, x.s.take j⟩], v', by omega, by omega, by simp [hmk], ?_, (show Hid _ from ?_), (show Hid _ from ?_), Bv.put ⟨y0, y1⟩ _, y2.other (by show w.heap.size ≠ w.heap.size + 1; omega) _, ((hB.trans (hBi.mono hB.size)).grown r2 (by have := hB.size; omega) (fun b e => by have := hub b e; omega)).setCell (show w.heap.size ≤ w.heap.size + 1 by omega) _, by simp [World.setCell]; omega⟩
              · have := ownsRow_setCell_below (a := ⟨w.heap.size + 1, 0, none⟩) r1 (by show w.heap.size + 1 < _; omega) v'
                rw [cat_append, cat_one]
                rw [hsv] at this
                exact this
              · intro y hy
                rcases List.mem_append.1 hy with hy | hy
                · have h1 := ownsRow_below (HF.out y hy) hBi
                  exact ownsRow_setCell_below (h1.kept r2 (rows_apart h1 HRR.out (by decide))) (by show w.heap.size + 1 < _; omega) _
                · simp only [List.mem_singleton] at hy
                  subst hy
                  have h1 : wr.ownsRow (wo.heap.size + 1) 88 2 (.slice asv j csv) j (cat Sd.enc (x.s.take j)) := by rw [← hsv]; exact HR.out
                  have h2 := ownsRow_setCell_below (a := ⟨w.heap.size + 1, 0, none⟩) (ownsRow_mono (h1.kept r2 (rows_apart h1 HRR.out (by decide))) (show W.heap.size ≤ wo.heap.size + 1 by omega)) (by show w.heap.size + 1 < _; omega) v'
                  show (w6.setCell _ v').ownsRow _ _ _ (.slice asv j csv) (x.s.take j).length _
                  rw [HJS.out.2]; exact h2
              · show _ = _
                rw [List.map_append, HE.out, HTK.out]
                congr 1
                show [(⟨x.id, x.dim, x.s.take j⟩ : Cl)] = [cut6 x]
                rw [HJS.out.1]; rfl
            have FIN := Lib.hid fin
            clear fin
            have hone : ∀ v ∈ [Value.int .i64 x.id, .int .i64 x.dim, sv], v.oneCell' = true := by
              obtain ⟨asv, csv, hsv⟩ := ownsRow_len HR.out
              subst hsv
              intro v hv; simp at hv; rcases hv with rfl | rfl | rfl <;> rfl
            have HONE := Lib.hid hone
            clear hone
            by_cases hjn : j < x.n
            · have h6' := h6 hjn
              go_wp2_with (at_builtin; refine wpList_app1 (W := wr) rfl _ _ 25 rfl W.heap.size 93 Tryz.infoEc Tryz.underlying25 rfl (by decide) (by decide) _ _ _ rfl HRR.out [.int .i64 x.id, .int .i64 x.dim, sv] rfl rfl HONE.out ?rb1 (Below.refl _ _) hzw ?_)
              case rb1 => omega
              intro v' w6 r1 r2 _
              obtain ⟨y0, y1, m', u', e2, e3, e4, e5, e6, e7, e8, e9, e10, e11⟩ := FIN.out v' w6 (by rw [hz]; exact r1) r2
              obtain ⟨av, cv, rfl⟩ := ownsRow_len r1
              clear r1 r2
              go_wp2
              go_roundw
              case measure => simp [vI]; omega
              case rel => exact ⟨k + 1, m', u', i64_eq (by omega), e2, e3, e4, e5, e6, e7, e8, e9, e10, e11⟩
            · go_wp2_with (at_builtin; refine wpList_app1 (W := wr) rfl _ _ 25 rfl W.heap.size 93 Tryz.infoEc Tryz.underlying25 rfl (by decide) (by decide) _ _ _ rfl HRR.out [.int .i64 x.id, .int .i64 x.dim, sv] rfl rfl HONE.out ?rb2 (Below.refl _ _) hzw ?_)
              case rb2 => omega
              intro v' w6 r1 r2 _
              obtain ⟨y0, y1, m', u', e2, e3, e4, e5, e6, e7, e8, e9, e10, e11⟩ := FIN.out v' w6 (by rw [hz]; exact r1) r2
              obtain ⟨av, cv, rfl⟩ := ownsRow_len r1
              clear r1 r2
              go_wp2
              go_roundw
              case measure => simp [vI]; omega
              case rel => exact ⟨k + 1, m', u', i64_eq (by omega), e2, e3, e4, e5, e6, e7, e8, e9, e10, e11⟩
    · have hks : l.take k = l.take 10 := by
        rcases Nat.lt_or_ge k len with hh | hh
        · rw [show k = 10 by omega]
        · rw [List.take_of_length_le (by rw [HL.out]; exact hh), List.take_of_length_le (by rw [HL.out]; omega)]
      have HKS := Lib.hid hks
      have HRR := Lib.hid hrow
      obtain ⟨a2, cap2, hr2⟩ := ownsRow_len hrow
      have h10 : k < len → ¬ ((k : Int) < 10) := fun _ => by omega
      subst hr2
      obtain ⟨r0, r1⟩ := hb0
      obtain ⟨p0, p1⟩ := hb1
      have fin : m.map Ce.cl = (l.take 10).map cut6 ∧ SlC (wr.setCell ⟨w.heap.size, 0, none⟩ (.slice a2 k cap2)) (.slice a2 k cap2) m ∧ Below w.heap.size w (wr.setCell ⟨w.heap.size, 0, none⟩ (.slice a2 k cap2)) := by
        refine ⟨by rw [HE.out, HKS.out], ⟨Sl.of_ownsRow (ownsRow_setCell_below HRR.out (by show w.heap.size < _; omega) _), fun y hy => Sl.of_ownsRow (ownsRow_setCell_below (HF.out y hy) (by show w.heap.size < _; omega) _)⟩, hB.setCell (Nat.le_refl _) _⟩
      have FIN := Lib.hid fin
      clear hks hrow fin hB
      by_cases hkl : k < len
      · have h10' := h10 hkl
        go_wp2_with fail
        refine bodyPost_ret (v := .agg #[.slice a2 k cap2]) (by simp [results, Tryz.results26, go_sem, (Bv.put (w := wr) (b := w.heap.size) ⟨r0, r1⟩ (.slice a2 k cap2)).1]) rfl ?_
        exact ⟨.slice a2 k cap2, rfl, m, FIN.out.1.trans List.map_take, FIN.out.2.1, FIN.out.2.2⟩
      · go_wp2_with fail
        refine bodyPost_ret (v := .agg #[.slice a2 k cap2]) (by simp [results, Tryz.results26, go_sem, (Bv.put (w := wr) (b := w.heap.size) ⟨r0, r1⟩ (.slice a2 k cap2)).1]) rfl ?_
        exact ⟨.slice a2 k cap2, rfl, m, FIN.out.1.trans List.map_take, FIN.out.2.1, FIN.out.2.2⟩

end Go.Proofs.YtfcmpolhcpbliaaGreatDoor
