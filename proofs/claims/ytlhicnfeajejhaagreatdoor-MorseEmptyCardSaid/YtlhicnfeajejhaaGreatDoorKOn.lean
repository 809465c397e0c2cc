/- cocycleref06: Cells, Ids. cocycleref07: Mod, Made. -/
import Derived.Deep.DeepCutAuto
import Derived.Test.YtlhicnfeajejhaaGreatDoorKOj
set_option maxRecDepth 1000000
set_option maxHeartbeats 16000000
namespace Go.Cx
open Go.RowKit
def nub {α : Type} (key : α → Int) : Option Int → List α → List α
 | _, [] => []
 | p, x :: l => if p = some (key x) then nub key (some (key x)) l else x :: nub key (some (key x)) l
def lastK {α : Type} (key : α → Int) (p : Option Int) (l : List α) : Option Int := match l.getLast? with
 | none => p
 | some y => some (key y)
theorem nub_snoc {α : Type} (key : α → Int) (x : α) (l : List α) : ∀ p, nub key p (l ++ [x]) = nub key p l ++ (if lastK key p l = some (key x) then [] else [x]) := by
 induction l with
 | nil => intro p; show (if _ then _ else _) = [] ++ (if _ then _ else _); rfl
 | cons y l ih =>
  intro p
  have e : lastK key (some (key y)) l = lastK key p (y :: l) := by
   unfold lastK
   rw [List.getLast?_cons]
   cases l.getLast? <;> rfl
  rw [List.cons_append]
  unfold nub
  rw [ih, e]
  split <;> simp
theorem nub_map {α β : Type} (key : β → Int) (f : α → β) (l : List α) : ∀ p, (nub (fun x => key (f x)) p l).map f = nub key p (l.map f) := by
 induction l with
 | nil => intro p; simp [nub]
 | cons x l ih =>
  intro p
  rw [List.map_cons]
  unfold nub
  split
  ·exact ih _
  ·rw [List.map_cons, ih]
theorem nub_len {α : Type} (key : α → Int) (l : List α) : ∀ p, (nub key p l).length ≤ l.length := by
 induction l with
 | nil => intro p; simp [nub]
 | cons x l ih =>
  intro p
  unfold nub
  have := ih (some (key x))
  split <;> simp only [List.length_cons] <;> omega
theorem nub_mem {α : Type} (key : α → Int) (l : List α) : ∀ p x, x ∈ nub key p l → x ∈ l := by
 induction l with
 | nil => intro p x h; simp [nub] at h
 | cons y l ih =>
  intro p x h
  unfold nub at h
  split at h
  ·exact List.mem_cons_of_mem _ (ih _ _ h)
  ·rcases List.mem_cons.1 h with h | h
   ·rw [h]; exact List.mem_cons_self ..
   ·exact List.mem_cons_of_mem _ (ih _ _ h)
def cellsK (K : List Cl) : List Cl := nub Cl.id none (ordK K)
def idsK (K : List Cl) (d : Int) : List Int := ((cellsK K).filter fun x => x.dim == d).map Cl.id
end Go.Cx
namespace Go.Proofs.YtlhicnfeajejhaaGreatDoor
open Go.RowKit Go.Cx
attribute [local go_sem ↓] Go.wp_at_zero Go.wp_at_succ
theorem ordK_mem (l : List Cl) : ∀ x ∈ ordK l, ∃ y ∈ l, x.id = y.id ∧ x.dim = y.dim ∧ x.s = srtL y.s := by
 fun_induction ordK l with
 | case1 l h =>
  intro x hx
  obtain ⟨y, hy, rfl⟩ := List.mem_map.1 hx
  exact ⟨y, hy, rfl, rfl, rfl⟩
 | case2 l h ih1 ih2 =>
  intro x hx
  rcases mrg_mem _ _ _ _ hx with hx | hx
  ·obtain ⟨y, hy, h⟩ := ih1 x hx
   exact ⟨y, List.mem_of_mem_take hy, h⟩
  ·obtain ⟨y, hy, h⟩ := ih2 x hx
   exact ⟨y, List.mem_of_mem_drop hy, h⟩
theorem smCells (v : Value) (l : List Ce) (w : World) (h : SlC w v l) (hl : l.length ≤ 1099511627776) (hsl : ∀ x ∈ l, x.s.length ≤ 1099511627776) :
  Calls Tryz.prog 76 #[.agg #[v]] w fun e w' => ∃ r m, e = .returned r ∧ m.map Ce.cl = cellsK (l.map Ce.cl) ∧ RowC w' w.heap.size r m ∧ Below w.heap.size w w' := by
 obtain ⟨a, len, cap, rfl⟩ := sl_shape h.1
 have HH := lhd (h.mono fun p u hc => keepAl hc (.cells #[.slice a len cap] 26))
 have HSL := lhd hsl
 clear h hsl
 go_enter Tryz.func76, Tryz.ntmps76
 go_wp2_with fail
 obtain ⟨W, hW⟩ : ∃ W : World, W = w.alloc (.cells #[.slice a len cap] 26) := ⟨_, rfl⟩
 rw [← hW]
 rw [← hW] at HH
 have hw : Below w.heap.size w W := by rw [hW]; exact (Below.refl _ _).alloc (nlr _) _
 clear hW
 refine (smOrdered _ _ l _ rfl HH.out hl HSL.out).mono ?_
 rintro e w1 ⟨r, M, rfl, hM, hR, hb1⟩
 obtain ⟨ma, mc, hre⟩ := ownsRow_len hR.1
 subst hre
 have hB1 : Below w.heap.size w w1 := hw.trans (hb1.mono hw.size)
 have hMl : M.length ≤ 1099511627776 := by
  have := congrArg List.length hM
  rw [List.length_map, ordK_len, List.length_map] at this
  omega
 have hMc := (Sl.of_ownsRow hR.1).open
 obtain ⟨hmc1, hmc2, _⟩ := hMc
 unfold maxLen at hmc2
 obtain ⟨n, hn⟩ : ∃ n, n = M.length := ⟨_, rfl⟩
 have HN := lhd hn
 have HM := lhd hM
 have hsM := Sl.of_ownsRow hR.1
 have HR := lhd hR
 rw [← hn] at hMl hmc1 hsM ⊢
 have HS := lhd hsM
 have hz1 : w.heap.size ≤ w1.heap.size := hB1.size
 have HB1 := lhd hB1
 have hzW := hw.size
 clear hn hM hR hsM hb1 hw hB1
 go_wp2_with fail
 go_loopw [4, 5] (fun o i wr => ∃ j : Nat, i = .int .i64 j ∧ j ≤ n ∧ Hid (wr.ownsRow w1.heap.size 75 3 o (nub Ce.id none (M.take j)).length (cat Ce.enc (nub Ce.id none (M.take j)))) ∧ Below w1.heap.size w1 wr) (fun _ i _ => n - (vI i).toNat)
 case atStart => exact ⟨0, rfl, Nat.zero_le _, (show Hid _ from World.ownsRow_nil _ _ _ _), Below.refl _ _⟩
 case round =>
  obtain ⟨j, rfl, hj, HO, hB⟩ := hrel
  obtain ⟨oa, oc, hoe⟩ := ownsRow_len HO.out
  subst hoe
  have hz2 : w1.heap.size ≤ wr.heap.size := hB.size
  by_cases hlt : j < n
  ·obtain ⟨x, hx⟩ : ∃ x, M[j]? = some x := ⟨_, List.getElem?_eq_getElem (by rw [← HN.out]; exact hlt)⟩
   obtain ⟨h2, h3, h4, h5, h6⟩ := HS.out.open
   obtain ⟨ad, hade⟩ : ∃ ad, ma = some ad := by
    cases ma with
    | none => have := h5 rfl; omega
    | some ad => exact ⟨ad, rfl⟩
   subst hade
   obtain ⟨e0, e1, e2⟩ := ce_get M j x hx
   have d0 : wr.cell? (ad.add (j * 3)) = some (.int .i64 x.id) := Cx.keep hB (h6 ad rfl _ _ e0)
   have d1 : wr.cell? ⟨(ad.add (j * 3)).block, (ad.add (j * 3)).off + 1, none⟩ = some (.int .i64 x.dim) := by rw [add_part _ _ _ (by omega)]; exact Cx.keep hB (h6 ad rfl _ _ e1)
   have d2 : wr.cell? ⟨(ad.add (j * 3)).block, (ad.add (j * 3)).off + 2, none⟩ = some (.slice x.a x.n x.c) := by rw [add_part _ _ _ (by omega)]; exact Cx.keep hB (h6 ad rfl _ _ e2)
   have htk : nub Ce.id none (M.take (j + 1)) = nub Ce.id none (M.take j) ++ (if lastK Ce.id none (M.take j) = some x.id then [] else [x]) := by
    rw [List.take_add_one, hx]; exact nub_snoc _ _ _ _
   have hOl : (nub Ce.id none (M.take j)).length ≤ j := Nat.le_trans (nub_len _ _ _) (by rw [List.length_take]; omega)
   obtain ⟨nl, hnl⟩ : ∃ nl, nl = (nub Ce.id none (M.take j)).length := ⟨_, rfl⟩
   rw [← hnl] at hOl HO ⊢
   have HNL := lhd hnl
   have HTK := lhd htk
   clear e0 e1 e2 htk hnl
   by_cases h0 : j = 0
   ·have hlk : nub Ce.id none (M.take (j + 1)) = nub Ce.id none (M.take j) ++ [x] := by rw [HTK.out, h0]; simp [lastK]
    have HLK := lhd hlk
    have hj0 : ((j : Int) == 0) = true := by rw [h0]; rfl
    clear h0
    clear hlk h2 h3 h4 h5 h6 hx
    go_wp2_with fail
    go_quiet (fail)
    obtain ⟨V, hV⟩ : ∃ V : World, V = wr.drewN nq := ⟨_, rfl⟩
    rw [← hV]
    have hWV : Below wr.heap.size wr V := by rw [hV]; exact below_draws (Below.refl _ _) _
    have hBV : Below w1.heap.size w1 V := hB.trans (hWV.mono hz2)
    have hOV := lhd (ownsRow_below HO.out hWV)
    have hzV : w1.heap.size ≤ V.heap.size := hBV.size
    replace d0 := Cx.keep hWV d0
    replace d1 := Cx.keep hWV d1
    replace d2 := Cx.keep hWV d2
    clear hV hWV
    go_wp2_with (at_builtin; go_loud (refine wpList_app1 (W := w1) rfl _ _ 24 rfl w1.heap.size 75 Tryz.infoEc Tryz.underlying24 rfl (by decide) (by decide) _ _ _ rfl hOV.out [.int .i64 x.id, .int .i64 x.dim, .slice x.a x.n x.c] rfl rfl (Ce.enc_one x) (by omega) hBV hzV ?_))
    intro v5 w5 hr5 _ hB5
    have F5 := lhd (aiq hr5 hB5)
    clear hr5 hB5
    go_wp2
    go_roundw
    case measure => simp [vI]; omega
    case rel =>
     refine ⟨j + 1, i64_eq (by omega), by omega, (show Hid _ from ?_), F5.out.2⟩
     rw [HLK.out, List.length_append, ← HNL.out, cat_append, cat_one]
     exact F5.out.1
   ·obtain ⟨m, hm⟩ : ∃ m, j = m + 1 := ⟨j - 1, by omega⟩
    obtain ⟨y, hy⟩ : ∃ y, M[m]? = some y := ⟨_, List.getElem?_eq_getElem (by rw [← HN.out]; omega)⟩
    have f0 : wr.cell? (ad.add (m * 3)) = some (.int .i64 y.id) := Cx.keep hB (h6 ad rfl _ _ (ce_get M m y hy).1)
    have hlast : lastK Ce.id none (M.take j) = some y.id := by
     unfold lastK
     rw [hm, List.take_add_one, hy, List.getLast?_append]
     rfl
    rw [hlast] at HTK
    have hj0 : ((j : Int) == 0) = false := by simp; omega
    have hjm : (j : Int) - 1 = (m : Int) := by omega
    clear h2 h3 h4 h5 h6 hx hy hlast h0 hm
    by_cases hne : x.id = y.id
    ·have hb : (x.id != y.id) = false := by simpa using hne
     have hlk : nub Ce.id none (M.take (j + 1)) = nub Ce.id none (M.take j) := by rw [HTK.out, if_pos (by rw [hne]), List.append_nil]
     have HLK := lhd hlk
     clear hlk hne
     go_wp2_with fail
     go_quiet (fail)
     go_wp2
     go_roundw
     case measure => simp [vI]; omega
     case rel => exact ⟨j + 1, i64_eq (by omega), by omega, (show Hid _ from by rw [HLK.out, ← HNL.out]; exact ownsRow_below HO.out (below_draws (Below.refl _ _) nq)), below_draws hB nq⟩
    ·have hb : (x.id != y.id) = true := by simpa using hne
     have hlk : nub Ce.id none (M.take (j + 1)) = nub Ce.id none (M.take j) ++ [x] := by rw [HTK.out, if_neg (fun e => hne (osi e).symm)]
     have HLK := lhd hlk
     clear hlk hne
     go_wp2_with fail
     go_quiet (fail)
     obtain ⟨V, hV⟩ : ∃ V : World, V = wr.drewN nq := ⟨_, rfl⟩
     rw [← hV]
     have hWV : Below wr.heap.size wr V := by rw [hV]; exact below_draws (Below.refl _ _) _
     have hBV : Below w1.heap.size w1 V := hB.trans (hWV.mono hz2)
     have hOV := lhd (ownsRow_below HO.out hWV)
     have hzV : w1.heap.size ≤ V.heap.size := hBV.size
     replace d0 := Cx.keep hWV d0
     replace d1 := Cx.keep hWV d1
     replace d2 := Cx.keep hWV d2
     clear hV hWV
     go_wp2_with (at_builtin; go_loud (refine wpList_app1 (W := w1) rfl _ _ 24 rfl w1.heap.size 75 Tryz.infoEc Tryz.underlying24 rfl (by decide) (by decide) _ _ _ rfl hOV.out [.int .i64 x.id, .int .i64 x.dim, .slice x.a x.n x.c] rfl rfl (Ce.enc_one x) (by omega) hBV hzV ?_))
     intro v5 w5 hr5 _ hB5
     have F5 := lhd (aiq hr5 hB5)
     clear hr5 hB5
     go_wp2
     go_roundw
     case measure => simp [vI]; omega
     case rel =>
      refine ⟨j + 1, i64_eq (by omega), by omega, (show Hid _ from ?_), F5.out.2⟩
      rw [HLK.out, List.length_append, ← HNL.out, cat_append, cat_one]
      exact F5.out.1
  ·have hmt : M.take j = M := List.take_of_length_le (by rw [← HN.out]; omega)
   rw [hmt] at HO ⊢
   clear hmt
   go_wp2
   go_ret
   refine ⟨_, nub Ce.id none M, rfl, ?_, ⟨ownsRow_mono HO.out hz1, fun x hx => ownsRow_below (ownsRow_mono (HR.out.2 x (nub_mem _ _ _ _ hx)) ?_) hB⟩, HB1.out.trans (hB.mono hz1)⟩
   ·rw [show nub Ce.id none M = nub (fun x => Cl.id (Ce.cl x)) none M from rfl, nub_map, HM.out]; rfl
   ·exact hzW
def idc (d : Int) (l : List Ce) : List Int := (l.filter fun x => x.dim == d).map Ce.id
theorem idc_snoc (d : Int) (l : List Ce) (x : Ce) : idc d (l ++ [x]) = idc d l ++ (if (x.dim == d) = true then [x.id] else []) := by
 unfold idc
 rw [List.filter_append, List.map_append]
 by_cases h : (x.dim == d) = true
 ·rw [if_pos h, List.filter_cons, if_pos h]; rfl
 ·rw [if_neg h, List.filter_cons, if_neg h]; rfl
theorem idc_len (d : Int) (l : List Ce) : (idc d l).length ≤ l.length := by
 unfold idc
 rw [List.length_map]
 exact List.length_filter_le _ _
theorem idc_cl (d : Int) (l : List Ce) : ((l.map Ce.cl).filter fun x => x.dim == d).map Cl.id = idc d l := by
 unfold idc
 rw [List.filter_map, List.map_map]; rfl
theorem smIds (v : Value) (l : List Ce) (d : Int) (w : World) (h : SlC w v l) (hl : l.length ≤ 1099511627776) (hsl : ∀ x ∈ l, x.s.length ≤ 1099511627776) :
  Calls Tryz.prog 19 #[.agg #[v], .int .i64 d] w fun e w' => ∃ r, e = .returned r ∧ w'.ownsRow w.heap.size 3 1 r (idsK (l.map Ce.cl) d).length (ints (idsK (l.map Ce.cl) d)) ∧ Below w.heap.size w w' := by
 obtain ⟨a, len, cap, rfl⟩ := sl_shape h.1
 have HH := lhd (h.mono fun p u hc => keepAl hc (.cells #[.slice a len cap] 26))
 have HSL := lhd hsl
 clear h hsl
 go_enter Tryz.func19, Tryz.ntmps19
 go_wp2_with fail
 obtain ⟨W, hW⟩ : ∃ W : World, W = w.alloc (.cells #[.slice a len cap] 26) := ⟨_, rfl⟩
 rw [← hW]
 rw [← hW] at HH
 have hw : Below w.heap.size w W := by rw [hW]; exact (Below.refl _ _).alloc (nlr _) _
 clear hW
 refine (smCells _ l _ HH.out hl HSL.out).mono ?_
 rintro e w1 ⟨r, M, rfl, hM, hR, hb1⟩
 obtain ⟨ma, mc, hre⟩ := ownsRow_len hR.1
 subst hre
 have hB1 : Below w.heap.size w w1 := hw.trans (hb1.mono hw.size)
 have hMl : M.length ≤ 1099511627776 := by
  have := congrArg List.length hM
  have h2 := nub_len Cl.id (ordK (l.map Ce.cl)) none
  unfold cellsK at this
  rw [List.length_map] at this
  rw [ordK_len, List.length_map] at h2
  omega
 obtain ⟨hmc1, hmc2, _⟩ := (Sl.of_ownsRow hR.1).open
 unfold maxLen at hmc2
 obtain ⟨n, hn⟩ : ∃ n, n = M.length := ⟨_, rfl⟩
 have HN := lhd hn
 have HM := lhd hM
 have hsM := Sl.of_ownsRow hR.1
 rw [← hn] at hMl hmc1 hsM ⊢
 have HS := lhd hsM
 have hz1 : w.heap.size ≤ w1.heap.size := hB1.size
 have HB1 := lhd hB1
 clear hn hM hR hsM hb1 hw hB1
 go_wp2_with fail
 go_loopw [5, 7] (fun o i wr => ∃ j : Nat, i = .int .i64 j ∧ j ≤ n ∧ Hid (wr.ownsRow w1.heap.size 3 1 o (idc d (M.take j)).length (ints (idc d (M.take j)))) ∧ Below w1.heap.size w1 wr) (fun _ i _ => n - (vI i).toNat)
 case atStart => exact ⟨0, rfl, Nat.zero_le _, (show Hid _ from World.ownsRow_nil _ _ _ _), Below.refl _ _⟩
 case round =>
  obtain ⟨j, rfl, hj, HO, hB⟩ := hrel
  obtain ⟨oa, oc, hoe⟩ := ownsRow_len HO.out
  subst hoe
  have hz2 : w1.heap.size ≤ wr.heap.size := hB.size
  by_cases hlt : j < n
  ·obtain ⟨x, hx⟩ : ∃ x, M[j]? = some x := ⟨_, List.getElem?_eq_getElem (by rw [← HN.out]; exact hlt)⟩
   obtain ⟨h2, h3, h4, h5, h6⟩ := HS.out.open
   obtain ⟨ad, hade⟩ : ∃ ad, ma = some ad := by
    cases ma with
    | none => have := h5 rfl; omega
    | some ad => exact ⟨ad, rfl⟩
   subst hade
   obtain ⟨e0, e1, e2⟩ := ce_get M j x hx
   have d0 : wr.cell? (ad.add (j * 3)) = some (.int .i64 x.id) := Cx.keep hB (h6 ad rfl _ _ e0)
   have d1 : wr.cell? ⟨(ad.add (j * 3)).block, (ad.add (j * 3)).off + 1, none⟩ = some (.int .i64 x.dim) := by rw [add_part _ _ _ (by omega)]; exact Cx.keep hB (h6 ad rfl _ _ e1)
   have htk : idc d (M.take (j + 1)) = idc d (M.take j) ++ (if (x.dim == d) = true then [x.id] else []) := by
    rw [List.take_add_one, hx]; exact idc_snoc _ _ _
   have hOl : (idc d (M.take j)).length ≤ j := Nat.le_trans (idc_len _ _) (by rw [List.length_take]; omega)
   obtain ⟨nl, hnl⟩ : ∃ nl, nl = (idc d (M.take j)).length := ⟨_, rfl⟩
   rw [← hnl] at hOl HO ⊢
   have HNL := lhd hnl
   have HTK := lhd htk
   clear e0 e1 e2 htk hnl h2 h3 h4 h5 h6 hx
   by_cases hd : x.dim = d
   ·have hd1 : (x.dim == d) = true := by simpa using hd
    rw [if_pos hd1] at HTK
    clear hd
    go_wp2_with (at_builtin; go_loud (refine wpList_app1 (W := w1) rfl _ _ 22 rfl w1.heap.size 3 Tryz.infoInt Tryz.underlying22 rfl (by decide) (by decide) _ _ _ rfl HO.out [.int .i64 x.id] rfl rfl (one1 _) (by omega) hB hz2 ?_))
    intro v5 w5 hr5 _ hB5
    have F5 := lhd (aiq hr5 hB5)
    clear hr5 hB5
    go_wp2
    go_roundw
    case measure => simp [vI]; omega
    case rel =>
     refine ⟨j + 1, i64_eq (by omega), by omega, (show Hid _ from ?_), F5.out.2⟩
     rw [HTK.out, List.length_append, ← HNL.out, ints_append]
     exact F5.out.1
   ·have hd1 : (x.dim == d) = false := by simpa using hd
    rw [if_neg (by rw [hd1]; exact Bool.false_ne_true), List.append_nil] at HTK
    clear hd
    go_wp2
    go_roundw
    case measure => simp [vI]; omega
    case rel => exact ⟨j + 1, i64_eq (by omega), by omega, (show Hid _ from by rw [HTK.out, ← HNL.out]; exact HO.out), hB⟩
  ·have hmt : M.take j = M := List.take_of_length_le (by rw [← HN.out]; omega)
   rw [hmt] at HO ⊢
   clear hmt
   go_wp2
   go_ret
   refine ⟨_, rfl, ?_, HB1.out.trans (hB.mono hz1)⟩
   unfold idsK
   rw [← HM.out, idc_cl]
   exact ownsRow_mono HO.out hz1
theorem mod_eq (n m : Int) (h1 : 1 ≤ m) : (n.tmod m + m) % m = n % m := by
 rw [Int.add_emod_right, Int.tmod_eq_emod]
 split
 ·simp
 ·rw [Int.sub_emod]
  have : (m.natAbs : Int) % m = 0 := by rw [show (m.natAbs : Int) = m by omega, Int.emod_self]
  rw [this, Int.sub_zero, Int.emod_emod, Int.emod_emod]
theorem svMod (n m : Int) (w : World) (h1 : 1 ≤ m) (h2 : m ≤ 1000) : Calls Tryz.prog 17 #[.int .i64 n, .int .i64 m] w fun e w' => e = .returned (.int .i64 (n % m)) ∧ Below w.heap.size w w' := by
 have hm : ¬ m = 0 := by omega
 have h3 := Int.lt_tmod_of_pos n (show 0 < m by omega)
 have h4 := Int.tmod_lt_of_pos n (show 0 < m by omega)
 have he := mod_eq n m h1
 have HE := lhd he
 clear he
 go_enter Tryz.func17, Tryz.ntmps17
 go_wp2
 go_ret
 exact ⟨by rw [← HE.out]; rfl, Below.refl _ _⟩
theorem ins_small {L L' : List (Int × Int)} {c x : Int} (h : Ins L L' c x) {A : List Int} (hL : Cn L) (hA : ∀ p ∈ L, p.1 ∈ A) (hc : c ∈ A) {k : Nat} (hk : ∀ p ∈ L, p.2.natAbs ≤ 3 * k) (hx : x.natAbs ≤ 3) : (∀ p ∈ L', p.1 ∈ A) ∧ ∀ p ∈ L', p.2.natAbs ≤ 3 * (k + 1) := by
 have hco : ∀ d, (co L d).natAbs ≤ 3 * k := fun d => by
  rcases Classical.em (∃ p ∈ L, p.1 = d) with ⟨p, hp, rfl⟩ | hn
  ·rw [co_mem hL.1 hp]; exact hk p hp
  ·rw [co_none fun p hp e => hn ⟨p, hp, e⟩]; simp
 refine ⟨fun p hp => ?_, fun p hp => ?_⟩
 ·rcases h.mem p hp with h1 | ⟨q, hq, h1⟩
  ·rw [h1]; exact hc
  ·rw [← h1]; exact hA q hq
 ·have h1 := h.co p.1
  rw [co_mem h.cn.1 hp] at h1
  have h2 := hco p.1
  rw [h1]
  split <;> omega
theorem svMade (v u : Value) (l : List Ce) (d : Int) (cs : List Int) (w : World) (h : SlC w v l) (k : Sl w 1 u (ints cs)) (hl : l.length ≤ 1099511627776) (hsl : ∀ x ∈ l, x.s.length ≤ 1099511627776) (hid : ∀ x ∈ l, I64 x.id) :
  Calls Tryz.prog 62 #[.agg #[v], .int .i64 d, u] w fun e w' => ∃ r L, e = .returned r ∧ Cn L ∧ L.length ≤ l.length ∧ (∀ p ∈ L, p.1 ∈ idsK (l.map Ce.cl) d) ∧ (∀ p ∈ L, p.2.natAbs ≤ 3 * l.length) ∧ w'.ownsRow w.heap.size 71 3 r L.length (tv (ctm L)) ∧ Below w.heap.size w w' := by
 obtain ⟨a, len, cap, rfl⟩ := sl_shape h.1
 obtain ⟨ca, m, cc, rfl⟩ := sl_shape k
 have hml : m = cs.length := by
  obtain ⟨_, _, h3, _⟩ := k.open
  rw [ints_len] at h3; omega
 obtain ⟨hmc1, hmc2, _⟩ := k.open
 unfold maxLen at hmc2
 have HH := lhd (h.mono fun p u hc => keepAl hc (.cells #[.slice a len cap] 26))
 have HK := lhd k
 have HML := lhd hml
 have HSL := lhd hsl
 clear h k hsl hml
 go_enter Tryz.func62, Tryz.ntmps62
 go_wp2_with fail
 obtain ⟨W, hW⟩ : ∃ W : World, W = w.alloc (.cells #[.slice a len cap] 26) := ⟨_, rfl⟩
 rw [← hW]
 rw [← hW] at HH
 have hw : Below w.heap.size w W := by rw [hW]; exact (Below.refl _ _).alloc (nlr _) _
 clear hW
 refine (smIds _ l d _ HH.out hl HSL.out).mono ?_
 rintro e w1 ⟨r, rfl, hR, hb1⟩
 obtain ⟨A, hA⟩ : ∃ A, A = idsK (l.map Ce.cl) d := ⟨_, rfl⟩
 rw [← hA] at hR
 obtain ⟨ra, rc, hre⟩ := ownsRow_len hR
 subst hre
 have hAl : A.length ≤ l.length := by
  rw [hA]
  unfold idsK cellsK
  rw [List.length_map]
  refine Nat.le_trans (List.length_filter_le _ _) (Nat.le_trans (nub_len _ _ _) ?_)
  rw [ordK_len, List.length_map]; exact nlr _
 have hAi : ∀ x ∈ A, I64 x := fun x hx => by
  rw [hA] at hx
  obtain ⟨y, hy, rfl⟩ := List.mem_map.1 hx
  obtain ⟨z, hz, he, _⟩ := ordK_mem _ y (nub_mem _ _ _ _ ((List.mem_filter.1 hy).1))
  obtain ⟨z0, hz0, rfl⟩ := List.mem_map.1 hz
  show I64 y.id
  rw [he]; exact hid z0 hz0
 have hB1 : Below w.heap.size w w1 := hw.trans (hb1.mono hw.size)
 have hsA := Sl.of_ownsRow hR
 obtain ⟨n, hn⟩ : ∃ n, n = A.length := ⟨_, rfl⟩
 rw [← hn] at hAl hsA ⊢
 have HN := lhd hn
 have HA := lhd (aiq hA hAi)
 have HS := lhd hsA
 obtain ⟨hnc1, hnc2, _⟩ := hsA.open
 unfold maxLen at hnc2
 have hz1 : w.heap.size ≤ w1.heap.size := hB1.size
 have HB1 := lhd hB1
 have HL := lhd hAl
 have hnl : n ≤ 1099511627776 := by omega
 clear hn hA hAi hsA hR hb1 hw hB1 hAl hid hl
 go_wp2_with fail
 go_loopw [8, 9] (fun o i wr => ∃ (j : Nat) (L : List (Int × Int)), i = .int .i64 j ∧ j ≤ n ∧ Hid (Cn L) ∧ Hid (∀ p ∈ L, p.1 ∈ A) ∧ Hid (∀ p ∈ L, p.2.natAbs ≤ 3 * j) ∧ L.length ≤ j ∧ Hid (wr.ownsRow w1.heap.size 71 3 o L.length (tv (ctm L))) ∧ Below w1.heap.size w1 wr) (fun _ i _ => n - (vI i).toNat)
 case atStart => exact ⟨0, [], rfl, Nat.zero_le _, (show Hid _ from Cn.nil), (show Hid _ from fun p hp => by cases hp), (show Hid _ from fun p hp => by cases hp), nlr _, (show Hid _ from World.ownsRow_nil _ _ _ _), Below.refl _ _⟩
 case round =>
  obtain ⟨j, L, rfl, hj, HC, HP, HQ, hLl, HO, hB⟩ := hrel
  obtain ⟨o, ho⟩ : ∃ o : Value, o = u8 := ⟨_, rfl⟩
  subst ho
  have hz2 : w1.heap.size ≤ wr.heap.size := hB.size
  by_cases hlt : j < n ∧ 0 < m
  ·obtain ⟨hlt, hm0⟩ := hlt
   obtain ⟨y, hy⟩ : ∃ y, A[j]? = some y := ⟨_, List.getElem?_eq_getElem (by rw [← HN.out]; exact hlt)⟩
   obtain ⟨h2, h3, h4, h5, h6⟩ := HS.out.open
   obtain ⟨ad, hade⟩ : ∃ ad, ra = some ad := by
    cases ra with
    | none => have := h5 rfl; omega
    | some ad => exact ⟨ad, rfl⟩
   subst hade
   have d0 : wr.cell? (ad.add j) = some (.int .i64 y) := Cx.keep hB (h6 ad rfl _ _ (by rw [ints_get _ _ (by rw [← HN.out]; exact hlt), List.getD_eq_getElem?_getD, hy]; rfl))
   obtain ⟨q, hq⟩ : ∃ q, q = j % m := ⟨_, rfl⟩
   obtain ⟨t, ht⟩ : ∃ t, t = j / m := ⟨_, rfl⟩
   have hqm : q < m := by rw [hq]; exact Nat.mod_lt _ hm0
   have hqi : (j : Int) % (m : Int) = (q : Int) := by rw [hq]; omega
   have hti : (j : Int) / (m : Int) = (t : Int) := by rw [ht]; omega
   have hqc : q < cs.length := by rw [← HML.out]; exact hqm
   obtain ⟨z, hz⟩ : ∃ z, cs[q]? = some z := ⟨_, List.getElem?_eq_getElem hqc⟩
   obtain ⟨g2, g3, g4, g5, g6⟩ := HK.out.open
   obtain ⟨bd, hbde⟩ : ∃ ad, ca = some ad := by
    cases ca with
    | none => have := g5 rfl; omega
    | some ad => exact ⟨ad, rfl⟩
   subst hbde
   have d1 : wr.cell? (bd.add q) = some (.int .i64 z) := Cx.keep hB (Cx.keep HB1.out (g6 bd rfl _ _ (by rw [ints_get _ _ hqc, List.getD_eq_getElem?_getD, hz]; rfl)))
   have hyA : y ∈ A := List.mem_of_getElem? hy
   have HY := lhd (aiq hyA (HA.out.2 y hyA))
   have hm1 : ¬ (m : Int) = 0 := by omega
   have hmb : ((m : Int) == 0) = false := by simp; omega
   have hm2 : ¬ m = 0 := by omega
   have hqt : (j : Int).tmod (m : Int) = (q : Int) := by rw [Int.tmod_eq_emod_of_nonneg (by omega), hqi]
   have htt : (j : Int).tdiv (m : Int) = (t : Int) := by rw [Int.tdiv_eq_ediv_of_nonneg (by omega), hti]
   have hqI : (q : Int) < m := by omega
   have hqI2 : (q : Int) < cc := by omega
   have htj : t ≤ j := by rw [ht]; exact Nat.div_le_self _ _
   have hwt : IntKind.i64.wrap (t : Int) = (t : Int) := IntWalk.i64_in _ (by omega)
   obtain ⟨sm, hsm⟩ : ∃ s, IntKind.i64.wrap (z + (t : Int)) = s := ⟨_, rfl⟩
   have h70 : 0 ≤ sm % 7 := Int.emod_nonneg _ (by decide)
   have h71 : sm % 7 < 7 := Int.emod_lt_of_pos _ (by decide)
   obtain ⟨x, hx⟩ : ∃ x, sm % 7 = x := ⟨_, rfl⟩
   rw [hx] at h70 h71
   have HX := lhd hx
   clear h2 h3 h4 h5 h6 g2 g3 g4 g5 g6 hy hz hyA hqc hq ht hx
   have hx3 : IntKind.i64.wrap (x - 3) = x - 3 := IntWalk.i64_in _ (by omega)
   go_wp2_with fail
   go_cut [10] from 25 to 38 (fun p wx => p = .int .i64 (x - 3) ∧ Hid (Below wr.heap.size wr wx))
   case first =>
    go_region_held3 (fun w' => w'.cell? (ad.add j) = some (.int .i64 y) ∧ w'.cell? (bd.add q) = some (.int .i64 z))
     (first | exact ⟨by assumption, by assumption⟩)
     (first
      |(go_at_call 17; refine (svMod _ 7 _ (by decide) (by decide)).mono ?_; rintro e w2 ⟨rfl, hb2⟩; rw [HX.out]; have hB2 : Below wr.heap.size wr w2 := below_drew (hb2.mono (by simp)); have a0 := Cx.keep hB2 d0; have a1 := Cx.keep hB2 d1; have HB2 := lhd hB2))
    all_goals
     go_wp2_with fail
     go_meet
     exact ⟨rfl, HB2⟩
   case rest =>
    obtain ⟨rfl, HB2⟩ := hcut
    have a0 := Cx.keep HB2.out d0
    have hown2 := lhd (ownsRow_below HO.out HB2.out)
    have hz3 := HB2.out.size
    have hLS : ∀ p ∈ L, nb p.2 ≤ 8 := fun p hp => by
     have := HQ.out p hp
     exact Nat.le_trans (nb_le p.2 8 (by omega)) (nlr _)
    have HLS := lhd hLS
    have hxI : -9223372036854775808 ≤ x - 3 ∧ x - 3 ≤ 9223372036854775807 := by omega
    have hxn := nb_int (x - 3) hxI.1 hxI.2
    clear d0 d1 hLS hqt htt hqI hqI2 hsm hwt htj hm1 hti hqi hx3
    go_wp2_with fail
    go_region_held3 (fun w' => w'.cell? (ad.add j) = some (.int .i64 y))
     (first | assumption)
     (first
      |(go_at_call 29; refine (refFrom _ _ hxI.1 hxI.2).mono ?_; rintro e w3 ⟨rfl, hb3⟩; rw [show wv (x - 3) = .agg #[.bool (decide (x - 3 < 0)), .string (mg (x - 3))] from rfl]; have hB3 : Below wc.heap.size wc w3 := below_drew (hb3.mono (by simp)); have b0 := Cx.keep hB3 a0; have hown3 := lhd (ownsRow_below hown2.out hB3); have HB3 := lhd hB3)
      |(go_at_call 113; refine (svPut _ L y _ _ 8 _ (Sl.of_ownsRow hown3.out) HC.out HLS.out (by rw [mg_size]; omega) (by omega) (by omega)).mono ?_; rintro e w4 ⟨r, rfl, L', hIns, hown4, hb4⟩; rw [iv_mg] at hIns; have b1 := Cx.keep hb4 b0; have H4 := lhd (aiq hIns (aiq hown4 (HB3.out.trans (hb4.mono HB3.out.size))))))
    have hst := HB2.out.size
    go_wp2
    go_roundw
    case measure => simp [vI]; omega
    case rel =>
     obtain ⟨hIns, hown4, hB4⟩ := H4.out
     have hsm := ins_small hIns HC.out HP.out HY.out.1 HQ.out (by omega)
     refine ⟨j + 1, L', i64_eq (by omega), by omega, (show Hid _ from hIns.cn), (show Hid _ from hsm.1), (show Hid _ from hsm.2), Nat.le_trans hIns.len (by omega), (show Hid _ from ownsRow_mono hown4 ?_), hB.trans (HB2.out.mono hz2 |>.trans (hB4.mono (Nat.le_trans hz2 hst)))⟩
     exact Nat.le_trans hz2 (Nat.le_trans hst HB3.out.size)
  ·have hfin : Cn L ∧ L.length ≤ l.length ∧ (∀ p ∈ L, p.1 ∈ idsK (l.map Ce.cl) d) ∧ (∀ p ∈ L, p.2.natAbs ≤ 3 * l.length) ∧ wr.ownsRow w.heap.size 71 3 o L.length (tv (ctm L)) ∧ Below w.heap.size w wr := by
    have h1 := HL.out
    refine ⟨HC.out, by omega, by rw [← HA.out.1]; exact HP.out, fun p hp => Nat.le_trans (HQ.out p hp) (by omega), ownsRow_mono HO.out hz1, HB1.out.trans (hB.mono hz1)⟩
   have HF := lhd hfin
   clear hfin
   by_cases hjn : j < n
   ·have hm0 : m = 0 := by omega
    subst hm0
    go_wp2
    go_ret
    exact ⟨_, L, rfl, HF.out⟩
   ·go_wp2
    go_ret
    exact ⟨_, L, rfl, HF.out⟩
end Go.Proofs.YtlhicnfeajejhaaGreatDoor
