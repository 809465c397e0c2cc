/- chains: (sum).terms. chains: Canon, Add. slices.Equal at terms; cocycleref07.Same. chains: Equal. cocycleref07: Canon. cocycleref07: Equal, Scale. cocycleref07: Add. cocycleref07: Pair. Chains with the same coefficients pair alike. No program. chains: Pair. cocycleref07: Terms. -/
import Derived.Laws.StructEq
import Derived.Deep.AppendLies
import Derived.Test.YtfcmpolhcpbliaaGreatDoorMe
import Derived.Test.YtfcmpolhcpbliaaGreatDoorMf
import Derived.Test.YtfcmpolhcpbliaaGreatDoorShf

namespace Go.Proofs.YtfcmpolhcpbliaaGreatDoor
open Go.RowKit Go.Cx Go.Shelf

/-- slices.Sort's two contracts at this dump, at the fence that asks nothing. -/
theorem sortsA (m : Nat) : AnyZI.SortsIn Tryz.prog Tryz.sortedA_ren Fence.wide m :=
  ⟨fun blk off cap ss W hH hblk hsz => callsIn_wide.2 (AnyM.slices_Sort_int Tryz.sortA blk off cap ss W hH hblk hsz),
   fun p cap W => callsIn_wide.2 (AnyM.slices_Sort_int_none Tryz.sortA p cap W)⟩

set_option maxRecDepth 100000 in
set_option maxHeartbeats 2000000 in
theorem chTerms (b N : Nat) (g : Int → Option Value) (f : Int → Int) (w : World) (h : Mp Tryz.prog 3 w b N g) (hg : SumG g f) (hN : N ≤ 1099511627776) (hf : ∀ c, nb (f c) ≤ 1099511627776) :
    Calls Tryz.prog 58 #[.map (some b)] w fun e w' => ∃ r, e = .returned r ∧ ∃ L, Cn L ∧ (∀ c, co L c = f c) ∧ L.length ≤ N ∧ w'.ownsRow w.heap.size 63 3 r L.length (tv (ctm L)) ∧ Below w.heap.size w w' := by
  have hm := h
  obtain ⟨D0, hown, h2⟩ := h
  have hbl := hown.lt
  have hsz := hown.size_le
  have hseq : SeqGives Fence.wide 2 Tryz.prog 111 #[.pointer (some ⟨w.heap.size, 0, none⟩)] encZ (fun ss => ss.Perm (intKeys D0)) (Maps.size D0) (w.alloc (.cells #[.map (some b)] 81)) :=
    AnyZI.keys_gives (ρ := Tryz.keysA_ren) { Tryz.keysA with } Fence.wide _ trivial rfl (by omega) w.heap.size b N D0 _ (by simp) (by simp) (by
      obtain ⟨es, clock, hb, Ft, hs, hD⟩ := hown
      exact ⟨es, clock, (Below.heap_alloc _ _ b hbl).trans hb, Ft, hs, hD⟩)
  have cK : ∀ mb W, CallsIn Fence.wide 5 Tryz.prog 92 #[.map mb] W fun e w' => e = .returned (.func (.func 111) #[] #[.pointer (some ⟨W.heap.size, 0, none⟩)]) ∧ w' = W.alloc (.cells #[.map mb] 81) := fun mb W => AnyZI.keys_in Tryz.keysA Fence.wide 5 trivial rfl mb W
  have cS := AnyZI.sorted_in Tryz.sortedA Fence.wide 5 trivial trivial trivial trivial rfl (by omega) (sortsA _) (enters_of Tryz.func110 (by kernel_rfl) rfl) 111 #[.pointer (some ⟨w.heap.size, 0, none⟩)] trivial (enters_of Tryz.func111 (by kernel_rfl) rfl) _ _ (by unfold maxLen; omega) (by omega) _ hseq
  change CallsIn _ _ Tryz.prog 91 _ _ _ at cS
  have cK' : ∀ mb W, Calls Tryz.prog 92 #[.map mb] W _ := fun mb W => (callsIn_wide (n := 5)).1 (cK mb W)
  have cS' := (callsIn_wide (n := 5)).1 cS
  clear cK cS hseq
  go_enter Tryz.func58, Tryz.ntmps58
  go_wp2_with fail
  refine (cK' _ _).mono ?_
  rintro e w' ⟨rfl, rfl⟩
  go_wp2_with fail
  refine cS'.mono ?_
  rintro e w1 ⟨v, ss, rfl, hS, hrow, hnil, hb1⟩
  obtain ⟨hnd, hmem, hsl, hrg⟩ := Mp.keys hown Tryz.underlying3 h2 hS
  clear cK' cS' hS hnil h2 hown
  obtain ⟨ks, hks⟩ : ∃ ks, ks = ss.mergeSort (fun x y => decide (x ≤ y)) := ⟨_, rfl⟩
  have hsrt : ks.Pairwise (· < ·) := by rw [hks]; exact sorted_lt ss hnd
  have hkm : ∀ x, x ∈ ks ↔ (g x).isSome = true := fun x => by rw [hks, List.mem_mergeSort]; exact hmem x
  have hkl : ks.length = ss.length := by rw [hks, List.length_mergeSort]
  rw [← hks, ← hkl] at hrow
  rw [← hkl] at hsl
  have hkr : ∀ x ∈ ks, -9223372036854775808 ≤ x ∧ x ≤ 9223372036854775807 := fun x hx => hrg x (by rw [hks, List.mem_mergeSort] at hx; exact hx)
  clear hks hmem hrg hnd hkl
  have hv := Sl.of_ownsRow hrow
  obtain ⟨a, len, cap, rfl, h1, h2, h3, h4, h5⟩ := hv
  unfold maxLen at h2
  have h3' : ks.length = len := by simpa using h3
  clear h3
  rw [h3'] at hsl
  have H3 := Lib.hid h3'; clear h3'
  have H4 := Lib.hid h4; clear h4
  have H5 := Lib.hid h5; clear h5
  have Hkm := Lib.hid hkm; clear hkm
  have Hkr := Lib.hid hkr; clear hkr
  have hB1 : Below w.heap.size w w1 := ((Below.refl _ w).alloc (Nat.le_refl _) _).trans (hb1.mono (by simp))
  have hm1 := hm.below hB1 hm.lt
  clear hb1 hm hrow
  go_wp2_with fail
  go_loopw [3, 10] (fun o i wr => ∃ k : Nat, i = .int .i64 k ∧ k ≤ len ∧ wr.ownsRow w1.heap.size 63 3 o (nzp f (ks.take k)).length (tv (ctm (nzp f (ks.take k)))) ∧ Below w1.heap.size w1 wr) (fun _ i _ => len - (vI i).toNat)
  case atStart => exact ⟨0, rfl, Nat.zero_le _, World.ownsRow_nil _ _ _ _, Below.refl _ _⟩
  case round =>
    obtain ⟨k, rfl, hk, hown, hB⟩ := hrel
    by_cases hlt : k < len
    · obtain ⟨ad, rfl⟩ : ∃ ad, a = some ad := by
        cases a with
        | none => have := H4.out rfl; omega
        | some ad => exact ⟨ad, rfl⟩
      obtain ⟨c, hc⟩ : ∃ c, ks[k]? = some c := ⟨_, List.getElem?_eq_getElem (by rw [H3.out]; exact hlt)⟩
      have c1 : wr.cell? (ad.add k) = some (.int .i64 c) := keep hB (H5.out ad rfl k _ (by simp [hc, encZ]))
      obtain ⟨r1, r2⟩ := Hkr.out c (List.mem_of_getElem? hc)
      have hkey := key_int (P := Tryz.prog) (k := 3) Tryz.underlying3 r1 r2
      have hmr := hm1.keep hB
      have hsn : nzp f (ks.take (k + 1)) = nzp f (ks.take k) ++ (if f c = 0 then [] else [(c, f c)]) := by
        rw [List.take_add_one, hc]; exact nzp_snoc _ _ _
      have Hsn := Lib.hid hsn; clear hsn
      have Hc := Lib.hid hc; clear hc
      go_wp2_with (at_lookup; refine mp_look rfl _ _ 81 rfl hmr Tryz.underlying3 Tryz.underlying81 (zeroWide _) c rfl rfl hkey ?_; rw [hg c])
      have hfc := hf c
      refine (wSignW _ _ _ (by rw [mg_size]; exact hfc)).mono ?_
      rintro e w2 ⟨rfl, hb2⟩
      rw [iv_mg]
      have hB2 : Below w1.heap.size w1 w2 := hB.trans (hb2.mono hB.size)
      have hown2 := ownsRow_below hown hb2
      have c2 : w2.cell? (ad.add k) = some (.int .i64 c) := keep hb2 c1
      have hmr2 := hmr.keep hb2
      by_cases h0 : f c = 0
      · have hsg : sgnI (f c) = 0 := by rw [h0]; rfl
        rw [if_pos h0, List.append_nil] at Hsn
        have H0 := Lib.hid h0; clear h0
        go_wp2_with fail
        go_roundw
        case measure => simp [vI]; omega
        case rel => exact ⟨k + 1, i64_eq (by omega), by omega, by rw [Hsn.out]; exact hown2, hB2⟩
      · have hsg : (sgnI (f c) == 0) = false := by
          unfold sgnI; rw [if_neg h0]; split <;> rfl
        rw [if_neg h0] at Hsn
        have H0 := Lib.hid h0; clear h0
        have hlen : (nzp f (ks.take k)).length ≤ 1099511627776 := by
          have := nzp_len f (ks.take k)
          rw [List.length_take] at this; omega
        go_wp2_with (first
          | (at_lookup; refine mp_look rfl _ _ 81 rfl hmr2 Tryz.underlying3 Tryz.underlying81 (zeroWide _) c rfl rfl hkey ?_; rw [hg c])
          | (at_builtin; refine wpList_app1 (W := w1) rfl _ _ 30 rfl w1.heap.size 63 Tryz.infoTerm Tryz.underlying30 rfl (by decide) (by decide) _ _ _ rfl hown2 [.int .i64 c, .bool (decide (f c < 0)), .string (mg (f c))] rfl rfl ?bp1 ?bp2 hB2 ?bp3 ?_))
        case bp1 => intro u hu; simp at hu; rcases hu with rfl | rfl | rfl <;> rfl
        case bp2 => omega
        case bp3 => exact hB2.size
        intro v3 w3 hr3 hg3 hB3
        go_wp2
        go_roundw
        case measure => simp [vI]; omega
        case rel =>
          refine ⟨k + 1, i64_eq (by omega), by omega, ?_, hB3⟩
          rw [Hsn.out, ctm_append, tv_append, List.length_append]
          exact hr3
    · have hke : k = len := by omega
      have Hke := Lib.hid hke; clear hke
      go_wp2
      go_ret
      have hta : ks.take k = ks := List.take_of_length_le (by rw [H3.out]; exact Nat.le_of_eq Hke.out.symm)
      rw [hta] at hown
      refine ⟨_, rfl, _, nzp_cn f hsrt, nzp_co f hsrt (fun c h0 => ?_), Nat.le_trans (nzp_len f ks) (by rw [H3.out]; exact hsl), ownsRow_mono hown hB1.size, hB1.trans (hB.mono hB1.size)⟩
      have := hg c
      rw [Hkm.out]
      cases hgc : g c with
      | some v => rfl
      | none =>
        exfalso
        rw [hgc] at this
        have e : wv 0 = wv (f c) := this
        refine h0 ?_
        have e1 : decide ((0 : Int) < 0) = decide (f c < 0) ∧ mg 0 = mg (f c) := by simpa using e
        exact (wv_inj e1.1 e1.2).symm

end Go.Proofs.YtfcmpolhcpbliaaGreatDoor

namespace Go.Proofs.YtfcmpolhcpbliaaGreatDoor
open Go.RowKit Go.Cx

theorem SlL.one {w : World} {v : Value} {l : List Tm} (h : Sl w 3 v (tv l)) (t : TypeId) : SlL (w.alloc (.cells #[v] t)) (.slice (some ⟨w.heap.size, 0, none⟩) 1 1) [l] := by
  refine ⟨[v], Sl.lit w t [v] (by simp), rfl, ?_⟩
  intro i u l' hu hl
  cases i with
  | zero => simp at hu hl; subst hu hl; exact h.alloc _
  | succ i => simp at hu
theorem SlL.two {w : World} {v u : Value} {l m : List Tm} (h : Sl w 3 v (tv l)) (k : Sl w 3 u (tv m)) (t : TypeId) : SlL (w.alloc (.cells #[v, u] t)) (.slice (some ⟨w.heap.size, 0, none⟩) 2 2) [l, m] := by
  refine ⟨[v, u], Sl.lit w t [v, u] (by simp), rfl, ?_⟩
  intro i u' l' hu hl
  match i with
  | 0 => simp at hu hl; subst hu hl; exact h.alloc _
  | 1 => simp at hu hl; subst hu hl; exact k.alloc _
  | i + 2 => simp at hu

theorem sl_shape {w : World} {st : Nat} {v : Value} {xs : List Value} (h : Sl w st v xs) : ∃ a n cap, v = .slice a n cap := by
  obtain ⟨a, n, cap, he, _⟩ := h; exact ⟨a, n, cap, he⟩

/-- A canonical chain as a result: cells rising, in the bounds. -/
structure CRes (w w' : World) (r : Value) (f : Int → Int) (N : Nat) : Prop where
  ex : ∃ L, Cn L ∧ (∀ c, co L c = f c) ∧ L.length ≤ N ∧ w'.ownsRow w.heap.size 63 3 r L.length (tv (ctm L))
  below : Below w.heap.size w w'

set_option maxRecDepth 100000 in
set_option maxHeartbeats 1000000 in
theorem chCanon (v : Value) (l : List Tm) (S : Nat) (w : World) (h : Sl w 3 v (tv l)) (hS : TOk S l) (hb : S + l.length ≤ 1099511627775) :
    Calls Tryz.prog 31 #[v] w fun e w' => ∃ r, e = .returned r ∧ CRes w w' r (co (prs l)) l.length := by
  obtain ⟨a, n, cap, rfl⟩ := sl_shape h
  go_enter Tryz.func31, Tryz.ntmps31
  go_wp2_with fail
  have hc := chOf (.slice (some ⟨w.heap.size, 0, none⟩) 1 1) [l] S (w.alloc (.cells #[.slice a n cap] 30)) (SlL.one h _) (by simpa using hS) (by simpa using hb)
  refine hc.mono ?_
  rintro e w1 ⟨rfl, ⟨g, hm, hg⟩, hb1⟩
  simp only [List.flatten_cons, List.flatten_nil, List.append_nil, World.size_alloc] at hm hg hb1
  simp only [World.size_alloc]
  go_wp2_with fail
  refine (chTerms _ _ g _ w1 hm hg (by omega) (fun c => Nat.le_trans (nb_co S _ (nb_prs hS) c) (by rw [prs_len]; omega))).mono ?_
  rintro e w2 ⟨r, rfl, L, h1, h2, h3, h4, hb2⟩
  go_wp2_with fail
  go_ret
  have hB1 : Below w.heap.size w w1 := ((Below.refl _ w).alloc (Nat.le_refl _) _).trans (hb1.mono (by simp))
  exact ⟨_, rfl, ⟨L, h1, h2, h3, ownsRow_mono h4 hB1.size⟩, hB1.trans (hb2.mono hB1.size)⟩

set_option maxRecDepth 100000 in
set_option maxHeartbeats 1000000 in
theorem chAdd2 (v u : Value) (l m : List Tm) (S : Nat) (w : World) (h : Sl w 3 v (tv l)) (k : Sl w 3 u (tv m)) (hS : TOk S l) (kS : TOk S m) (hb : S + l.length + m.length ≤ 1099511627775) :
    Calls Tryz.prog 37 #[v, u] w fun e w' => ∃ r, e = .returned r ∧ CRes w w' r (fun c => co (prs l) c + co (prs m) c) (l.length + m.length) := by
  obtain ⟨a, n, cap, rfl⟩ := sl_shape h
  obtain ⟨a', n', cap', rfl⟩ := sl_shape k
  go_enter Tryz.func37, Tryz.ntmps37
  go_wp2_with fail
  have hc := chOf (.slice (some ⟨w.heap.size, 0, none⟩) 2 2) [l, m] S (w.alloc (.cells #[.slice a n cap, .slice a' n' cap'] 30)) (SlL.two h k _) (by intro x hx; simp at hx; rcases hx with rfl | rfl <;> assumption) (by simp; omega)
  refine hc.mono ?_
  rintro e w1 ⟨rfl, ⟨g, hm, hg⟩, hb1⟩
  simp only [List.flatten_cons, List.flatten_nil, List.append_nil, List.length_append, World.size_alloc] at hm hg hb1
  simp only [World.size_alloc]
  go_wp2_with fail
  refine (chTerms _ _ g _ w1 hm hg (by omega) (fun c => Nat.le_trans (nb_co S _ (nb_prs (hS.app kS)) c) (by rw [prs_len, List.length_append]; omega))).mono ?_
  rintro e w2 ⟨r, rfl, L, h1, h2, h3, h4, hb2⟩
  go_wp2_with fail
  go_ret
  have hB1 : Below w.heap.size w w1 := ((Below.refl _ w).alloc (Nat.le_refl _) _).trans (hb1.mono (by simp))
  exact ⟨_, rfl, ⟨L, h1, fun c => by rw [h2, prs_append, co_append], h3, ownsRow_mono h4 hB1.size⟩, hB1.trans (hb2.mono hB1.size)⟩

end Go.Proofs.YtfcmpolhcpbliaaGreatDoor

namespace Go.Proofs.YtfcmpolhcpbliaaGreatDoor
open Go.RowKit Go.Cx

/-- Two terms are not the same. -/
def neT (t u : Tm) : Bool := !(t.c == u.c && (t.n == u.n && t.m.toList == u.m.toList))
theorem neT_iff (t u : Tm) : neT t u = false ↔ t = u := by
  cases t; cases u
  simp only [neT, Bool.not_eq_false', Bool.and_eq_true, beq_iff_eq, Tm.mk.injEq, Lib.toList_data]
  constructor
  · rintro ⟨h1, h2, h3⟩; exact ⟨h1, h2, ba_ext h3⟩
  · rintro ⟨h1, h2, rfl⟩; exact ⟨h1, h2, rfl⟩
set_option maxRecDepth 100000 in
theorem neqTerm (w : World) (tc uc : Int) (tn un : Bool) (tm um : ByteArray) :
    (Go.binOp .neq 63 (.agg #[.int .i64 tc, .bool tn, .string tm]) (.agg #[.int .i64 uc, .bool un, .string um])).run Tryz.prog w = .ok (.bool (neT ⟨tc, tn, tm⟩ ⟨uc, un, um⟩)) w := by
  have hp : Tryz.prog.stoodInHeld 63 = false := by kernel_rfl
  have hp' : Tryz.prog.stoodInHeld 46 = false := by kernel_rfl
  by_cases h1 : (tc == uc) = true <;> by_cases h2 : (tn == un) = true <;> by_cases h3 : (tm.toList == um.toList) = true <;> (try simp only [Bool.not_eq_true] at h1) <;> (try simp only [Bool.not_eq_true] at h2) <;> (try simp only [Bool.not_eq_true] at h3) <;>
    simp [neT, go_sem, h1, h2, h3, hp, hp']

theorem eqgTerm : Tryz.prog.eqGuardType Tryz.prog.depth 63 = false := by kernel_rfl

set_option maxRecDepth 100000 in
set_option maxHeartbeats 1000000 in
theorem slEqual (v u : Value) (l m : List Tm) (w : World) (h : Sl w 3 v (tv l)) (k : Sl w 3 u (tv m)) :
    Calls Tryz.prog 75 #[v, u] w fun e w' => ∃ q : Bool, e = .returned (.bool q) ∧ (q = true ↔ l = m) ∧ Below w.heap.size w w' := by
  obtain ⟨a, len, cap, rfl, h1, h2, h3, h4, h5⟩ := h
  obtain ⟨b, len', cap', rfl, k1, k2, k3, k4, k5⟩ := k
  unfold maxLen at h2 k2
  rw [tv_len] at h3 k3
  have hl : l.length = len := by omega
  have kl : m.length = len' := by omega
  clear h3 k3
  have Hl := Lib.hid hl; clear hl
  have Kl := Lib.hid kl; clear kl
  have H4 := Lib.hid h4; clear h4
  have H5 := Lib.hid h5; clear h5
  have K4 := Lib.hid k4; clear k4
  have K5 := Lib.hid k5; clear k5
  by_cases hll : len = len'
  · subst hll
    go_enter Tryz.func75, Tryz.ntmps75
    go_wp2
    go_loopw [13] (fun i wr => ∃ k : Nat, i = .int .i64 k ∧ k ≤ len ∧ l.take k = m.take k ∧ Below w.heap.size w wr) (fun i _ => len - (vI i).toNat)
    case atStart => exact ⟨0, rfl, Nat.zero_le _, rfl, Below.refl _ _⟩
    case round =>
      obtain ⟨k, rfl, hk, he, hB⟩ := hrel
      have He := Lib.hid he; clear he
      by_cases hlt : k < len
      · obtain ⟨ad, rfl⟩ : ∃ ad, a = some ad := by
          cases a with
          | none => have := H4.out rfl; omega
          | some ad => exact ⟨ad, rfl⟩
        obtain ⟨bd, rfl⟩ : ∃ ad, b = some ad := by
          cases b with
          | none => have := K4.out rfl; omega
          | some ad => exact ⟨ad, rfl⟩
        obtain ⟨⟨tc, tn, tm⟩, ht⟩ : ∃ t, l[k]? = some t := ⟨_, List.getElem?_eq_getElem (by rw [Hl.out]; exact hlt)⟩
        obtain ⟨⟨uc, un, um⟩, hu⟩ : ∃ t, m[k]? = some t := ⟨_, List.getElem?_eq_getElem (by rw [Kl.out]; exact hlt)⟩
        obtain ⟨e0, e1, e2⟩ := tv_get l k _ ht
        obtain ⟨e3, e4, e5⟩ := tv_get m k _ hu
        have d0 : wr.cell? (ad.add (k * 3)) = some (.int .i64 tc) := keep hB (H5.out ad rfl _ _ e0)
        have d1 : wr.cell? ⟨(ad.add (k * 3)).block, (ad.add (k * 3)).off + 1, none⟩ = some (.bool tn) := by rw [add_part _ _ _ (by omega)]; exact keep hB (H5.out ad rfl _ _ e1)
        have d2 : wr.cell? ⟨(ad.add (k * 3)).block, (ad.add (k * 3)).off + 2, none⟩ = some (.string tm) := by rw [add_part _ _ _ (by omega)]; exact keep hB (H5.out ad rfl _ _ e2)
        have d3 : wr.cell? (bd.add (k * 3)) = some (.int .i64 uc) := keep hB (K5.out bd rfl _ _ e3)
        have d4 : wr.cell? ⟨(bd.add (k * 3)).block, (bd.add (k * 3)).off + 1, none⟩ = some (.bool un) := by rw [add_part _ _ _ (by omega)]; exact keep hB (K5.out bd rfl _ _ e4)
        have d5 : wr.cell? ⟨(bd.add (k * 3)).block, (bd.add (k * 3)).off + 2, none⟩ = some (.string um) := by rw [add_part _ _ _ (by omega)]; exact keep hB (K5.out bd rfl _ _ e5)
        clear e0 e1 e2 e3 e4 e5
        have Ht := Lib.hid ht; clear ht
        have Hu := Lib.hid hu; clear hu
        obtain ⟨q, hq⟩ : ∃ q, neT ⟨tc, tn, tm⟩ ⟨uc, un, um⟩ = q := ⟨_, rfl⟩
        have hne : ∀ W : World, (Go.binOp .neq 63 (.agg #[.int .i64 tc, .bool tn, .string tm]) (.agg #[.int .i64 uc, .bool un, .string um])).run Tryz.prog W = .ok (.bool q) W := fun W => by rw [← hq]; exact neqTerm W tc uc tn un tm um
        have Hq := Lib.hid hq; clear hq
        have hgd := eqgTerm
        go_wp2
        go_quiet (fail)
        by_cases hqt : q = true
        · subst hqt
          go_wp2
          go_ret
          refine ⟨false, rfl, ⟨fun h => (by cases h), fun h => ?_⟩, below_draws hB nq⟩
          exfalso
          have e1 : (⟨tc, tn, tm⟩ : Tm) = ⟨uc, un, um⟩ := by
            have := Ht.out
            rw [h, Hu.out] at this
            exact (Option.some.inj this).symm
          have e2 := (neT_iff _ _).2 e1
          rw [Hq.out] at e2
          cases e2
        · have hqf : q = false := by simpa using hqt
          subst hqf
          clear hqt
          go_wp2
          go_roundw
          case measure => simp [vI]; omega
          case rel =>
            refine ⟨k + 1, i64_eq (by omega), by omega, ?_, below_draws hB nq⟩
            rw [List.take_add_one, List.take_add_one, Ht.out, Hu.out, He.out, (neT_iff _ _).1 Hq.out]
      · have hke : k = len := by omega
        have Hke := Lib.hid hke; clear hke
        go_wp2
        go_ret
        refine ⟨true, rfl, ⟨fun _ => ?_, fun _ => rfl⟩, hB⟩
        have := He.out
        rwa [Hke.out, List.take_of_length_le (Nat.le_of_eq Hl.out), List.take_of_length_le (Nat.le_of_eq Kl.out)] at this
  · have hneq : ((len : Int) == len') = false := by simp; omega
    have Hll := Lib.hid hll; clear hll
    go_enter Tryz.func75, Tryz.ntmps75
    go_wp2
    go_ret
    refine ⟨false, rfl, ⟨fun h => (by cases h), fun h => ?_⟩, Below.refl _ _⟩
    exact absurd (by rw [← Hl.out, ← Kl.out, h]) Hll.out

set_option maxRecDepth 100000 in
set_option maxHeartbeats 1000000 in
theorem svSame (v u : Value) (l m : List Tm) (w : World) (h : Sl w 3 v (tv l)) (k : Sl w 3 u (tv m)) :
    Calls Tryz.prog 18 #[v, u] w fun e w' => ∃ q : Bool, e = .returned (.bool q) ∧ (q = true ↔ l = m) ∧ Below w.heap.size w w' := by
  obtain ⟨a, len, cap, rfl, h1, h2, h3, h4, h5⟩ := h
  obtain ⟨b, len', cap', rfl, k1, k2, k3, k4, k5⟩ := k
  unfold maxLen at h2 k2
  rw [tv_len] at h3 k3
  have hl : l.length = len := by omega
  have kl : m.length = len' := by omega
  clear h3 k3
  have Hl := Lib.hid hl; clear hl
  have Kl := Lib.hid kl; clear kl
  have H4 := Lib.hid h4; clear h4
  have H5 := Lib.hid h5; clear h5
  have K4 := Lib.hid k4; clear k4
  have K5 := Lib.hid k5; clear k5
  by_cases hll : len = len'
  · subst hll
    go_enter Tryz.func18, Tryz.ntmps18
    go_wp2
    go_loopw [5] (fun i wr => ∃ k : Nat, i = .int .i64 k ∧ k ≤ len ∧ l.take k = m.take k ∧ Below w.heap.size w wr) (fun i _ => len - (vI i).toNat)
    case atStart => exact ⟨0, rfl, Nat.zero_le _, rfl, Below.refl _ _⟩
    case round =>
      obtain ⟨k, rfl, hk, he, hB⟩ := hrel
      have He := Lib.hid he; clear he
      by_cases hlt : k < len
      · obtain ⟨ad, rfl⟩ : ∃ ad, a = some ad := by
          cases a with
          | none => have := H4.out rfl; omega
          | some ad => exact ⟨ad, rfl⟩
        obtain ⟨bd, rfl⟩ : ∃ ad, b = some ad := by
          cases b with
          | none => have := K4.out rfl; omega
          | some ad => exact ⟨ad, rfl⟩
        obtain ⟨⟨tc, tn, tm⟩, ht⟩ : ∃ t, l[k]? = some t := ⟨_, List.getElem?_eq_getElem (by rw [Hl.out]; exact hlt)⟩
        obtain ⟨⟨uc, un, um⟩, hu⟩ : ∃ t, m[k]? = some t := ⟨_, List.getElem?_eq_getElem (by rw [Kl.out]; exact hlt)⟩
        obtain ⟨e0, e1, e2⟩ := tv_get l k _ ht
        obtain ⟨e3, e4, e5⟩ := tv_get m k _ hu
        have d0 : wr.cell? (ad.add (k * 3)) = some (.int .i64 tc) := keep hB (H5.out ad rfl _ _ e0)
        have d1 : wr.cell? ⟨(ad.add (k * 3)).block, (ad.add (k * 3)).off + 1, none⟩ = some (.bool tn) := by rw [add_part _ _ _ (by omega)]; exact keep hB (H5.out ad rfl _ _ e1)
        have d2 : wr.cell? ⟨(ad.add (k * 3)).block, (ad.add (k * 3)).off + 2, none⟩ = some (.string tm) := by rw [add_part _ _ _ (by omega)]; exact keep hB (H5.out ad rfl _ _ e2)
        have d3 : wr.cell? (bd.add (k * 3)) = some (.int .i64 uc) := keep hB (K5.out bd rfl _ _ e3)
        have d4 : wr.cell? ⟨(bd.add (k * 3)).block, (bd.add (k * 3)).off + 1, none⟩ = some (.bool un) := by rw [add_part _ _ _ (by omega)]; exact keep hB (K5.out bd rfl _ _ e4)
        have d5 : wr.cell? ⟨(bd.add (k * 3)).block, (bd.add (k * 3)).off + 2, none⟩ = some (.string um) := by rw [add_part _ _ _ (by omega)]; exact keep hB (K5.out bd rfl _ _ e5)
        clear e0 e1 e2 e3 e4 e5
        have Ht := Lib.hid ht; clear ht
        have Hu := Lib.hid hu; clear hu
        obtain ⟨q, hq⟩ : ∃ q, neT ⟨tc, tn, tm⟩ ⟨uc, un, um⟩ = q := ⟨_, rfl⟩
        have hne : ∀ W : World, (Go.binOp .neq 63 (.agg #[.int .i64 tc, .bool tn, .string tm]) (.agg #[.int .i64 uc, .bool un, .string um])).run Tryz.prog W = .ok (.bool q) W := fun W => by rw [← hq]; exact neqTerm W tc uc tn un tm um
        have Hq := Lib.hid hq; clear hq
        have hgd := eqgTerm
        go_wp2
        go_quiet (fail)
        by_cases hqt : q = true
        · subst hqt
          go_wp2
          go_ret
          refine ⟨false, rfl, ⟨fun h => (by cases h), fun h => ?_⟩, below_draws hB nq⟩
          exfalso
          have e1 : (⟨tc, tn, tm⟩ : Tm) = ⟨uc, un, um⟩ := by
            have := Ht.out
            rw [h, Hu.out] at this
            exact (Option.some.inj this).symm
          have e2 := (neT_iff _ _).2 e1
          rw [Hq.out] at e2
          cases e2
        · have hqf : q = false := by simpa using hqt
          subst hqf
          clear hqt
          go_wp2
          go_roundw
          case measure => simp [vI]; omega
          case rel =>
            refine ⟨k + 1, i64_eq (by omega), by omega, ?_, below_draws hB nq⟩
            rw [List.take_add_one, List.take_add_one, Ht.out, Hu.out, He.out, (neT_iff _ _).1 Hq.out]
      · have hke : k = len := by omega
        have Hke := Lib.hid hke; clear hke
        go_wp2
        go_ret
        refine ⟨true, rfl, ⟨fun _ => ?_, fun _ => rfl⟩, hB⟩
        have := He.out
        rwa [Hke.out, List.take_of_length_le (Nat.le_of_eq Hl.out), List.take_of_length_le (Nat.le_of_eq Kl.out)] at this
  · have hneq : ((len : Int) == len') = false := by simp; omega
    have Hll := Lib.hid hll; clear hll
    go_enter Tryz.func18, Tryz.ntmps18
    go_wp2
    go_ret
    refine ⟨false, rfl, ⟨fun h => (by cases h), fun h => ?_⟩, Below.refl _ _⟩
    exact absurd (by rw [← Hl.out, ← Kl.out, h]) Hll.out

end Go.Proofs.YtfcmpolhcpbliaaGreatDoor

namespace Go.Proofs.YtfcmpolhcpbliaaGreatDoor
open Go.RowKit Go.Cx

theorem ctm_inj {L M : List (Int × Int)} (h : ctm L = ctm M) : L = M := by rw [← prs_ctm L, h, prs_ctm]

set_option maxRecDepth 100000 in
set_option maxHeartbeats 1000000 in
theorem chEqual (v u : Value) (l m : List Tm) (S : Nat) (w : World) (h : Sl w 3 v (tv l)) (k : Sl w 3 u (tv m)) (hS : TOk S l) (kS : TOk S m) (hb : S + l.length ≤ 1099511627775) (kb : S + m.length ≤ 1099511627775) :
    Calls Tryz.prog 36 #[v, u] w fun e w' => ∃ q : Bool, e = .returned (.bool q) ∧ (q = true ↔ ∀ c, co (prs l) c = co (prs m) c) ∧ Below w.heap.size w w' := by
  go_enter Tryz.func36, Tryz.ntmps36
  go_wp2_with fail
  refine (chCanon _ l S _ h hS hb).mono ?_
  rintro e w1 ⟨r1, rfl, ⟨⟨L, hL, hLc, -, hr1⟩, hb1⟩⟩
  go_wp2_with fail
  refine (chCanon _ m S _ (k.keep hb1) kS kb).mono ?_
  rintro e w2 ⟨r2, rfl, ⟨⟨M, hM, hMc, -, hr2⟩, hb2⟩⟩
  go_wp2_with fail
  refine (slEqual _ _ (ctm L) (ctm M) _ (Sl.of_ownsRow (ownsRow_below hr1 hb2)) (Sl.of_ownsRow hr2)).mono ?_
  rintro e w3 ⟨q, rfl, hq, hb3⟩
  go_wp2_with fail
  go_ret
  refine ⟨q, rfl, hq.trans ⟨fun e c => ?_, fun e => ?_⟩, (hb1.trans (hb2.mono hb1.size)).trans (hb3.mono (Nat.le_trans hb1.size hb2.size))⟩
  · rw [← hLc, ← hMc, ctm_inj e]
  · rw [Cn.uniq hL hM (fun c => by rw [hLc, hMc]; exact e c)]

end Go.Proofs.YtfcmpolhcpbliaaGreatDoor

namespace Go.Proofs.YtfcmpolhcpbliaaGreatDoor
open Go.RowKit Go.Cx
attribute [local go_sem ↓] Go.wp_at_zero Go.wp_at_succ

set_option maxRecDepth 100000 in
set_option maxHeartbeats 2000000 in
theorem svCanon (v : Value) (l : List Tm) (S : Nat) (w : World) (h : Sl w 3 v (tv l)) (hS : TOk S l) (hb : S + l.length ≤ 1099511627774) :
    Calls Tryz.prog 35 #[v] w fun e w' => ∃ r, e = .returned r ∧ CRes w w' r (co (prs l)) l.length := by
  obtain ⟨a, len, cap, rfl, h1, h2, h3, h4, h5⟩ := h
  unfold maxLen at h2
  rw [tv_len] at h3
  have hl : l.length = len := by omega
  clear h3
  rw [hl] at hb
  have Hl := Lib.hid hl; clear hl
  have H4 := Lib.hid h4; clear h4
  have H5 := Lib.hid h5; clear h5
  have HS := Lib.hid hS; clear hS
  go_enter Tryz.func35, Tryz.ntmps35
  go_wp2
  go_loopw [3, 4] (fun o i wr => ∃ (k : Nat) (L : List (Int × Int)), i = .int .i64 k ∧ k ≤ len ∧ Cn L ∧ (∀ c, co L c = co (prs (l.take k)) c) ∧ L.length ≤ k ∧ wr.ownsRow w.heap.size 63 3 o L.length (tv (ctm L)) ∧ Below w.heap.size w wr) (fun _ i _ => len - (vI i).toNat)
  case atStart => exact ⟨0, [], rfl, Nat.zero_le _, Cn.nil, fun c => rfl, Nat.le_refl _, World.ownsRow_nil _ _ _ _, Below.refl _ _⟩
  case round =>
    obtain ⟨k, L, rfl, hk, hL, hLc, hLl, hown, hB⟩ := hrel
    have HLc := Lib.hid hLc; clear hLc
    by_cases hlt : k < len
    · obtain ⟨ad, rfl⟩ : ∃ ad, a = some ad := by
        cases a with
        | none => have := H4.out rfl; omega
        | some ad => exact ⟨ad, rfl⟩
      obtain ⟨⟨tc, tn, tm⟩, ht⟩ : ∃ t, l[k]? = some t := ⟨_, List.getElem?_eq_getElem (by rw [Hl.out]; exact hlt)⟩
      obtain ⟨e0, e1, e2⟩ := tv_get l k _ ht
      have d0 : wr.cell? (ad.add (k * 3)) = some (.int .i64 tc) := keep hB (H5.out ad rfl _ _ e0)
      have d1 : wr.cell? ⟨(ad.add (k * 3)).block, (ad.add (k * 3)).off + 1, none⟩ = some (.bool tn) := by rw [add_part _ _ _ (by omega)]; exact keep hB (H5.out ad rfl _ _ e1)
      have d2 : wr.cell? ⟨(ad.add (k * 3)).block, (ad.add (k * 3)).off + 2, none⟩ = some (.string tm) := by rw [add_part _ _ _ (by omega)]; exact keep hB (H5.out ad rfl _ _ e2)
      clear e0 e1 e2
      obtain ⟨q1, q2, q3⟩ := HS.out _ (List.mem_of_getElem? ht)
      dsimp only at q1 q2 q3
      have hLS : ∀ p ∈ L, nb p.2 ≤ S + len := fun p hp => by
        have h1 := nb_co S (prs (l.take k)) (nb_prs (fun t ht => HS.out t (List.mem_of_mem_take ht))) p.1
        rw [← HLc.out, co_mem hL.1 hp, prs_len, List.length_take, Hl.out] at h1
        omega
      have HLS := Lib.hid hLS; clear hLS
      have Ht := Lib.hid ht; clear ht
      go_wp2_with fail
      go_region_held3 (fun w' => w'.cell? (ad.add (k * 3)) = some (.int .i64 tc) ∧ w'.cell? ⟨(ad.add (k * 3)).block, (ad.add (k * 3)).off + 1, none⟩ = some (.bool tn) ∧ w'.cell? ⟨(ad.add (k * 3)).block, (ad.add (k * 3)).off + 2, none⟩ = some (.string tm))
        (first | exact ⟨by assumption, by assumption, by assumption⟩ | fail)
        (first
          | (go_at_call 50; refine (svPut _ L tc tn tm (S + len) _ (Sl.of_ownsRow hown).drew hL HLS.out (by omega) (by omega) (by omega)).mono ?_; rintro e w3 ⟨r, rfl, L', hIns, hown3, hb3⟩; have hB3 : Below wr.heap.size wr w3 := below_drew (hb3.mono (by simp)); have a1 := keep hB3 d0; have a2 := keep hB3 d1; have a3 := keep hB3 d2))
      have hst : w.heap.size ≤ wr.heap.size := hB.size
      go_wp2
      go_roundw
      case measure => simp [vI]; omega
      case rel =>
        refine ⟨k + 1, L', i64_eq (by omega), by omega, hIns.cn, fun c => ?_, Nat.le_trans hIns.len (by omega), ownsRow_mono hown3 (by simpa using hst), hB.trans (hB3.mono hst)⟩
        rw [hIns.co, HLc.out, List.take_add_one, Ht.out]
        exact (co_prs_snoc (l.take k) ⟨tc, tn, tm⟩ c).symm
    · have hke : k = len := by omega
      have Hke := Lib.hid hke; clear hke
      go_wp2
      go_ret
      refine ⟨_, rfl, ⟨L, hL, fun c => ?_, by rw [Hl.out]; omega, hown⟩, hB⟩
      rw [HLc.out, List.take_of_length_le (by rw [Hl.out, Hke.out]; exact Nat.le_refl _)]

end Go.Proofs.YtfcmpolhcpbliaaGreatDoor

namespace Go.Proofs.YtfcmpolhcpbliaaGreatDoor
open Go.RowKit Go.Cx
attribute [local go_sem ↓] Go.wp_at_zero Go.wp_at_succ

set_option maxRecDepth 100000 in
set_option maxHeartbeats 1000000 in
theorem svEqual (v u : Value) (l m : List Tm) (S : Nat) (w : World) (h : Sl w 3 v (tv l)) (k : Sl w 3 u (tv m)) (hS : TOk S l) (kS : TOk S m) (hb : S + l.length ≤ 1099511627774) (kb : S + m.length ≤ 1099511627774) :
    Calls Tryz.prog 41 #[v, u] w fun e w' => ∃ q : Bool, e = .returned (.bool q) ∧ (q = true ↔ ∀ c, co (prs l) c = co (prs m) c) ∧ Below w.heap.size w w' := by
  go_enter Tryz.func41, Tryz.ntmps41
  go_wp2_with fail
  refine (svCanon _ l S _ h hS hb).mono ?_
  rintro e w1 ⟨r1, rfl, ⟨⟨L, hL, hLc, -, hr1⟩, hb1⟩⟩
  go_wp2_with fail
  refine (svCanon _ m S _ (k.keep hb1) kS kb).mono ?_
  rintro e w2 ⟨r2, rfl, ⟨⟨M, hM, hMc, -, hr2⟩, hb2⟩⟩
  go_wp2_with fail
  refine (svSame _ _ (ctm L) (ctm M) _ (Sl.of_ownsRow (ownsRow_below hr1 hb2)) (Sl.of_ownsRow hr2)).mono ?_
  rintro e w3 ⟨q, rfl, hq, hb3⟩
  go_wp2_with fail
  go_ret
  refine ⟨q, rfl, hq.trans ⟨fun e c => ?_, fun e => ?_⟩, (hb1.trans (hb2.mono hb1.size)).trans (hb3.mono (Nat.le_trans hb1.size hb2.size))⟩
  · rw [← hLc, ← hMc, ctm_inj e]
  · rw [Cn.uniq hL hM (fun c => by rw [hLc, hMc]; exact e c)]

/-- The coefficients of a multiple. -/
def scl (x : Int) (l : List (Int × Int)) : List (Int × Int) := l.map fun p => (p.1, x * p.2)
theorem co_scl (x : Int) (l : List (Int × Int)) (c : Int) : co (scl x l) c = x * co l c := by
  induction l with
  | nil => simp [scl, co]
  | cons p l ih =>
    show co ((p.1, x * p.2) :: scl x l) c = _
    rw [co_cons, co_cons, ih, Int.mul_add]
    split <;> simp

set_option maxRecDepth 100000 in
set_option maxHeartbeats 2000000 in
theorem svScale (n : Bool) (s : ByteArray) (v : Value) (l : List Tm) (S : Nat) (w : World) (h : Sl w 3 v (tv l)) (hS : TOk S l) (hs : s.size ≤ S) (hb : 2 * S + l.length ≤ 1099511627774) :
    Calls Tryz.prog 38 #[.agg #[.bool n, .string s], v] w fun e w' => ∃ r, e = .returned r ∧ CRes w w' r (fun c => iv n s * co (prs l) c) l.length := by
  obtain ⟨a, len, cap, rfl, h1, h2, h3, h4, h5⟩ := h
  unfold maxLen at h2
  rw [tv_len] at h3
  have hl : l.length = len := by omega
  clear h3
  rw [hl] at hb
  have hns := iv_nb n s
  have Hl := Lib.hid hl; clear hl
  have H4 := Lib.hid h4; clear h4
  have H5 := Lib.hid h5; clear h5
  have HS := Lib.hid hS; clear hS
  obtain ⟨x, hx⟩ : ∃ x, iv n s = x := ⟨_, rfl⟩
  rw [hx] at hns ⊢
  have Hx := Lib.hid hx; clear hx
  go_enter Tryz.func38, Tryz.ntmps38
  go_wp2
  obtain ⟨W, hW⟩ : ∃ W : World, W = w.alloc (.cells #[.bool n, .string s] 46) := ⟨_, rfl⟩
  rw [← hW]
  have b0 : Bx W w.heap.size n s := by rw [hW]; exact Bx.new w _ _ _
  have hw : Below w.heap.size w W := by rw [hW]; exact (Below.refl _ _).alloc (Nat.le_refl _) _
  have hz : W.heap.size = w.heap.size + 1 := by rw [hW]; simp
  clear hW
  go_loopw [5, 6] (fun o i wr => ∃ (k : Nat) (L : List (Int × Int)), i = .int .i64 k ∧ k ≤ len ∧ Cn L ∧ (∀ c, co L c = co (scl x (prs (l.take k))) c) ∧ L.length ≤ k ∧ wr.ownsRow W.heap.size 63 3 o L.length (tv (ctm L)) ∧ Below W.heap.size W wr) (fun _ i _ => len - (vI i).toNat)
  case atStart => exact ⟨0, [], rfl, Nat.zero_le _, Cn.nil, fun c => rfl, Nat.le_refl _, World.ownsRow_nil _ _ _ _, Below.refl _ _⟩
  case round =>
    obtain ⟨k, L, rfl, hk, hL, hLc, hLl, hown, hB⟩ := hrel
    have hBw : Below w.heap.size w wr := hw.trans (hB.mono (by omega))
    have c0 := b0.keep hB (by omega)
    have ⟨p0, p1, _, _⟩ := c0
    have HLc := Lib.hid hLc; clear hLc
    by_cases hlt : k < len
    · obtain ⟨ad, rfl⟩ : ∃ ad, a = some ad := by
        cases a with
        | none => have := H4.out rfl; omega
        | some ad => exact ⟨ad, rfl⟩
      obtain ⟨⟨tc, tn, tm⟩, ht⟩ : ∃ t, l[k]? = some t := ⟨_, List.getElem?_eq_getElem (by rw [Hl.out]; exact hlt)⟩
      obtain ⟨e0, e1, e2⟩ := tv_get l k _ ht
      have d0 : wr.cell? (ad.add (k * 3)) = some (.int .i64 tc) := keep hBw (H5.out ad rfl _ _ e0)
      have d1 : wr.cell? ⟨(ad.add (k * 3)).block, (ad.add (k * 3)).off + 1, none⟩ = some (.bool tn) := by rw [add_part _ _ _ (by omega)]; exact keep hBw (H5.out ad rfl _ _ e1)
      have d2 : wr.cell? ⟨(ad.add (k * 3)).block, (ad.add (k * 3)).off + 2, none⟩ = some (.string tm) := by rw [add_part _ _ _ (by omega)]; exact keep hBw (H5.out ad rfl _ _ e2)
      clear e0 e1 e2
      obtain ⟨q1, q2, q3⟩ := HS.out _ (List.mem_of_getElem? ht)
      dsimp only at q1 q2 q3
      have hLS : ∀ p ∈ L, nb p.2 ≤ 2 * S + len := fun p hp => by
        have h1 := nb_co S (prs (l.take k)) (nb_prs (fun t ht => HS.out t (List.mem_of_mem_take ht))) p.1
        have h2 := HLc.out p.1
        rw [co_mem hL.1 hp, co_scl] at h2
        rw [h2]
        have h3 := nb_mul x (co (prs (l.take k)) p.1)
        rw [prs_len, List.length_take, Hl.out] at h1
        omega
      have HLS := Lib.hid hLS; clear hLS
      have Ht := Lib.hid ht; clear ht
      have hnt := iv_nb tn tm
      have hnp := nb_mul x (iv tn tm)
      go_wp2_with fail
      go_region_held3 (fun w' => w'.cell? (ad.add (k * 3)) = some (.int .i64 tc) ∧ w'.cell? ⟨(ad.add (k * 3)).block, (ad.add (k * 3)).off + 1, none⟩ = some (.bool tn) ∧ w'.cell? ⟨(ad.add (k * 3)).block, (ad.add (k * 3)).off + 2, none⟩ = some (.string tm) ∧ w'.cell? ⟨w.heap.size, 0, none⟩ = some (.bool n) ∧ w'.cell? ⟨w.heap.size, 1, none⟩ = some (.string s))
        (first | exact ⟨by assumption, by assumption, by assumption, by assumption, by assumption⟩ | fail)
        (first
          | (go_at_call 45; refine (refMul _ _ _ _ _ (by omega) (by omega)).mono ?_; rintro e w2 ⟨rfl, hb2⟩; rw [Hx.out]; have hB2 : Below wr.heap.size wr w2 := below_drew (hb2.mono (by simp)); have a1 := keep hB2 d0; have a2 := keep hB2 d1; have a3 := keep hB2 d2; have a4 := keep hB2 p0; have a5 := keep hB2 p1; have hown2 := ownsRow_below hown hB2)
          | (go_at_call 50; refine (svPut _ L tc _ _ (2 * S + len) _ (Sl.of_ownsRow hown2) hL HLS.out (by rw [mg_size]; omega) (by omega) (by omega)).mono ?_; rintro e w3 ⟨r, rfl, L', hIns, hown3, hb3⟩; rw [iv_mg] at hIns; have hB3 : Below wr.heap.size wr w3 := hB2.trans (hb3.mono hB2.size); have a6 := keep hb3 a1; have a7 := keep hb3 a2; have a8 := keep hb3 a3; have a9 := keep hb3 a4; have a10 := keep hb3 a5))
      have hst : W.heap.size ≤ wr.heap.size := hB.size
      go_wp2
      go_roundw
      case measure => simp [vI]; omega
      case rel =>
        refine ⟨k + 1, L', i64_eq (by omega), by omega, hIns.cn, fun c => ?_, Nat.le_trans hIns.len (by omega), ownsRow_mono hown3 (Nat.le_trans hst hB2.size), hB.trans (hB3.mono hst)⟩
        rw [hIns.co, HLc.out, List.take_add_one, Ht.out, co_scl, co_scl]
        show _ = x * co (prs (l.take k ++ [_])) c
        rw [co_prs_snoc, Int.mul_add]
        congr 1
        by_cases hc : tc = c
        · simp [hc, Tm.x]
        · simp [hc]
    · have hke : k = len := by omega
      have Hke := Lib.hid hke; clear hke
      go_wp2
      go_ret
      refine ⟨_, rfl, ⟨L, hL, fun c => ?_, by rw [Hl.out]; omega, ownsRow_mono hown (by omega)⟩, hBw⟩
      rw [HLc.out, co_scl, List.take_of_length_le (by rw [Hl.out, Hke.out]; exact Nat.le_refl _)]

end Go.Proofs.YtfcmpolhcpbliaaGreatDoor

namespace Go.Proofs.YtfcmpolhcpbliaaGreatDoor
open Go.RowKit Go.Cx

theorem row_empty (w : World) (t : TypeId) (st : Nat) : (w.alloc (.cells #[] t)).ownsRow w.heap.size t st (.slice (some ⟨w.heap.size, 0, none⟩) 0 0) 0 [] :=
  ⟨by simp, .inr ⟨w.heap.size, 0, #[], rfl, Nat.le_refl _, heap_alloc_new w _, Nat.le_refl _, by simp [maxLen], by simp, by simp⟩⟩

set_option maxRecDepth 100000 in
set_option maxHeartbeats 1000000 in
theorem svAdd (v u : Value) (l m : List Tm) (S : Nat) (w : World) (h : Sl w 3 v (tv l)) (k : Sl w 3 u (tv m)) (hS : TOk S l) (kS : TOk S m) (hb : S + l.length + m.length ≤ 1099511627774) :
    Calls Tryz.prog 42 #[v, u] w fun e w' => ∃ r, e = .returned r ∧ CRes w w' r (fun c => co (prs l) c + co (prs m) c) (l.length + m.length) := by
  have hB0 : Below w.heap.size w (w.alloc (.cells #[] 63)) := (Below.refl _ w).alloc (Nat.le_refl _) _
  go_enter Tryz.func42, Tryz.ntmps42
  go_wp2_with (at_builtin; refine wpList_appS (W := w) rfl _ _ 30 rfl w.heap.size 63 Tryz.infoTerm Tryz.underlying30 rfl (by decide) (by decide) _ _ _ rfl (row_empty w 63 3) _ l.length (tv l) rfl (h.alloc _) (tv_len l) (tv_one _) ?ad1 hB0 hB0.size ?_)
  case ad1 => omega
  intro v1 w1 hr1 hg1 hB1
  have k1 := k.keep hB1
  go_wp2_with (at_builtin; refine wpList_appS (W := w) rfl _ _ 30 rfl w.heap.size 63 Tryz.infoTerm Tryz.underlying30 rfl (by decide) (by decide) _ _ _ rfl hr1 _ m.length (tv m) rfl k1 (tv_len m) (tv_one _) ?ad2 hB1 hB1.size ?_)
  case ad2 => omega
  intro v2 w2 hr2 hg2 hB2
  have hr : Sl w2 3 v2 (tv (l ++ m)) := by rw [tv_append]; simpa using Sl.of_ownsRow hr2
  go_wp2_with fail
  refine (svCanon _ (l ++ m) S _ hr (hS.app kS) (by rw [List.length_append]; omega)).mono ?_
  rintro e w3 ⟨r, rfl, ⟨⟨L, hL, hLc, hLn, hr3⟩, hb3⟩⟩
  go_wp2_with fail
  go_ret
  exact ⟨_, rfl, ⟨L, hL, fun c => by rw [hLc, prs_append, co_append], by rw [List.length_append] at hLn; exact hLn, ownsRow_mono hr3 hB2.size⟩, hB2.trans (hb3.mono hB2.size)⟩

end Go.Proofs.YtfcmpolhcpbliaaGreatDoor

namespace Go.Proofs.YtfcmpolhcpbliaaGreatDoor
open Go.RowKit Go.Cx
attribute [local go_sem ↓] Go.wp_at_zero Go.wp_at_succ

/-- The sum of g at the cells, times the coefficients. -/
def pg (g : Int → Int) : List (Int × Int) → Int
  | [] => 0
  | p :: l => g p.1 * p.2 + pg g l
theorem pg_snoc (g : Int → Int) (l : List (Int × Int)) (p : Int × Int) : pg g (l ++ [p]) = pg g l + g p.1 * p.2 := by
  induction l with
  | nil => simp [pg]
  | cons q l ih => show g q.1 * q.2 + pg g (l ++ [p]) = g q.1 * q.2 + pg g l + _; rw [ih, Int.add_assoc]
theorem nb_pg (g : Int → Int) (G S : Nat) (l : List (Int × Int)) (hg : ∀ c, nb (g c) ≤ G) (h : ∀ p ∈ l, nb p.2 ≤ S) : nb (pg g l) ≤ G + S + l.length := by
  induction l with
  | nil => simp [pg, nb_zero]
  | cons p l ih =>
    have i := ih (fun q hq => h q (by simp [hq]))
    have h1 := h p (by simp)
    have h2 := nb_mul (g p.1) p.2
    have h3 := hg p.1
    have h4 := nb_add (g p.1 * p.2) (pg g l)
    show nb (g p.1 * p.2 + pg g l) ≤ _
    simp only [List.length_cons]
    omega

set_option maxRecDepth 100000 in
set_option maxHeartbeats 4000000 in
theorem svPair (v u : Value) (l m : List Tm) (S : Nat) (w : World) (h : Sl w 3 v (tv l)) (k : Sl w 3 u (tv m)) (hS : TOk S l) (kS : TOk S m) (hb : 2 * S + l.length + m.length ≤ 1099511627774) :
    Calls Tryz.prog 40 #[v, u] w fun e w' => e = .returned (wv (pg (co (prs l)) (prs m))) ∧ Below w.heap.size w w' := by
  obtain ⟨a, len, cap, rfl, h1, h2, h3, h4, h5⟩ := k
  obtain ⟨va, vn, vc, rfl⟩ := sl_shape h
  unfold maxLen at h2
  rw [tv_len] at h3
  have hl : m.length = len := by omega
  clear h3
  rw [hl] at hb
  have Hl := Lib.hid hl; clear hl
  have H4 := Lib.hid h4; clear h4
  have H5 := Lib.hid h5; clear h5
  have HS := Lib.hid kS; clear kS
  go_enter Tryz.func40, Tryz.ntmps40
  go_wp2
  obtain ⟨W, hW⟩ : ∃ W : World, W = (w.alloc (.cells #[.bool false, .string ⟨#[]⟩] 46)).alloc (.cells #[.bool false, .string ⟨#[]⟩] 46) := ⟨_, rfl⟩
  rw [← hW]
  have b0 : Bx W w.heap.size false ⟨#[]⟩ := by rw [hW]; exact (Bx.new w _ _ _).alloc (by simp) _
  have b1 : Bx W (w.heap.size + 1) false ⟨#[]⟩ := by rw [hW]; have := Bx.new (w.alloc (.cells #[.bool false, .string ⟨#[]⟩] 46)) false ⟨#[]⟩ 46; simpa using this
  have hw : Below w.heap.size w W := by rw [hW]; exact ((Below.refl _ _).alloc (Nat.le_refl _) _).alloc (by simp) _
  have hz : W.heap.size = w.heap.size + 2 := by rw [hW]; simp
  clear hW
  go_loopw [6] (fun i wr => ∃ (k : Nat) (x : Int), i = .int .i64 k ∧ k ≤ len ∧ x = pg (co (prs l)) (prs (m.take k)) ∧ Bx wr (w.heap.size + 1) (decide (x < 0)) (mg x) ∧ Below (w.heap.size + 1) W wr) (fun i _ => len - (vI i).toNat)
  case atStart => exact ⟨0, 0, rfl, Nat.zero_le _, rfl, by rw [mg_zero]; exact b1, Below.refl _ _⟩
  case round =>
    obtain ⟨k, x, rfl, hk, hx, hbx, hB⟩ := hrel
    have hBw : Below w.heap.size w wr := hw.trans (hB.mono (by omega))
    have Hx := Lib.hid hx; clear hx
    obtain ⟨p0, p1, p2, p3⟩ := hbx
    by_cases hlt : k < len
    · obtain ⟨ad, rfl⟩ : ∃ ad, a = some ad := by
        cases a with
        | none => have := H4.out rfl; omega
        | some ad => exact ⟨ad, rfl⟩
      obtain ⟨⟨tc, tn, tm⟩, ht⟩ : ∃ t, m[k]? = some t := ⟨_, List.getElem?_eq_getElem (by rw [Hl.out]; exact hlt)⟩
      obtain ⟨e0, e1, e2⟩ := tv_get m k _ ht
      have d0 : wr.cell? (ad.add (k * 3)) = some (.int .i64 tc) := keep hBw (H5.out ad rfl _ _ e0)
      have d1 : wr.cell? ⟨(ad.add (k * 3)).block, (ad.add (k * 3)).off + 1, none⟩ = some (.bool tn) := by rw [add_part _ _ _ (by omega)]; exact keep hBw (H5.out ad rfl _ _ e1)
      have d2 : wr.cell? ⟨(ad.add (k * 3)).block, (ad.add (k * 3)).off + 2, none⟩ = some (.string tm) := by rw [add_part _ _ _ (by omega)]; exact keep hBw (H5.out ad rfl _ _ e2)
      clear e0 e1 e2
      have hmS : tm.size ≤ S := (HS.out _ (List.mem_of_getElem? ht)).2.2
      have hnt := iv_nb tn tm
      have hco := nb_co S (prs l) (nb_prs hS)
      have hnx : nb x ≤ S + l.length + S + len := by
        have := nb_pg (co (prs l)) (S + l.length) S (prs (m.take k)) (fun c => by have := hco c; rwa [prs_len] at this) (nb_prs (fun t ht => HS.out t (List.mem_of_mem_take ht)))
        rw [prs_len, List.length_take, Hl.out] at this
        rw [Hx.out]; omega
      have hcc := hco tc
      rw [prs_len] at hcc
      have hnp := nb_mul (co (prs l) tc) (iv tn tm)
      clear hco
      have hsn : pg (co (prs l)) (prs (m.take (k + 1))) = x + co (prs l) tc * iv tn tm := by
        rw [List.take_add_one, ht, prs_append]
        exact (pg_snoc _ _ _).trans (by rw [← Hx.out]; rfl)
      have Hsn := Lib.hid hsn; clear hsn
      have Ht := Lib.hid ht; clear ht
      have hv := h.keep hBw
      have hst : w.heap.size + 2 ≤ wr.heap.size := by have := hB.size; omega
      have c1 : Bx wr (w.heap.size + 1) (decide (x < 0)) (mg x) := ⟨p0, p1, p2, p3⟩
      go_wp2_with fail
      go_region_with (first
        | (go_at_call 53; refine (svCoef _ l tc S _ hv.drew hS (by omega)).mono ?_; rintro e w3 ⟨rfl, hb3⟩; have hB3 : Below wr.heap.size wr w3 := below_drew (hb3.mono (by simp)); have f1 := keep hB3 d1; have f2 := keep hB3 d2; obtain ⟨y0, y1, y2, y3⟩ := c1.keep hB3 (by omega))
        | (go_at_call 45; refine (refMul _ _ _ _ _ (by rw [mg_size]; omega) (by omega)).mono ?_; rintro e w4 ⟨rfl, hb4⟩; rw [iv_mg]; have hB4 : Below wr.heap.size wr w4 := hB3.trans (hb4.mono hB3.size); obtain ⟨z0, z1, z2, z3⟩ := c1.keep hB4 (by omega))
        | (go_at_call 34; refine (refAdd _ _ _ _ _ (by rw [mg_size]; omega) (by rw [mg_size]; omega)).mono ?_; rintro e w5 ⟨rfl, hb5⟩; rw [iv_mg, iv_mg]; have hB5 : Below wr.heap.size wr w5 := hB4.trans (hb5.mono hB4.size); obtain ⟨t0, t1, t2, t3⟩ := c1.keep hB5 (by omega)))
      all_goals
        go_wp2
        go_roundw
        case measure => simp [vI]; omega
        case rel =>
          refine ⟨k + 1, x + co (prs l) tc * iv tn tm, i64_eq (by omega), by omega, Hsn.out.symm, Bx.put (n := decide (x < 0)) (s := mg x) ⟨t0, t1, t2, t3⟩ _ _, ?_⟩
          exact ((hB.trans (hB5.mono (by omega))).setCell (p := ⟨w.heap.size + 1, 0, none⟩) (Nat.le_refl _) _).setCell (p := ⟨w.heap.size + 1, 1, none⟩) (Nat.le_refl _) _
    · have hke : k = len := by omega
      have Hke := Lib.hid hke; clear hke
      have hst : w.heap.size + 2 ≤ wr.heap.size := by have := hB.size; omega
      obtain ⟨r0, r1, r2, r3⟩ := b0.keep hB (by omega)
      go_wp2_with fail
      refine bodyPost_ret (v := wv x) (by simp [results, Tryz.results40, go_sem, r0, r1]) rfl ⟨?_, ?_⟩
      · rw [Hx.out, Hke.out, List.take_of_length_le (Nat.le_of_eq Hl.out)]
      · exact (hBw.setCell (p := ⟨w.heap.size, 0, none⟩) (Nat.le_refl _) _).setCell (p := ⟨w.heap.size, 1, none⟩) (Nat.le_refl _) _

end Go.Proofs.YtfcmpolhcpbliaaGreatDoor

namespace Go.Proofs.YtfcmpolhcpbliaaGreatDoor
open Go.Cx

theorem pg_split (g : Int → Int) (c : Int) (l : List (Int × Int)) : pg g l = g c * co l c + pg g (l.filter fun p => decide (p.1 ≠ c)) := by
  induction l with
  | nil => simp [pg, co]
  | cons p l ih =>
    show g p.1 * p.2 + pg g l = _
    rw [ih, co_cons, Int.mul_add, List.filter_cons]
    by_cases h : p.1 = c
    · simp only [h, if_true, ne_eq, not_true, decide_false, Bool.false_eq_true, if_false]; omega
    · simp only [h, if_false, ne_eq, not_false_eq_true, decide_true, if_true]
      show _ = _ + (g p.1 * p.2 + pg g _)
      omega
theorem co_split (c d : Int) (l : List (Int × Int)) : co (l.filter fun p => decide (p.1 ≠ c)) d = if d = c then 0 else co l d := by
  induction l with
  | nil => simp [co]
  | cons p l ih =>
    rw [List.filter_cons]
    by_cases h : p.1 = c
    · simp only [h, ne_eq, not_true, decide_false, Bool.false_eq_true, if_false]
      rw [ih, co_cons, h]
      by_cases hd : d = c
      · simp [hd]
      · rw [if_neg hd, if_neg hd, if_neg (fun e => hd e.symm), Int.zero_add]
    · simp only [h, ne_eq, not_false_eq_true, decide_true, if_true]
      rw [co_cons, co_cons, ih]
      by_cases hd : d = c
      · subst hd; simp [h]
      · simp [hd]

theorem pg_congr (g : Int → Int) : ∀ (n : Nat) (l m : List (Int × Int)), l.length + m.length ≤ n → (∀ c, co l c = co m c) → pg g l = pg g m := by
  intro n
  induction n with
  | zero =>
    intro l m h _
    have h1 : l = [] := List.length_eq_zero_iff.1 (by omega)
    have h2 : m = [] := List.length_eq_zero_iff.1 (by omega)
    rw [h1, h2]
  | succ n ih =>
    intro l m h hc
    by_cases h0 : l.length + m.length = 0
    · exact ih l m (by omega) hc
    · obtain ⟨c, hlt⟩ : ∃ c, (l.filter fun p => decide (p.1 ≠ c)).length + (m.filter fun p => decide (p.1 ≠ c)).length < l.length + m.length := by
        cases l with
        | cons p l =>
          refine ⟨p.1, ?_⟩
          have h1 := List.length_filter_le (fun q : Int × Int => decide (q.1 ≠ p.1)) l
          have h2 := List.length_filter_le (fun q : Int × Int => decide (q.1 ≠ p.1)) m
          rw [List.filter_cons]
          simp only [ne_eq, not_true, decide_false, Bool.false_eq_true, if_false, List.length_cons] at *
          omega
        | nil =>
          cases m with
          | nil => simp at h0
          | cons p m =>
            refine ⟨p.1, ?_⟩
            have h2 := List.length_filter_le (fun q : Int × Int => decide (q.1 ≠ p.1)) m
            rw [List.filter_cons]
            simp only [ne_eq, not_true, decide_false, Bool.false_eq_true, if_false, List.length_cons, List.filter_nil, List.length_nil] at *
            omega
      rw [pg_split g c l, pg_split g c m, hc, ih (l.filter fun p => decide (p.1 ≠ c)) (m.filter fun p => decide (p.1 ≠ c)) (by omega) (fun d => by rw [co_split, co_split, hc])]

end Go.Proofs.YtfcmpolhcpbliaaGreatDoor

namespace Go.Proofs.YtfcmpolhcpbliaaGreatDoor
open Go.RowKit Go.Cx
attribute [local go_sem ↓] Go.wp_at_zero Go.wp_at_succ

set_option maxRecDepth 100000 in
set_option maxHeartbeats 4000000 in
theorem chPair (v u : Value) (l m : List Tm) (S : Nat) (w : World) (h : Sl w 3 v (tv l)) (k : Sl w 3 u (tv m)) (hS : TOk S l) (kS : TOk S m) (hb : 2 * S + l.length + 2 * m.length ≤ 1099511627774) :
    Calls Tryz.prog 27 #[v, u] w fun e w' => e = .returned (wv (pg (co (prs l)) (prs m))) ∧ Below w.heap.size w w' := by
  obtain ⟨va, vn, vc, rfl⟩ := sl_shape h
  go_enter Tryz.func27, Tryz.ntmps27
  go_wp2_with fail
  have hc := chOf (.slice (some ⟨w.heap.size + 1, 0, none⟩) 1 1) [l] S ((w.alloc (.cells #[.bool false, .string ⟨#[]⟩] 46)).alloc (.cells #[.slice va vn vc] 30)) (by have := SlL.one (h.alloc (.cells #[.bool false, .string ⟨#[]⟩] 46)) 30; rwa [World.size_alloc] at this) (by simpa using hS) (by simp; omega)
  refine hc.mono ?_
  rintro e w1 ⟨rfl, ⟨g, hm, hg⟩, hb1⟩
  simp only [List.flatten_cons, List.flatten_nil, List.append_nil, World.size_alloc] at hm hg hb1
  simp only [World.size_alloc]
  clear hc
  go_wp2_with fail
  have hB1 : Below w.heap.size w w1 := (((Below.refl _ w).alloc (Nat.le_refl _) _).alloc (by simp) _).trans (hb1.mono (by omega))
  have b0 : Bx w1 w.heap.size false ⟨#[]⟩ := (((Bx.new w false ⟨#[]⟩ 46).alloc (by simp) _).keep hb1 (by omega))
  have hz1 : w.heap.size + 2 ≤ w1.heap.size := by have := hb1.size; simpa using this
  have k1 := (k.keep hB1).alloc (.cells #[.bool false, .string ⟨#[]⟩] 46)
  refine (chCanon _ m S _ k1 kS (by omega)).mono ?_
  rintro e w2 ⟨r, rfl, ⟨⟨L, hL, hLc, hLn, hr2⟩, hb2⟩⟩
  simp only [World.size_alloc] at hb2
  have hB12 : Below w1.heap.size w1 w2 := ((Below.refl _ w1).alloc (Nat.le_refl _) _).trans (hb2.mono (by omega))
  have b1 : Bx w2 w1.heap.size false ⟨#[]⟩ := (Bx.new w1 false ⟨#[]⟩ 46).keep hb2 (by omega)
  have hz2 : w1.heap.size + 1 ≤ w2.heap.size := by have := hb2.size; simpa using this
  have hBw2 := hB1.trans (hB12.mono (by omega))
  have hv2 := Sl.of_ownsRow hr2
  have hblk : ∀ (ad : Addr) (n c : Nat), r = .slice (some ad) n c → w1.heap.size + 1 ≤ ad.block := fun ad n c hr => by
    have := (hr2.lt ad.block (by rw [hr]; rfl)).1
    simpa using this
  clear hr2 k1
  obtain ⟨a, len, cap, rfl, h1, h2, h3, h4, h5⟩ := hv2
  unfold maxLen at h2
  rw [tv_len, ctm_len] at h3
  have hl : L.length = len := by omega
  clear h3
  rw [hl] at hLn
  have Hl := Lib.hid hl; clear hl
  have H4 := Lib.hid h4; clear h4
  have H5 := Lib.hid h5; clear h5
  have HLc := Lib.hid hLc; clear hLc
  have hLS : ∀ p ∈ L, nb p.2 ≤ S + m.length := fun p hp => by
    have h1 := nb_co S (prs m) (nb_prs kS) p.1
    rwa [← HLc.out, co_mem hL.1 hp, prs_len] at h1
  have HLS := Lib.hid hLS; clear hLS
  have hko : ∀ p ∈ L, -9223372036854775808 ≤ p.1 ∧ p.1 ≤ 9223372036854775807 := fun p hp => by
    have h1 := HLc.out p.1
    rw [co_mem hL.1 hp] at h1
    have h2 := hL.2 p hp
    rcases Classical.em (∃ t ∈ m, t.c = p.1) with ⟨t, ht, he⟩ | hno
    · have := kS t ht; rw [he] at this; exact ⟨this.1, this.2.1⟩
    · exfalso
      rw [co_zero (prs m) p.1 (fun q hq e => by
        obtain ⟨t, ht, rfl⟩ := List.mem_map.1 hq
        exact hno ⟨t, ht, e⟩)] at h1
      exact h2 h1
  have Hko := Lib.hid hko; clear hko
  have hco := nb_co S (prs l) (nb_prs hS)
  rw [prs_len] at hco
  have Hco := Lib.hid hco; clear hco
  go_wp2
  go_loopw [15] (fun i wr => ∃ (k : Nat) (x : Int), i = .int .i64 k ∧ k ≤ len ∧ x = pg (co (prs l)) (L.take k) ∧ Bx wr w1.heap.size (decide (x < 0)) (mg x) ∧ Below w1.heap.size w1 wr ∧ (∀ p : Addr, p.block ≠ w1.heap.size → ∀ u, w2.cell? p = some u → wr.cell? p = some u) ∧ w1.heap.size + 1 ≤ wr.heap.size) (fun i _ => len - (vI i).toNat)
  case atStart => exact ⟨0, 0, rfl, Nat.zero_le _, rfl, by rw [mg_zero]; exact b1, hB12, fun _ _ _ h => h, hz2⟩
  case round =>
    obtain ⟨k, x, rfl, hk, hx, hbx, hB, hcell, hzr⟩ := hrel
    have Hx := Lib.hid hx; clear hx
    have Hcell := Lib.hid hcell; clear hcell
    obtain ⟨p0, p1, p2, p3⟩ := hbx
    by_cases hlt : k < len
    · obtain ⟨ad, rfl⟩ : ∃ ad, a = some ad := by
        cases a with
        | none => have := H4.out rfl; omega
        | some ad => exact ⟨ad, rfl⟩
      have hbk := hblk ad len cap rfl
      have hadd : ∀ j, (ad.add j).block = ad.block := fun j => by unfold Addr.add; split <;> rfl
      obtain ⟨⟨tc, tx⟩, ht⟩ : ∃ t, L[k]? = some t := ⟨_, List.getElem?_eq_getElem (by rw [Hl.out]; exact hlt)⟩
      obtain ⟨e0, e1, e2⟩ := tv_get (ctm L) k ⟨tc, decide (tx < 0), mg tx⟩ (by simp [ctm, ht])
      have d0 : wr.cell? (ad.add (k * 3)) = some (.int .i64 tc) := Hcell.out _ (by rw [hadd]; omega) _ (H5.out ad rfl _ _ e0)
      have d1 : wr.cell? ⟨(ad.add (k * 3)).block, (ad.add (k * 3)).off + 1, none⟩ = some (.bool (decide (tx < 0))) := by rw [add_part _ _ _ (by omega)]; exact Hcell.out _ (by rw [hadd]; omega) _ (H5.out ad rfl _ _ e1)
      have d2 : wr.cell? ⟨(ad.add (k * 3)).block, (ad.add (k * 3)).off + 2, none⟩ = some (.string (mg tx)) := by rw [add_part _ _ _ (by omega)]; exact Hcell.out _ (by rw [hadd]; omega) _ (H5.out ad rfl _ _ e2)
      clear e0 e1 e2 hadd
      have hmL := List.mem_of_getElem? ht
      have hxS := HLS.out _ hmL
      obtain ⟨q1, q2⟩ := Hko.out _ hmL
      dsimp only at hxS q1 q2
      have hcc := Hco.out tc
      have hnp := nb_mul (co (prs l) tc) tx
      have hnx : nb x ≤ S + l.length + (S + m.length) + len := by
        have := nb_pg (co (prs l)) (S + l.length) (S + m.length) (L.take k) Hco.out (fun p hp => HLS.out p (List.mem_of_mem_take hp))
        rw [List.length_take, Hl.out] at this
        rw [Hx.out]; omega
      have hsn : pg (co (prs l)) (L.take (k + 1)) = x + co (prs l) tc * tx := by
        rw [List.take_add_one, ht]
        exact (pg_snoc _ _ _).trans (by rw [← Hx.out])
      have Hsn := Lib.hid hsn; clear hsn
      have Ht := Lib.hid ht; clear ht
      have hkey := key_int (P := Tryz.prog) (k := 3) Tryz.underlying3 q1 q2
      have hmr := ((hm.keep (hB.mono (Nat.le_refl _))).alloc (.cells #[.int .i64 tc, .bool (decide (tx < 0)), .string (mg tx)] 63))
      have hlk := Mp.look (w := (wr.alloc (.cells #[.int .i64 tc, .bool (decide (tx < 0)), .string (mg tx)] 63)).drew) hmr Tryz.underlying3 Tryz.underlying81 (zeroWide _) hkey
      rw [hg tc] at hlk
      have c1 : Bx wr w1.heap.size (decide (x < 0)) (mg x) := ⟨p0, p1, p2, p3⟩
      go_wp2_with fail
      have cA := c1.alloc (by omega) (.cells #[.int .i64 tc, .bool (decide (tx < 0)), .string (mg tx)] 63)
      have ⟨g0, g1, _, _⟩ := cA
      go_region_with (first
        | (go_at_call 56; refine (wMulW _ _ _ _ _ (by rw [mg_size]; omega) (by rw [mg_size]; omega)).mono ?_; rintro e w4 ⟨rfl, hb4⟩; rw [iv_mg, iv_mg]; have hB4 : Below (wr.heap.size + 1) (wr.alloc (.cells #[.int .i64 tc, .bool (decide (tx < 0)), .string (mg tx)] 63)) w4 := below_drew (hb4.mono (by simp)); obtain ⟨z0, z1, z2, z3⟩ := cA.keep hB4 (by omega))
        | (go_at_call 62; refine (wAddW _ _ _ _ _ (by rw [mg_size]; omega) (by rw [mg_size]; omega)).mono ?_; rintro e w5 ⟨rfl, hb5⟩; rw [iv_mg, iv_mg]; have hB5 : Below (wr.heap.size + 1) (wr.alloc (.cells #[.int .i64 tc, .bool (decide (tx < 0)), .string (mg tx)] 63)) w5 := hB4.trans (hb5.mono (by have := hB4.size; simpa using this)); obtain ⟨t0, t1, t2, t3⟩ := cA.keep hB5 (by omega)))
      all_goals
        have hBr := below_start hB5 (Nat.le_succ _)
        go_wp2
        go_roundw
        case measure => simp [vI]; omega
        case rel =>
          refine ⟨k + 1, x + co (prs l) tc * tx, i64_eq (by omega), by omega, Hsn.out.symm, Bx.put (n := decide (x < 0)) (s := mg x) ⟨t0, t1, t2, t3⟩ _ _, ?_, fun p hp u hu => ?_, ?_⟩
          · exact ((hB.trans (hBr.mono (by omega))).setCell (p := ⟨w1.heap.size, 0, none⟩) (Nat.le_refl _) _).setCell (p := ⟨w1.heap.size, 1, none⟩) (Nat.le_refl _) _
          · exact cell_set (cell_set (keep hBr (Hcell.out p hp u hu)) hp) hp
          · have := hBr.size; simp [World.setCell]; omega
    · have hke : k = len := by omega
      have Hke := Lib.hid hke; clear hke
      obtain ⟨r0, r1, r2, r3⟩ := b0.keep hB (by omega)
      go_wp2_with fail
      refine bodyPost_ret (v := wv x) (by simp [results, Tryz.results27, go_sem, r0, r1]) rfl ⟨?_, ?_⟩
      · rw [Hx.out, Hke.out, List.take_of_length_le (Nat.le_of_eq Hl.out)]
        rw [pg_congr (co (prs l)) _ L (prs m) (Nat.le_refl _) HLc.out]
      · exact ((hB1.trans (hB.mono (by omega))).setCell (p := ⟨w.heap.size, 0, none⟩) (Nat.le_refl _) _).setCell (p := ⟨w.heap.size, 1, none⟩) (Nat.le_refl _) _

end Go.Proofs.YtfcmpolhcpbliaaGreatDoor

namespace Go.Proofs.YtfcmpolhcpbliaaGreatDoor
open Go.RowKit Go.Cx
attribute [local go_sem ↓] Go.wp_at_zero Go.wp_at_succ

/-- Pairs of ints as cells. -/
def pv (l : List (Int × Int)) : List Value := l.flatMap fun p => [.int .i64 p.1, .int .i64 p.2]
theorem pv_cons (p : Int × Int) (l : List (Int × Int)) : pv (p :: l) = .int .i64 p.1 :: .int .i64 p.2 :: pv l := rfl
theorem pv_len (l : List (Int × Int)) : (pv l).length = l.length * 2 := by
  induction l with
  | nil => rfl
  | cons t l ih => rw [pv_cons]; simp only [List.length_cons, ih]; omega
theorem pv_get (l : List (Int × Int)) (i : Nat) (t : Int × Int) (h : l[i]? = some t) : (pv l)[i * 2]? = some (.int .i64 t.1) ∧ (pv l)[i * 2 + 1]? = some (.int .i64 t.2) := by
  induction l generalizing i with
  | nil => simp at h
  | cons u l ih =>
    cases i with
    | zero => simp at h; subst h; simp [pv_cons]
    | succ i =>
      have := ih i (by simpa using h)
      rw [pv_cons, show (i + 1) * 2 = i * 2 + 1 + 1 by omega, show i * 2 + 1 + 1 + 1 = (i * 2 + 1) + 1 + 1 by omega]
      simpa using this

theorem keepAl {w : World} {p : Addr} {u : Value} (h : w.cell? p = some u) (o : Obj) : (w.alloc o).cell? p = some u := keep ((Below.refl _ w).alloc (Nat.le_refl _) o) h

theorem news3 (w : World) (t : TypeId) (xs : List Value) : ∀ j u, xs[j]? = some u → (w.alloc (.cells xs.toArray t)).cell? ((⟨w.heap.size, 0, none⟩ : Addr).add j) = some u := fun j u hj => by
  rw [Addr.add_lit, Nat.zero_add, cell_new]; simpa using hj
theorem one3 (c : Int) (b : Bool) (s : ByteArray) : ∀ u ∈ [Value.int .i64 c, .bool b, .string s], u.oneCell' = true := by
  intro u hu; simp at hu; rcases hu with rfl | rfl | rfl <;> rfl

/-- Ints in range. -/
def I64 (x : Int) : Prop := -9223372036854775808 ≤ x ∧ x ≤ 9223372036854775807

set_option maxRecDepth 100000 in
set_option maxHeartbeats 2000000 in
theorem svTerms (v : Value) (l : List (Int × Int)) (w : World) (h : Sl w 2 v (pv l)) (hr : ∀ p ∈ l, I64 p.1 ∧ I64 p.2) :
    Calls Tryz.prog 15 #[v] w fun e w' => ∃ r, e = .returned r ∧ w'.ownsRow w.heap.size 63 3 r (l.take 30).length (tv (ctm (l.take 30))) ∧ Below w.heap.size w w' := by
  obtain ⟨a, len, cap, rfl, h1, h2, h3, h4, h5⟩ := h
  unfold maxLen at h2
  rw [pv_len] at h3
  have hl : l.length = len := by omega
  clear h3
  have Hl := Lib.hid hl; clear hl
  have H4 := Lib.hid h4; clear h4
  have H5 := Lib.hid h5; clear h5
  have HR := Lib.hid hr; clear hr
  go_enter Tryz.func15, Tryz.ntmps15
  go_wp2
  go_loopw [3, 4] (fun o i wr => ∃ k : Nat, i = .int .i64 k ∧ k ≤ len ∧ k ≤ 30 ∧ wr.ownsRow w.heap.size 63 3 o k (tv (ctm (l.take k))) ∧ Below w.heap.size w wr) (fun _ i _ => len - (vI i).toNat)
  case atStart => exact ⟨0, rfl, Nat.zero_le _, by omega, World.ownsRow_nil _ _ _ _, Below.refl _ _⟩
  case round =>
    obtain ⟨k, rfl, hk, hk30, hown, hB⟩ := hrel
    by_cases hlt : k < len ∧ k < 30
    · obtain ⟨hlt, hk3⟩ := hlt
      obtain ⟨ad, rfl⟩ : ∃ ad, a = some ad := by
        cases a with
        | none => have := H4.out rfl; omega
        | some ad => exact ⟨ad, rfl⟩
      obtain ⟨⟨tc, tx⟩, ht⟩ : ∃ t, l[k]? = some t := ⟨_, List.getElem?_eq_getElem (by rw [Hl.out]; exact hlt)⟩
      obtain ⟨e0, e1⟩ := pv_get l k _ ht
      have W0 := Lib.hid (H5.out ad rfl _ _ e0)
      have W1 := Lib.hid (show w.cell? ⟨(ad.add (k * 2)).block, (ad.add (k * 2)).off + 1, none⟩ = some (.int .i64 tx) by rw [add_part _ _ _ (by omega)]; exact H5.out ad rfl _ _ e1)
      have d0 : wr.cell? (ad.add (k * 2)) = some (.int .i64 tc) := keep hB (H5.out ad rfl _ _ e0)
      have d1 : wr.cell? ⟨(ad.add (k * 2)).block, (ad.add (k * 2)).off + 1, none⟩ = some (.int .i64 tx) := by rw [add_part _ _ _ (by omega)]; exact keep hB (H5.out ad rfl _ _ e1)
      clear e0 e1
      obtain ⟨r1, r2⟩ := HR.out _ (List.mem_of_getElem? ht)
      obtain ⟨x1, x2⟩ := r2
      dsimp only at x1 x2
      have Ht := Lib.hid ht; clear ht r1
      obtain ⟨i0, hi, hz0, hz1, hz2⟩ := info_parts Tryz.infoTerm
      have hst : w.heap.size ≤ wr.heap.size := hB.size
      go_wp2_with fail
      go_region_held3 (fun w' => w'.cell? (ad.add (k * 2)) = some (.int .i64 tc) ∧ w'.cell? ⟨(ad.add (k * 2)).block, (ad.add (k * 2)).off + 1, none⟩ = some (.int .i64 tx))
        (first | exact ⟨by assumption, by assumption⟩ | exact ⟨keepAl (by assumption) _, keepAl (by assumption) _⟩)
        (first
          | (go_at_call 39; refine (refFrom _ _ x1 x2).mono ?_; rintro e w3 ⟨rfl, hb3⟩; have hB3 : Below wr.heap.size wr w3 := below_drew (hb3.mono (by simp)); have a1 := keep hB3 d0; have a2 := keep hB3 d1; have hown3 := ownsRow_below hown hB3)
          | (refine step_append_lies _ rfl _ _ 30 rfl w.heap.size 63 i0 _ 3 32 Tryz.underlying30 hi hz0 hz1 hz2 rfl (by decide) _ k (tv (ctm (l.take k))) rfl (hown3.alloc _) ⟨w3.heap.size, 0, none⟩ 1 1 [.int .i64 tc, .bool (decide (tx < 0)), .string (mg tx)] rfl rfl (news3 _ _ _) (one3 _ _ _) (by decide) (by unfold maxLen; omega) (by omega) (by have := hB3.size; simp; omega) _ rfl ?_; intro g cg w5 hown5 hgrow5 hat5 hlt5; have hB5 : Below w.heap.size wr w5 := ((hB3.mono hst).alloc (by have := hB3.size; omega) _).grown hgrow5 (by have := hB3.size; simp; omega) (fun k hk => (hown3.lt k hk).1); have a5 := keep (hB.trans hB5) W0.out; have a6 := keep (hB.trans hB5) W1.out))
      go_wp2
      go_roundw
      case measure => simp [vI]; omega
      case rel =>
        refine ⟨k + 1, i64_eq (by omega), by omega, by omega, ?_, hB.trans hB5⟩
        rw [List.take_add_one, Ht.out]
        show w5.ownsRow _ _ _ _ _ (tv (ctm (l.take k ++ [(tc, tx)])))
        rw [ctm_append, tv_append]
        exact hown5
    · have hke : l.take k = l.take 30 := by
        rcases Nat.lt_or_ge k len with h | h
        · rw [show k = 30 by omega]
        · rw [List.take_of_length_le (by rw [Hl.out]; exact h), List.take_of_length_le (by rw [Hl.out]; omega)]
      have Hke := Lib.hid hke; clear hke
      by_cases hkl : k < len
      · have hk0 : k = 30 := by omega
        have Hk0 := Lib.hid hk0
        subst hk0
        go_wp2
        go_ret
        refine ⟨_, rfl, ?_, hB⟩
        exact row_n hown (by rw [Hl.out]; omega)
      · have hk0 : k = len := by omega
        have Hk0 := Lib.hid hk0; clear hk0
        go_wp2
        go_ret
        refine ⟨_, rfl, ?_, hB⟩
        rw [← Hke.out, List.length_take, Hl.out, Nat.min_eq_left hk]; exact hown

end Go.Proofs.YtfcmpolhcpbliaaGreatDoor
