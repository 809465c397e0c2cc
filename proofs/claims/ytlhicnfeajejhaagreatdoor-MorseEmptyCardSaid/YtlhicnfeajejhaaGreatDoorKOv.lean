/- cocycleref06: Matrix. The rows in memory. cocycleref06: Matrix. -/
import Derived.Deep.OwnRows
import Derived.StillTailTactics
import Derived.Test.YtlhicnfeajejhaaGreatDoorKOu
set_option maxRecDepth 1000000
set_option maxHeartbeats 16000000
namespace Go.Proofs.YtlhicnfeajejhaaGreatDoor
open Go.RowKit Go.Cx
attribute [local go_sem ↓] Go.wp_at_zero Go.wp_at_succ
structure KS (S : Nat → Prop) (w w' : World) : Prop where
 size : w.heap.size ≤ w'.heap.size
 blk : ∀ b, b < w.heap.size → ¬ S b → w'.heap[b]? = w.heap[b]?
theorem KS.refl (S : Nat → Prop) (w : World) : KS S w w := ⟨nlr _, fun _ _ _ => rfl⟩
theorem KS.below {S : Nat → Prop} {w w' w'' : World} (h : KS S w w') (hb : Below w'.heap.size w' w'') : KS S w w'' :=
 ⟨Nat.le_trans h.size hb.size, fun b hl hs => (hb.block b (Nat.lt_of_lt_of_le hl h.size)).trans (h.blk b hl hs)⟩
theorem KS.trans {S : Nat → Prop} {a b c : World} (h : KS S a b) (k : KS S b c) : KS S a c :=
 ⟨Nat.le_trans h.size k.size, fun x hl hs => (k.blk x (Nat.lt_of_lt_of_le hl h.size) hs).trans (h.blk x hl hs)⟩
theorem KS.set {S : Nat → Prop} {w w' : World} (h : KS S w w') {p : Addr} (hp : S p.block) (u : Value) : KS S w (w'.setCell p u) :=
 ⟨by simpa using h.size, fun b hl hs => by rw [Below.heap_setCell _ _ _ _ (fun e => hs (by rw [e]; exact hp))]; exact h.blk b hl hs⟩
theorem KS.cell {S : Nat → Prop} {w w' : World} (h : KS S w w') {p : Addr} {u : Value} (hs : ¬ S p.block) (hu : w.cell? p = some u) : w'.cell? p = some u := by
 have := h.blk p.block (World.block_lt_of_cell? w _ hu) hs
 unfold World.cell? at hu ⊢
 rw [this]; exact hu
theorem KS.row {S : Nat → Prop} {w w' : World} (h : KS S w w') {base st n : Nat} {e : TypeId} {v : Value} {xs : List Value} (hr : w.ownsRow base e st v n xs) (hs : ∀ b, base ≤ b → ¬ S b) : w'.ownsRow base e st v n xs := by
 obtain ⟨h1, h2⟩ := hr
 refine ⟨h1, ?_⟩
 rcases h2 with h2 | ⟨g, cap, cur, rfl, hb, hh, h3⟩
 ·exact .inl h2
 ·exact .inr ⟨g, cap, cur, rfl, hb, by rw [h.blk g (Array.getElem?_eq_some_iff.1 hh).1 (hs g hb)]; exact hh, h3⟩
structure GR (w : World) (b P n m : Nat) (R : Nat → Nat) (g : Nat → Nat → Int) : Prop where
 ptr : ∀ i, i < n → w.cell? ⟨P, i, none⟩ = some (.slice (some ⟨R i, 0, none⟩) m m)
 inj : ∀ i j, i < n → j < n → R i = R j → i = j
 rng : ∀ i, i < n → b ≤ R i ∧ R i < w.heap.size ∧ R i ≠ P
 cel : ∀ i k, i < n → k < m → w.cell? ⟨R i, k, none⟩ = some (.int .i64 (g i k)) ∧ w.frozen? ⟨R i, k, none⟩ = false
theorem GR.keep {w w' : World} {b P n m : Nat} {R : Nat → Nat} {g : Nat → Nat → Int} (h : GR w b P n m R g) (hb : Below w.heap.size w w') : GR w' b P n m R g where
 ptr i hi := Cx.keep hb (h.ptr i hi)
 inj := h.inj
 rng i hi := ⟨(h.rng i hi).1, Nat.lt_of_lt_of_le (h.rng i hi).2.1 hb.size, (h.rng i hi).2.2⟩
 cel i k hi hk := ⟨Cx.keep hb (h.cel i k hi hk).1, frozen_keepB hb (h.rng i hi).2.1 (h.cel i k hi hk).2⟩
theorem GR.put {w : World} {b P n m : Nat} {R : Nat → Nat} {g : Nat → Nat → Int} (h : GR w b P n m R g) {i0 k0 : Nat} (hi0 : i0 < n) (hk0 : k0 < m) (x : Int) : GR (w.setCell ⟨R i0, k0, none⟩ (.int .i64 x)) b P n m R (fun i k => if i = i0 ∧ k = k0 then x else g i k) where
 ptr i hi := cell_set (h.ptr i hi) (fun e => (h.rng i0 hi0).2.2 e.symm)
 inj := h.inj
 rng i hi := by simpa using h.rng i hi
 cel i k hi hk := by
  refine ⟨?_, by simpa [World.frozen?_setCell] using (h.cel i k hi hk).2⟩
  by_cases he : i = i0 ∧ k = k0
  ·obtain ⟨rfl, rfl⟩ := he
   simp only [and_self, ↓reduceIte]
   exact World.cell?_setCell_same' _ _ _ (by rw [(h.cel i k hi hk).1]; rfl)
  ·simp only [he, ↓reduceIte]
   refine cell_setC (h.cel i k hi hk).1 fun e => he ?_
   injection e with e1 e2
   exact ⟨h.inj _ _ hi hi0 e1, e2⟩
theorem GR.sli {w : World} {b P n m : Nat} {R : Nat → Nat} {g : Nat → Nat → Int} (h : GR w b P n m R g) (hn : n ≤ 1000000) (hm : m ≤ 1000000) : SlI w (.slice (some ⟨P, 0, none⟩) n n) ((List.range n).map fun i => (List.range m).map (g i)) := by
 have hadd : ∀ (E j : Nat), (⟨E, 0, none⟩ : Addr).add j = ⟨E, j, none⟩ := fun E j => by simp [Addr.add]; intro h; omega
 refine ⟨(List.range n).map fun i => .slice (some ⟨R i, 0, none⟩) m m, ⟨some ⟨P, 0, none⟩, n, n, rfl, nlr _, by unfold maxLen; omega, by simp, fun e => (by cases e), fun ad had j u hj => ?_⟩, by simp, fun i u l hu hl => ?_⟩
 ·cases had
  have hjn : j < n := by
   have := (List.getElem?_eq_some_iff.1 hj).1
   simpa using this
  rw [List.getElem?_map, List.getElem?_range hjn] at hj
  rw [hadd, h.ptr j hjn]; exact hj
 ·have hin : i < n := by
   have := (List.getElem?_eq_some_iff.1 hu).1
   simpa using this
  rw [List.getElem?_map, List.getElem?_range hin] at hu hl
  obtain rfl := osi hu
  obtain rfl := osi hl
  refine ⟨some ⟨R i, 0, none⟩, m, m, rfl, nlr _, by unfold maxLen; omega, by rw [ints_len]; simp, fun e => (by cases e), fun ad had j u hj => ?_⟩
  cases had
  have hjm : j < m := by
   have := (List.getElem?_eq_some_iff.1 hj).1
   rw [ints_len] at this
   simpa using this
  rw [ints_get _ _ (by simpa using hjm)] at hj
  rw [hadd, (h.cel i j hin hjm).1]
  simpa [List.getD_eq_getElem?_getD, hjm] using hj
theorem made_get (z : Value) (n i : Nat) (h : i < n) : (madeCells #[z] n)[i]? = some z := by
 unfold madeCells
 rw [Array.getElem?_map, Array.getElem?_range, if_pos h]
 simp [show i % 1 = 0 by omega]
theorem makeR (n : Nat) (hn : n ≤ 1000000) (w : World) : (Instr.makeSlice 22 (.int .i64 (n : Int)) (.int .i64 (n : Int))).run Tryz.prog w = .ok (.slice (some ⟨w.heap.size, 0, none⟩) n n) (w.alloc (.cells (madeCells #[.int .i64 0] n) 3)) :=
 run_make_row' 22 3 _ 8 Tryz.underlying22 Tryz.infoInt rfl .i64 .i64 n (by omega) (by omega) w
theorem makeP (n : Nat) (hn : n ≤ 1000000) (w : World) : (Instr.makeSlice 95 (.int .i64 (n : Int)) (.int .i64 (n : Int))).run Tryz.prog w = .ok (.slice (some ⟨w.heap.size, 0, none⟩) n n) (w.alloc (.cells (madeCells #[.slice none 0 0] n) 22)) :=
 run_make_row' 95 22 _ 24 Tryz.underlying95 Tryz.infoSI rfl .i64 .i64 n (by omega) (by omega) w
def se (s : List Sd) (r : Int) : Int := co (s.map fun y => (y.c, y.g)) r
theorem se_snoc (s : List Sd) (y : Sd) (r : Int) : se (s ++ [y]) r = se s r + if y.c = r then y.g else 0 := by
 unfold se
 rw [List.map_append]; exact co_snoc _ (y.c, y.g) r
theorem se_small (s : List Sd) (r : Int) (h : ∀ y ∈ s, y.g = 1 ∨ y.g = -1) : (se s r).natAbs ≤ s.length := by
 induction s with
 | nil => simp [se, co]
 | cons y s ih =>
  have h1 := ih fun z hz => h z (List.mem_cons_of_mem _ hz)
  have h2 := h y (List.mem_cons_self ..)
  have e : se (y :: s) r = (if y.c = r then y.g else 0) + se s r := rfl
  rw [e, List.length_cons]
  split <;> omega
def colS (M : List Cl) (c : Int) : List Sd := match M.find? (fun x => x.id == c) with
 | some x => x.s
 | none => []
theorem colS_eq {M : List Cl} (h : Asc M) {x : Cl} (hx : x ∈ M) : colS M x.id = x.s := by
 unfold colS
 have : M.find? (fun y => y.id == x.id) = some x := by
  induction M with
  | nil => cases hx
  | cons y M ih =>
   obtain ⟨h1, h2⟩ := List.pairwise_cons.1 h
   rw [List.find?_cons]
   rcases List.mem_cons.1 hx with rfl | hx
   ·simp
   ·have := h1 x hx
    have hb : (y.id == x.id) = false := by simpa using show ¬ y.id = x.id by omega
    rw [hb]; exact ih h2 hx
 rw [this]
def entK (K : List Cl) (d : Int) (i k : Nat) : Int := se (colS (cellsK K) ((idsK K d).getD k 0)) ((idsK K (d - 1)).getD i 0)
theorem GR.grow {w : World} {b P j m : Nat} {R : Nat → Nat} (h : GR w b P j m R (fun _ _ => 0)) (hb : b ≤ w.heap.size) (hP : P < w.heap.size) {u : Value} (hu : w.cell? ⟨P, j, none⟩ = some u) (t : TypeId) :
  GR ((w.setCell ⟨P, j, none⟩ (.slice (some ⟨w.heap.size, 0, none⟩) m m)).alloc (.cells (madeCells #[.int .i64 0] m) t)) b P (j + 1) m (fun i => if i = j then w.heap.size else R i) (fun _ _ => 0) where
 ptr i hi := by
  by_cases hij : i = j
  ·subst hij
   simp only [↓reduceIte]
   exact keepAl (World.cell?_setCell_same' _ _ _ (by rw [hu]; rfl)) _
  ·simp only [hij, ↓reduceIte]
   exact keepAl (cell_setC (h.ptr i (by omega)) (by simp <;> omega)) _
 inj i k hi hk he := by
  have h1 := fun i (hi : i < j) => (h.rng i hi).2.1
  by_cases hij : i = j <;> by_cases hkj : k = j
  ·omega
  ·simp only [hij, hkj, ↓reduceIte] at he
   have := h1 k (by omega)
   omega
  ·simp only [hij, hkj, ↓reduceIte] at he
   have := h1 i (by omega)
   omega
  ·simp only [hij, hkj, ↓reduceIte] at he
   exact h.inj i k (by omega) (by omega) he
 rng i hi := by
  by_cases hij : i = j
  ·simp only [hij, ↓reduceIte]
   exact ⟨hb, by simp, by omega⟩
  ·simp only [hij, ↓reduceIte]
   have := h.rng i (by omega)
   exact ⟨this.1, by simp; omega, this.2.2⟩
 cel i k hi hk := by
  by_cases hij : i = j
  ·simp only [hij, ↓reduceIte]
   have h1 := cell_new (w.setCell ⟨P, j, none⟩ (.slice (some ⟨w.heap.size, 0, none⟩) m m)) (madeCells #[.int .i64 0] m) t (0, 0) k
   have h2 := free_at (heap_alloc_new (w.setCell ⟨P, j, none⟩ (.slice (some ⟨w.heap.size, 0, none⟩) m m)) (.cells (madeCells #[.int .i64 0] m) t)) k
   rw [World.size_setCell] at h1 h2
   exact ⟨h1.trans (made_get _ _ _ hk), h2⟩
  ·simp only [hij, ↓reduceIte]
   obtain ⟨g1, g2⟩ := h.cel i k (by omega) hk
   have hr := h.rng i (by omega)
   refine ⟨keepAl (cell_set g1 hr.2.2) _, ?_⟩
   exact frozen_keepB ((Below.refl _ (w.setCell ⟨P, j, none⟩ (.slice (some ⟨w.heap.size, 0, none⟩) m m))).alloc (nlr _) _) (by simpa using hr.2.1) (by simpa [World.frozen?_setCell] using g2)
theorem mMatrix (v : Value) (l : List Ce) (d : Int) (w : World) (h : SlC w v l) (hl : l.length ≤ 180) (hasc : Asc (l.map Ce.cl)) (hid : ∀ x ∈ l, I64 x.id) (hsl : ∀ x ∈ l, x.s.length ≤ 4) (hsg : ∀ x ∈ l, ∀ y ∈ x.s, y.g = 1 ∨ y.g = -1) (hd0 : 0 ≤ d) (hd1 : d ≤ 1000) :
  Calls Tryz.prog 26 #[.agg #[v], .int .i64 d] w fun e w' => ∃ u, e = .returned (.agg #[.int .i64 (idsK (l.map Ce.cl) (d - 1)).length, .int .i64 (idsK (l.map Ce.cl) d).length, u]) ∧
   Sl w' 2 u (wvs ((List.range ((idsK (l.map Ce.cl) (d - 1)).length * (idsK (l.map Ce.cl) d).length)).map fun t => entK (l.map Ce.cl) d (t / (idsK (l.map Ce.cl) d).length) (t % (idsK (l.map Ce.cl) d).length))) ∧ Below w.heap.size w w' := by
 obtain ⟨a, len, cap, rfl⟩ := sl_shape h.1
 have hlI : ∀ d', (idsK (l.map Ce.cl) d').length ≤ 180 := fun d' => by
  unfold idsK cellsK
  rw [List.length_map]
  refine Nat.le_trans (List.length_filter_le _ _) (Nat.le_trans (nub_len _ _ _) ?_)
  rw [ordK_len, List.length_map]; exact hl
 have HH := lhd (aiq ((h.mono fun p u hc => keepAl hc (.cells #[.slice a len cap] 26)).mono fun p u hc => keepAl hc (.cells #[.int .i64 0, .int .i64 0, .slice none 0 0] 44)) (aiq hasc (aiq hid (aiq hsl (aiq hsg hlI)))))
 clear h hasc hid hsl hsg hlI
 have hwd : IntKind.i64.wrap (d - 1) = d - 1 := IntWalk.i64_in _ (by omega)
 go_enter Tryz.func26, Tryz.ntmps26
 go_wp2_with fail
 obtain ⟨W, hW⟩ : ∃ W : World, W = (w.alloc (.cells #[.slice a len cap] 26)).alloc (.cells #[.int .i64 0, .int .i64 0, .slice none 0 0] 44) := ⟨_, rfl⟩
 rw [← hW] at HH ⊢
 have hs1 : (w.alloc (.cells #[.slice a len cap] 26)).heap.size = w.heap.size + 1 := by simp
 have b0 : W.cell? ⟨w.heap.size, 0, none⟩ = some (.slice a len cap) := by rw [hW]; exact keepAl (cell_new w #[.slice a len cap] 26 (0, 0) 0) _
 have s : ∀ i, W.cell? ⟨w.heap.size + 1, i, none⟩ = (#[.int .i64 0, .int .i64 0, .slice none 0 0] : Array Value)[i]? := fun i => by
  have h0 := cell_new (w.alloc (.cells #[.slice a len cap] 26)) #[.int .i64 0, .int .i64 0, .slice none 0 0] 44 (0, 0) i
  rw [hs1] at h0
  rw [hW]; exact h0
 have z : ∀ i, W.frozen? ⟨w.heap.size + 1, i, none⟩ = false := fun i => by
  have h0 := heap_alloc_new (w.alloc (.cells #[.slice a len cap] 26)) (.cells #[.int .i64 0, .int .i64 0, .slice none 0 0] 44)
  rw [hs1] at h0
  rw [hW]; exact free_at h0 i
 have hw : Below w.heap.size w W := by rw [hW]; exact ((Below.refl _ _).alloc (nlr _) _).alloc (by rw [hs1]; omega) _
 have hws : W.heap.size = w.heap.size + 2 := by rw [hW]; simp
 have HW := lhd (aiq b0 (aiq s (aiq z (aiq hw hws))))
 clear hW hs1 s z hw hws
 refine (smIds _ l (d - 1) _ HH.out.1 (by omega) (fun x hx => Nat.le_trans (HH.out.2.2.2.1 x hx) (by decide))).mono ?_
 rintro e w1 ⟨r1, rfl, hR1, hb1⟩
 obtain ⟨rows, hrows⟩ : ∃ A, A = idsK (l.map Ce.cl) (d - 1) := ⟨_, rfl⟩
 rw [← hrows] at hR1
 obtain ⟨ra, rc, hre⟩ := ownsRow_len hR1
 subst hre
 replace b0 := Cx.keep hb1 b0
 have HR1 := lhd (aiq hrows (aiq (Sl.of_ownsRow hR1) hb1))
 clear hrows hR1 hb1
 go_wp2_with fail
 refine (smIds _ l d _ (HH.out.1.mono fun p u hc => Cx.keep HR1.out.2.2 hc) (by omega) (fun x hx => Nat.le_trans (HH.out.2.2.2.1 x hx) (by decide))).mono ?_
 rintro e w2 ⟨r2, rfl, hR2, hb2⟩
 obtain ⟨cols, hcols⟩ : ∃ A, A = idsK (l.map Ce.cl) d := ⟨_, rfl⟩
 rw [← hcols] at hR2
 obtain ⟨ca, cc, hce⟩ := ownsRow_len hR2
 subst hce
 have hB2 : Below W.heap.size W w2 := HR1.out.2.2.trans (hb2.mono HR1.out.2.2.size)
 obtain ⟨n, hn⟩ : ∃ n, n = rows.length := ⟨_, rfl⟩
 obtain ⟨m, hm⟩ : ∃ n, n = cols.length := ⟨_, rfl⟩
 have hsR : Sl w2 1 (.slice ra rows.length rc) (ints rows) := HR1.out.2.1.keep hb2
 have hsC := Sl.of_ownsRow hR2
 rw [← hn] at hsR
 rw [← hm] at hsC
 have hn180 : n ≤ 180 := by rw [hn, HR1.out.1]; exact HH.out.2.2.2.2.2 _
 have hm180 : m ≤ 180 := by rw [hm, hcols]; exact HH.out.2.2.2.2.2 _
 obtain ⟨gr1, gr2, _⟩ := hsR.open
 obtain ⟨gc1, gc2, _⟩ := hsC.open
 unfold maxLen at gr2 gc2
 have HS := lhd (aiq hcols (aiq hn (aiq hm (aiq hsR (aiq hsC hB2)))))
 rw [← hn, ← hm]
 have hnI : (n : Int) ≤ 200 := by omega
 have hmI : (m : Int) ≤ 200 := by omega
 replace b0 := Cx.keep hb2 b0
 clear hcols hn hm hsR hsC hB2 hb2 hR2
 have hmk1 := makeP n (by omega)
 have hmk2 := makeR m (by omega)
 go_wp2_with fail
 obtain ⟨W3, hW3⟩ : ∃ x, x = w2.alloc (.cells (madeCells #[.slice none 0 0] n) 22) := ⟨_, rfl⟩
 rw [← hW3]
 obtain ⟨P, hP⟩ : ∃ x, x = w2.heap.size := ⟨_, rfl⟩
 rw [← hP]
 have hB23 : Below w2.heap.size w2 W3 := by rw [hW3]; exact (Below.refl _ _).alloc (nlr _) _
 have hP3 : P < W3.heap.size := by rw [hW3, hP]; simp
 have hPc : ∀ i, i < n → (∃ u, W3.cell? ⟨P, i, none⟩ = some u) ∧ W3.frozen? ⟨P, i, none⟩ = false := fun i hi => by
  rw [hW3, hP]
  exact ⟨⟨_, (cell_new w2 _ _ _ i).trans (made_get _ _ _ hi)⟩, free_at (heap_alloc_new w2 _) i⟩
 have H3 := lhd (aiq hB23 (aiq hPc (aiq hP hP3)))
 clear hB23 hPc hW3 hP
 go_loopw [8] (fun p wr => ∃ (j : Nat) (R : Nat → Nat), p = .int .i64 j ∧ j ≤ n ∧ Hid (GR wr W3.heap.size P j m R (fun _ _ => 0)) ∧ Hid (∀ i, i < n → (∃ u, wr.cell? ⟨P, i, none⟩ = some u) ∧ wr.frozen? ⟨P, i, none⟩ = false) ∧ Hid (W3.heap.size ≤ wr.heap.size ∧ Below w2.heap.size w2 wr)) (fun p _ => n - (vI p).toNat)
 case atStart => exact ⟨0, fun _ => 0, rfl, Nat.zero_le _, (show Hid _ from ⟨fun i hi => by omega, fun i j hi => by omega, fun i hi => by omega, fun i k hi => by omega⟩), (show Hid _ from H3.out.2.1), (show Hid _ from ⟨nlr _, H3.out.1⟩)⟩
 case round =>
  obtain ⟨j, R, rfl, hj, HG, HP, HB⟩ := hrel
  by_cases hlt : j < n
  ·obtain ⟨⟨u, hu⟩, hf⟩ := HP.out j hlt
   have hjI : (j : Int) < n := by omega
   have hPw : P < wr.heap.size := Nat.lt_of_lt_of_le hP3 HB.out.1
   go_wp2
   go_roundw
   case measure => simp [vI]; omega
   case rel =>
    refine ⟨j + 1, _, i64_eq (by omega), by omega, (show Hid _ from HG.out.grow HB.out.1 hPw hu _), (show Hid _ from fun i hi => ?_), (show Hid _ from ⟨by simp; have := HB.out.1; omega, ?_⟩)⟩
    ·obtain ⟨⟨x, hx⟩, hf'⟩ := HP.out i hi
     refine ⟨?_, frozen_keepB ((Below.refl _ (wr.setCell ⟨P, j, none⟩ (.slice (some ⟨wr.heap.size, 0, none⟩) m m))).alloc (nlr _) _) (by simpa using hPw) (by simpa [World.frozen?_setCell] using hf')⟩
     by_cases hij : i = j
     ·exact ⟨_, keepAl (by rw [hij]; exact World.cell?_setCell_same' _ _ _ (by rw [hu]; rfl)) _⟩
     ·exact ⟨_, keepAl (cell_setC hx (by simp <;> omega)) _⟩
    ·exact (HB.out.2.setCell (by show w2.heap.size ≤ P; rw [H3.out.2.2.1]; exact nlr _) _).alloc (by simpa using HB.out.2.size) _
  ·have hjn : j = n := by omega
   subst hjn
   have b3 := Cx.keep HB.out.2 b0
   have hcx : SlC wr (.slice a len cap) l := (HH.out.1.mono fun p u hc => Cx.keep HS.out.2.2.2.2.2 hc).mono fun p u hc => Cx.keep HB.out.2 hc
   have HX := lhd hcx
   clear hcx b0
   obtain ⟨wa, hwa⟩ : ∃ x : World, x = wr := ⟨_, rfl⟩
   subst hwa
   go_wp2_with fail
   refine (smCells _ l _ HX.out (by omega) (fun x hx => Nat.le_trans (HH.out.2.2.2.1 x hx) (by decide))).mono ?_
   rintro e w4 ⟨r4, M, rfl, hM, hRM, hb4⟩
   obtain ⟨ma, mc, hme⟩ := ownsRow_len hRM.1
   subst hme
   have hG4 := HG.out.keep hb4
   have HRL := lhd (show ∀ i, i < j → W3.heap.size ≤ R i ∧ R i < wa.heap.size from fun i hi => ⟨(HG.out.rng i hi).1, (HG.out.rng i hi).2.1⟩)
   have hMasc : Asc (M.map Ce.cl) := by
    rw [hM]
    unfold cellsK
    rw [ordK_asc HH.out.2.1, nub_asc (HH.out.2.1.map (fun x => ⟨x.id, x.dim, srtL x.s⟩) fun _ => rfl) none (fun _ _ e => by cases e)]
    exact HH.out.2.1.map _ fun _ => rfl
   have hB4 : Below w2.heap.size w2 w4 := HB.out.2.trans (hb4.mono HB.out.2.size)
   have hMl : M.length ≤ 180 := by
    have h1 := congrArg List.length hM
    have h2 := nub_len Cl.id (ordK (l.map Ce.cl)) none
    rw [ordK_len, List.length_map] at h2
    rw [List.length_map] at h1
    unfold cellsK at h1
    omega
   have H4 := lhd (aiq hM (aiq hRM (aiq hb4 (aiq hMasc (aiq hB4 hMl)))))
   have HG4 := lhd hG4
   clear hM hRM hb4 hG4 hMasc hB4 HG b3
   obtain ⟨S, hS⟩ : ∃ S : Nat → Prop, S = fun b => ∃ i, i < j ∧ R i = b := ⟨_, rfl⟩
   have HSS := lhd hS
   have hRS : ∀ b, wa.heap.size ≤ b → ¬ S b := fun b hb hs => by
    rw [hS] at hs
    obtain ⟨i, hi, rfl⟩ := hs
    have := (HRL.out i hi).2
    omega
   clear hS
   have hrinj : ∀ i i' : Nat, i < j → i' < j → rows.getD i 0 = rows.getD i' 0 → i = i' := by
    have hasc : rows.Pairwise (· < ·) := by
     rw [HR1.out.1, idsK_asc HH.out.2.1, List.pairwise_map]
     exact HH.out.2.1.filter _
    have key : ∀ i i' : Nat, i < i' → i' < rows.length → rows.getD i 0 < rows.getD i' 0 := fun i i' h1 h2 => by
     have := List.pairwise_iff_getElem.1 hasc i i' (by omega) h2 h1
     simpa [List.getD_eq_getElem?_getD, h2, show i < rows.length by omega] using this
    intro i i' hi hi' he
    rw [HS.out.2.1] at hi hi'
    rcases Nat.lt_trichotomy i i' with h | h | h
    ·have := key i i' h hi'; omega
    ·exact h
    ·have := key i' i h hi; omega
   go_wp2_with fail
   go_loopw [10] (fun p wr => ∃ (k : Nat) (g : Nat → Nat → Int), p = .int .i64 k ∧ k ≤ m ∧ Hid (GR wr W3.heap.size P j m R g) ∧ Hid (∀ i k', i < j → k' < m → g i k' = if k' < k then entK (l.map Ce.cl) d i k' else 0) ∧ Hid (KS S w4 wr ∧ Below w2.heap.size w2 wr)) (fun p _ => m - (vI p).toNat)
   case atStart => exact ⟨0, fun _ _ => 0, rfl, Nat.zero_le _, (show Hid _ from HG4.out), (show Hid _ from fun i k' _ _ => by simp), (show Hid _ from ⟨KS.refl _ _, H4.out.2.2.2.2.1⟩)⟩
   case round =>
    obtain ⟨k, g, rfl, hk, HG, HE, HB2⟩ := hrel
    by_cases hkm : k < m
    ·obtain ⟨cid, hcid⟩ : ∃ y, cols[k]? = some y := ⟨_, List.getElem?_eq_getElem (by rw [← HS.out.2.2.1]; exact hkm)⟩
     obtain ⟨i0, x0, hx0, hx0c⟩ : ∃ (i0 : Nat) (x0 : Ce), M[i0]? = some x0 ∧ x0.id = cid := by
      have h1 := List.mem_of_getElem? hcid
      rw [HS.out.1] at h1
      obtain ⟨y, hy, rfl⟩ := List.mem_map.1 h1
      have h2 := (List.mem_filter.1 hy).1
      rw [← H4.out.1] at h2
      obtain ⟨x0, hx0, rfl⟩ := List.mem_map.1 h2
      obtain ⟨i0, hi0, hie⟩ := List.getElem_of_mem hx0
      exact ⟨i0, x0, by rw [List.getElem?_eq_getElem hi0, hie], rfl⟩
     have hx0m := List.mem_of_getElem? hx0
     have hcol : colS (cellsK (l.map Ce.cl)) cid = x0.s := by
      rw [← hx0c, ← H4.out.1]
      exact colS_eq H4.out.2.2.2.1 (List.mem_map.2 ⟨x0, hx0m, rfl⟩)
     have hsd : x0.s.length ≤ 4 ∧ ∀ y ∈ x0.s, y.g = 1 ∨ y.g = -1 := by
      have h2 : x0.cl ∈ cellsK (l.map Ce.cl) := by rw [← H4.out.1]; exact List.mem_map.2 ⟨x0, hx0m, rfl⟩
      obtain ⟨y, hy, _, _, he⟩ := ordK_mem _ _ (nub_mem _ _ _ _ h2)
      obtain ⟨z0, hz0, rfl⟩ := List.mem_map.1 hy
      have he' : x0.s = srtL z0.s := he
      rw [he']
      exact ⟨by rw [srtL_len]; exact HH.out.2.2.2.1 z0 hz0, fun y hy => HH.out.2.2.2.2.1 z0 hz0 y (srtL_mem hy)⟩
     have hidI : I64 x0.id := by
      have h2 : x0.cl ∈ cellsK (l.map Ce.cl) := by rw [← H4.out.1]; exact List.mem_map.2 ⟨x0, hx0m, rfl⟩
      obtain ⟨y, hy, he, _⟩ := ordK_mem _ _ (nub_mem _ _ _ _ h2)
      obtain ⟨z0, hz0, rfl⟩ := List.mem_map.1 hy
      rw [show x0.id = z0.id from he]; exact HH.out.2.2.1 z0 hz0
     obtain ⟨cad, hcad⟩ : ∃ ad, ca = some ad := by
      cases ca with
      | none => have := HS.out.2.2.2.2.1.open.2.2.2.1 rfl; omega
      | some ad => exact ⟨ad, rfl⟩
     subst hcad
     have d0 : wr.cell? (cad.add k) = some (.int .i64 x0.id) := Cx.keep HB2.out.2 (HS.out.2.2.2.2.1.open.2.2.2.2 cad rfl _ _ (by rw [ints_get _ _ (by rw [← HS.out.2.2.1]; exact hkm), List.getD_eq_getElem?_getD, hcid, hx0c]; rfl))
     have hMr := HB2.out.1.row H4.out.2.1.1 hRS
     have hi0 : i0 < M.length := (List.getElem?_eq_some_iff.1 hx0).1
     have hi0I : (i0 : Int) < M.length := by omega
     obtain ⟨M0, hM0⟩ : ∃ x, x = M.length := ⟨_, rfl⟩
     have HX0 := lhd (aiq hx0 (aiq hcol (aiq hsd (aiq hcid (aiq hx0c (aiq hMr hidI))))))
     have hMcap : M.length ≤ mc := by obtain ⟨g1, _, _⟩ := (Sl.of_ownsRow hMr).open; exact g1
     clear hx0 hcol hsd hcid hx0c hMr hx0m hidI hM0
     obtain ⟨wo, hwo⟩ : ∃ x : World, x = wr := ⟨_, rfl⟩
     subst hwo
     go_wp2_with fail
     refine (smAt _ M i0 x0 _ (Sl.of_ownsRow HX0.out.2.2.2.2.2.1) (by have := H4.out.2.2.2.2.2; omega) (by have := H4.out.2.2.2.1; unfold Asc at this; rw [List.pairwise_map] at this; exact this) HX0.out.1).mono ?_
     rintro e w5 ⟨rfl, hb5⟩
     have hM5 := ownsRow_below HX0.out.2.2.2.2.2.1 hb5
     obtain ⟨mad, hmad⟩ : ∃ ad, ma = some ad := by
      cases ma with
      | none => have := (Sl.of_ownsRow hM5).open.2.2.2.1 rfl; omega
      | some ad => exact ⟨ad, rfl⟩
     subst hmad
     obtain ⟨e0, e1, e2⟩ := ce_get M i0 x0 HX0.out.1
     have hop := (Sl.of_ownsRow hM5).open.2.2.2.2
     have f0 : w5.cell? (mad.add (i0 * 3)) = some (.int .i64 x0.id) := hop mad rfl _ _ e0
     have f1 : w5.cell? ⟨(mad.add (i0 * 3)).block, (mad.add (i0 * 3)).off + 1, none⟩ = some (.int .i64 x0.dim) := by rw [add_part _ _ _ (by omega)]; exact hop mad rfl _ _ e1
     have f2 : w5.cell? ⟨(mad.add (i0 * 3)).block, (mad.add (i0 * 3)).off + 2, none⟩ = some (.slice x0.a x0.n x0.c) := by rw [add_part _ _ _ (by omega)]; exact hop mad rfl _ _ e2
     have H5 := lhd hb5
     clear hb5 hM5 e0 e1 e2 hop d0
     go_wp2_with fail
     obtain ⟨W6, hW6⟩ : ∃ x, x = w5.alloc (.cells #[.int .i64 x0.id, .int .i64 x0.dim, .slice x0.a x0.n x0.c] 75) := ⟨_, rfl⟩
     rw [← hW6]
     obtain ⟨bx, hbx⟩ : ∃ x, x = w5.heap.size := ⟨_, rfl⟩
     rw [← hbx]
     have hB56 : Below w5.heap.size w5 W6 := by rw [hW6]; exact (Below.refl _ _).alloc (nlr _) _
     have hB6 : Below wo.heap.size wo W6 := H5.out.trans (hB56.mono H5.out.size)
     have c2 : W6.cell? ⟨bx, 2, none⟩ = some (.slice x0.a x0.n x0.c) := by rw [hW6, hbx]; exact cell_new w5 _ _ (0, 0) 2
     have hbw : wa.heap.size ≤ bx := by rw [hbx]; exact Nat.le_trans H4.out.2.2.1.size (Nat.le_trans HB2.out.1.size H5.out.size)
     have hx0m := List.mem_of_getElem? HX0.out.1
     have hside := ownsRow_below (HB2.out.1.row (H4.out.2.1.2 x0 hx0m) hRS) hB6
     have hns : x0.n = x0.s.length := by
      obtain ⟨_, _, h3, _⟩ := (Sl.of_ownsRow hside).open
      rw [cat_len Sd.enc_len] at h3; omega
     obtain ⟨xa, xn, xc, hxs⟩ : ∃ (xa : Option Addr) (xn xc : Nat), xa = x0.a ∧ xn = x0.n ∧ xc = x0.c := ⟨_, _, _, rfl, rfl, rfl⟩
     rw [← hxs.1, ← hxs.2.1, ← hxs.2.2] at c2
     have hsx : W6.ownsRow wa.heap.size 108 2 (.slice xa xn xc) xn (cat Sd.enc x0.s) := by
      have h1 := hside
      rw [show x0.sl = .slice x0.a x0.n x0.c from rfl, ← hns] at h1
      rw [hxs.1, hxs.2.1, hxs.2.2]; exact h1
     have hxl : xn = x0.s.length := by rw [hxs.2.1, hns]
     have hxn4 : xn ≤ 4 := by rw [hxl]; exact HX0.out.2.2.1.1
     have hxcc : xn ≤ xc := by obtain ⟨g1, _, _⟩ := (Sl.of_ownsRow hsx).open; exact g1
     have H6 := lhd (aiq c2 (aiq hbw (aiq hsx (aiq hxl (aiq hB6 (HB2.out.2.trans (hB6.mono HB2.out.2.size)))))))
     have HG6 := lhd (HG.out.keep hB6)
     obtain ⟨x0a, hx0a⟩ : ∃ y, y = x0.id := ⟨_, rfl⟩
     clear hW6 hbx hB56 hB6 c2 hbw hx0m hside hns hsx hxl hxs f0 f1 f2 HG
     go_loopw [12] (fun p wr => ∃ (q : Nat) (g' : Nat → Nat → Int), p = .int .i64 q ∧ q ≤ xn ∧ Hid (GR wr W3.heap.size P j m R g') ∧ Hid (∀ i k', i < j → k' < m → g' i k' = if k' < k then entK (l.map Ce.cl) d i k' else if k' = k then se (x0.s.take q) (rows.getD i 0) else 0) ∧ Hid (KS S W6 wr ∧ Below w2.heap.size w2 wr)) (fun p _ => xn - (vI p).toNat)
     case atStart => exact ⟨0, g, rfl, Nat.zero_le _, (show Hid _ from HG6.out), (show Hid _ from fun i k' hi hk' => by
      rw [HE.out i k' hi hk']
      by_cases h1 : k' < k
      ·rw [if_pos h1, if_pos h1]
      ·rw [if_neg h1, if_neg h1]; split <;> rfl), (show Hid _ from ⟨KS.refl _ _, H6.out.2.2.2.2.2⟩)⟩
     case round =>
      obtain ⟨q, g', rfl, hq, HG, HE3, HB3⟩ := hrel
      have c2 := HB3.out.1.cell (hRS bx H6.out.2.1) H6.out.1
      by_cases hqn : q < xn
      ·obtain ⟨y, hy⟩ : ∃ y, x0.s[q]? = some y := ⟨_, List.getElem?_eq_getElem (by rw [← H6.out.2.2.2.1]; exact hqn)⟩
       have hrow := HB3.out.1.row H6.out.2.2.1 hRS
       obtain ⟨sad, hsad⟩ : ∃ ad, xa = some ad := by
        cases xa with
        | none => have := (Sl.of_ownsRow hrow).open.2.2.2.1 rfl; omega
        | some ad => exact ⟨ad, rfl⟩
       subst hsad
       obtain ⟨e0, e1⟩ := sd_get x0.s q y hy
       have hop := (Sl.of_ownsRow hrow).open.2.2.2.2
       have s0 : wr.cell? (sad.add (q * 2)) = some (.int .i64 y.c) := hop sad rfl _ _ e0
       have s1 : wr.cell? ⟨(sad.add (q * 2)).block, (sad.add (q * 2)).off + 1, none⟩ = some (.int .i64 y.g) := by rw [add_part _ _ _ (by omega)]; exact hop sad rfl _ _ e1
       have hsn : ∀ r, se (x0.s.take (q + 1)) r = se (x0.s.take q) r + if y.c = r then y.g else 0 := fun r => by
        rw [List.take_add_one, hy]; exact se_snoc _ _ _
       have hyg := HX0.out.2.2.1.2 y (List.mem_of_getElem? hy)
       have HY := lhd (aiq hsn hyg)
       clear e0 e1 hop hrow hsn hyg hy
       obtain ⟨wp, hwp⟩ : ∃ x : World, x = wr := ⟨_, rfl⟩
       subst hwp
       go_wp2_with fail
       refine (smIndex _ rows y.c _ (HS.out.2.2.2.1.keep HB3.out.2) (by rw [← HS.out.2.1]; omega)).mono ?_
       rintro e w7 ⟨z, rfl, hz, hb7⟩
       rcases hz with ⟨rfl, hnz⟩ | ⟨i1, rfl, hi1⟩
       ·have HNZ := lhd (aiq hnz hb7)
        clear hnz hb7
        go_wp2
        go_roundw
        case measure => simp [vI]; omega
        case rel =>
         refine ⟨q + 1, g', i64_eq (by omega), by omega, (show Hid _ from HG.out.keep HNZ.out.2), (show Hid _ from fun i k' hi hk' => ?_), (show Hid _ from ⟨HB3.out.1.below HNZ.out.2, HB3.out.2.trans (HNZ.out.2.mono HB3.out.2.size)⟩)⟩
         rw [HE3.out i k' hi hk', HY.out.1]
         have hne : ¬ y.c = rows.getD i 0 := fun e => HNZ.out.1 (by
          rw [e, List.getD_eq_getElem?_getD, List.getElem?_eq_getElem (by rw [← HS.out.2.1]; exact hi)]
          exact List.getElem_mem _)
         rw [if_neg hne, Int.add_zero]
       ·have hi1n : i1 < j := by rw [HS.out.2.1]; exact (List.getElem?_eq_some_iff.1 hi1).1
        have hG7 := HG.out.keep hb7
        obtain ⟨gv, hgv⟩ : ∃ x, x = g' i1 k := ⟨_, rfl⟩
        have p0 := hG7.ptr i1 hi1n
        obtain ⟨g0, gf⟩ := hG7.cel i1 k hi1n hkm
        rw [← hgv] at g0
        have hgs : gv.natAbs ≤ 4 := by
         rw [hgv, HE3.out i1 k hi1n hkm, if_neg (Nat.lt_irrefl k), if_pos rfl]
         have := se_small (x0.s.take q) (rows.getD i1 0) (fun y hy => HX0.out.2.2.1.2 y (List.mem_of_mem_take hy))
         rw [List.length_take] at this
         omega
        have hwg : IntKind.i64.wrap (gv + y.g) = gv + y.g := IntWalk.i64_in _ (by rcases HY.out.2 with h | h <;> rw [h] <;> omega)
        have c7 := Cx.keep hb7 c2
        have s7 := Cx.keep hb7 s1
        have hi1I : (i1 : Int) < j := by omega
        have hkmI : (k : Int) < m := by omega
        have hqI : (q : Int) < xn := by omega
        have H7 := lhd (aiq hi1 (aiq hb7 (aiq hG7 hgv)))
        obtain ⟨R1, hR1⟩ : ∃ x, x = R i1 := ⟨_, rfl⟩
        rw [← hR1] at p0 g0 gf
        have HR1' := lhd hR1
        clear hi1 hb7 hG7 hgv hgs c2 s0 s1 hR1
        have hdr : Below w7.heap.size w7 w7.drew := below_draws (Below.refl _ w7) 1
        go_upto_region 20 with fail
        go_still_tail 20, (by kernel_rfl)
        change wpList _ _ _ _ _ w7.drew
        obtain ⟨w8, hw8⟩ : ∃ x, x = w7.drew := ⟨_, rfl⟩
        rw [← hw8] at hdr ⊢
        replace p0 := Cx.keep hdr p0
        replace gf := frozen_keepB hdr (World.block_lt_of_cell? w7 ⟨R1, k, none⟩ g0) gf
        replace g0 := Cx.keep hdr g0
        replace c7 := Cx.keep hdr c7
        replace s7 := Cx.keep hdr s7
        have H8 := lhd hdr
        clear hdr hw8
        go_wp2
        go_roundw
        case measure => simp [vI]; omega
        case rel =>
         obtain ⟨hi1, hb7, hG7, hgv⟩ := H7.out
         have hb78 := hb7.trans (H8.out.mono hb7.size)
         refine ⟨q + 1, fun i k' => if i = i1 ∧ k' = k then gv + y.g else g' i k', i64_eq (by omega), by omega, (show Hid _ from ?_), (show Hid _ from fun i k' hi hk' => ?_), (show Hid _ from ⟨?_, ?_⟩)⟩
         ·rw [HR1'.out]
          exact (hG7.keep H8.out).put hi1n hkm _
         ·have hn := HS.out.2.1
          have hri1 : rows.getD i1 0 = y.c := by rw [List.getD_eq_getElem?_getD, hi1]; rfl
          show (if i = i1 ∧ k' = k then gv + y.g else g' i k') = _
          by_cases he : i = i1 ∧ k' = k
          ·obtain ⟨rfl, rfl⟩ := he
           rw [if_pos ⟨rfl, rfl⟩, if_neg (Nat.lt_irrefl _), if_pos rfl, HY.out.1, hri1, if_pos rfl, hgv, HE3.out i k' hi hk', if_neg (Nat.lt_irrefl _), if_pos rfl, hri1]
          ·rw [if_neg he, HE3.out i k' hi hk']
           by_cases h1 : k' < k
           ·rw [if_pos h1, if_pos h1]
           ·by_cases h2 : k' = k
            ·have h3 : i ≠ i1 := fun e => he ⟨e, h2⟩
             rw [if_neg h1, if_neg h1, if_pos h2, if_pos h2, HY.out.1]
             have hne : ¬ y.c = rows.getD i 0 := fun e => h3 (hrinj i i1 (by omega) (by omega) (by rw [hri1, e]))
             rw [if_neg hne, Int.add_zero]
            ·rw [if_neg h1, if_neg h1, if_neg h2, if_neg h2]
         ·refine (HB3.out.1.below hb78).set (p := ⟨R1, k, none⟩) ?_ _
          rw [HSS.out]
          exact ⟨i1, hi1n, HR1'.out.symm⟩
         ·refine (HB3.out.2.trans (hb78.mono HB3.out.2.size)).setCell (p := ⟨R1, k, none⟩) ?_ _
          show w2.heap.size ≤ R1
          rw [HR1'.out]
          exact Nat.le_trans H3.out.1.size (HRL.out i1 hi1n).1
      ·have hqe : q = xn := by omega
       go_wp2
       go_roundw
       case measure => simp [vI]; omega
       case rel =>
        refine ⟨k + 1, g', i64_eq (by omega), by omega, HG, (show Hid _ from fun i k' hi hk' => ?_), (show Hid _ from ⟨(HB2.out.1.below H6.out.2.2.2.2.1).trans HB3.out.1, HB3.out.2⟩)⟩
        rw [HE3.out i k' hi hk', hqe, List.take_of_length_le (by rw [← H6.out.2.2.2.1]; exact nlr _)]
        by_cases h1 : k' < k
        ·rw [if_pos h1, if_pos (by omega)]
        ·by_cases h2 : k' = k
         ·rw [if_neg h1, if_pos h2, if_pos (by omega), h2]
          unfold entK
          rw [← HS.out.1, ← HR1.out.1, show cols.getD k 0 = x0.id by rw [List.getD_eq_getElem?_getD, HX0.out.2.2.2.1, HX0.out.2.2.2.2.1]; rfl]
          rw [HX0.out.2.2.2.2.1, HX0.out.2.1]
         ·rw [if_neg h1, if_neg h2, if_neg (by omega)]
    ·have hkm' : k = m := by omega
     have hB20 : Below W.heap.size W wr := HS.out.2.2.2.2.2.trans (HB2.out.2.mono HS.out.2.2.2.2.2.size)
     have hsl : w.heap.size + 1 < W.heap.size := by have := HW.out.2.2.2.2; omega
     have hBw : Below w.heap.size w wr := HW.out.2.2.2.1.trans (hB20.mono HW.out.2.2.2.1.size)
     have s0 : W.cell? ⟨w.heap.size + 1, 0, none⟩ = some (.int .i64 0) := by have := HW.out.2.1 0; simpa using this
     have s1 : W.cell? ⟨w.heap.size + 1, 1, none⟩ = some (.int .i64 0) := by have := HW.out.2.1 1; simpa using this
     have s2 : W.cell? ⟨w.heap.size + 1, 2, none⟩ = some (.slice none 0 0) := by have := HW.out.2.1 2; simpa using this
     have hent : ∀ i k, (entK (l.map Ce.cl) d i k).natAbs ≤ 4 := fun i k => by
      unfold entK colS
      cases hc : List.find? (fun x => x.id == (idsK (l.map Ce.cl) d).getD k 0) (cellsK (l.map Ce.cl)) with
      | none => show (se [] _).natAbs ≤ 4; simp [se, co]
      | some x =>
       have h2 := List.mem_of_find?_eq_some hc
       obtain ⟨y, hy, _, _, he⟩ := ordK_mem _ _ (nub_mem _ _ _ _ h2)
       obtain ⟨z0, hz0, rfl⟩ := List.mem_map.1 hy
       have he' : x.s = srtL z0.s := he
       have h3 := se_small x.s ((idsK (l.map Ce.cl) (d - 1)).getD i 0) (by rw [he']; exact fun y hy => HH.out.2.2.2.2.1 z0 hz0 y (srtL_mem hy))
       have h4 : x.s.length ≤ 4 := by rw [he', srtL_len]; exact HH.out.2.2.2.1 z0 hz0
       exact Nat.le_trans h3 h4
     have hfin : ∀ (u : Value) (w' : World), Sl w' 2 u (wvs ((List.range (j * m)).map fun t => entK (l.map Ce.cl) d (t / m) (t % m))) → Below w.heap.size w w' → ∃ u', (.agg #[.int .i64 j, .int .i64 m, u] : Value) = .agg #[.int .i64 (idsK (l.map Ce.cl) (d - 1)).length, .int .i64 (idsK (l.map Ce.cl) d).length, u'] ∧
       Sl w' 2 u' (wvs ((List.range ((idsK (l.map Ce.cl) (d - 1)).length * (idsK (l.map Ce.cl) d).length)).map fun t => entK (l.map Ce.cl) d (t / (idsK (l.map Ce.cl) d).length) (t % (idsK (l.map Ce.cl) d).length))) ∧ Below w.heap.size w w' := fun u w' h1 h2 => by
      rw [← HR1.out.1, ← HS.out.1, ← HS.out.2.1, ← HS.out.2.2.1]
      exact ⟨u, rfl, h1, h2⟩
     have HFIN := lhd hfin
     have HENT := lhd hent
     clear hfin hent
     by_cases hj0 : j = 0
     ·subst hj0
      have r0 := Cx.keep hB20 s0
      have r1 := Cx.keep hB20 s1
      have r2 := Cx.keep hB20 s2
      have f0 := frozen_keepB hB20 hsl (HW.out.2.2.1 0)
      have f1 := frozen_keepB hB20 hsl (HW.out.2.2.1 1)
      have f2 := frozen_keepB hB20 hsl (HW.out.2.2.1 2)
      have HBW := lhd hBw
      clear s0 s1 s2 hBw hB20
      go_wp2_with fail
      have e0 : ∀ (x y z : Value), (((wr.setCell ⟨w.heap.size + 1, 0, none⟩ x).setCell ⟨w.heap.size + 1, 1, none⟩ y).setCell ⟨w.heap.size + 1, 2, none⟩ z).cell? ⟨w.heap.size + 1, 0, none⟩ = some x := fun x y z =>
       cell_setC (cell_setC (World.cell?_setCell_same' _ _ _ (by rw [r0]; rfl)) (by simp)) (by simp)
      have e1 : ∀ (x y z : Value), (((wr.setCell ⟨w.heap.size + 1, 0, none⟩ x).setCell ⟨w.heap.size + 1, 1, none⟩ y).setCell ⟨w.heap.size + 1, 2, none⟩ z).cell? ⟨w.heap.size + 1, 1, none⟩ = some y := fun x y z =>
       cell_setC (World.cell?_setCell_same' _ _ _ (by rw [cell_setC r1 (by simp)]; rfl)) (by simp)
      have e2 : ∀ (x y z : Value), (((wr.setCell ⟨w.heap.size + 1, 0, none⟩ x).setCell ⟨w.heap.size + 1, 1, none⟩ y).setCell ⟨w.heap.size + 1, 2, none⟩ z).cell? ⟨w.heap.size + 1, 2, none⟩ = some z := fun x y z =>
       World.cell?_setCell_same' _ _ _ (by rw [cell_setC (cell_setC r2 (by simp)) (by simp)]; rfl)
      have h3 : w.heap.size ≤ w.heap.size + 1 := by omega
      obtain ⟨u', hu1, hu2⟩ := HFIN.out (.slice none 0 0) (((wr.setCell ⟨w.heap.size + 1, 0, none⟩ (.int .i64 0)).setCell ⟨w.heap.size + 1, 1, none⟩ (.int .i64 m)).setCell ⟨w.heap.size + 1, 2, none⟩ (.slice none 0 0)) (by rw [Nat.zero_mul]; exact Sl.nil _ _) (((HBW.out.setCell (by exact h3) _).setCell (by exact h3) _).setCell (by exact h3) _)
      refine bodyPost_ret (v := .agg #[.int .i64 0, .int .i64 m, .slice none 0 0]) (by simp [results, Tryz.results26, go_sem, e0, e1, e2]) rfl ⟨u', congrArg Ending.returned hu1, hu2⟩
     ·have hjb : ((j : Int) == 0) = false := by simp; omega
      have hsli := HG.out.sli (by omega) (by omega)
      have HSL := lhd hsli
      clear hsli
      go_wp2_with fail
      refine (mOf _ _ j m _ HSL.out (by simp) (fun l' hl' => by obtain ⟨i, _, rfl⟩ := List.mem_map.1 hl'; simp) (by omega) (by omega) (by omega) (fun l' hl' x hx => ?_)).mono ?_
      ·obtain ⟨i, hi, rfl⟩ := List.mem_map.1 hl'
       obtain ⟨k', hk', rfl⟩ := List.mem_map.1 hx
       have h1 := HE.out i k' (List.mem_range.1 hi) (List.mem_range.1 hk')
       rw [h1, if_pos (by rw [hkm']; exact List.mem_range.1 hk')]
       have := HENT.out i k'
       unfold I64
       omega
      rintro e w9 ⟨E, rfl, hE1, hE2, hEW, hb9⟩
      have hB9 : Below W.heap.size W w9 := hB20.trans (hb9.mono hB20.size)
      have hEw : W.heap.size ≤ E := Nat.le_trans hB20.size hE1
      have hew2 : EW w9 E (j * m) (fun t => entK (l.map Ce.cl) d (t / m) (t % m)) := hEW.congr fun t ht => by
       have hm0 : 0 < m := by
        rcases Nat.eq_zero_or_pos m with h | h
        ·rw [h, Nat.mul_zero] at ht; omega
        ·exact h
       have h1 : t / m < j := by rw [Nat.div_lt_iff_lt_mul hm0]; exact ht
       have h2 : t % m < m := Nat.mod_lt _ hm0
       have h3 := HE.out (t / m) (t % m) h1 h2
       rw [if_pos (by rw [hkm']; exact h2)] at h3
       rw [← h3]
       simp [List.getD_eq_getElem?_getD, h1, h2]
      have HE9 := lhd hew2
      have r0 := Cx.keep hB9 s0
      have r1 := Cx.keep hB9 s1
      have r2 := Cx.keep hB9 s2
      have f0 := frozen_keepB hB9 hsl (HW.out.2.2.1 0)
      have f1 := frozen_keepB hB9 hsl (HW.out.2.2.1 1)
      have f2 := frozen_keepB hB9 hsl (HW.out.2.2.1 2)
      have HBW := lhd (hBw.trans (hb9.mono hBw.size))
      obtain ⟨N, hN⟩ : ∃ N, N = j * m := ⟨_, rfl⟩
      rw [← hN]
      have HNN := lhd hN
      clear s0 s1 s2 hBw hB20 hEW hew2 hb9 hN
      go_wp2_with fail
      have e0 : ∀ (x y z : Value), (((w9.setCell ⟨w.heap.size + 1, 0, none⟩ x).setCell ⟨w.heap.size + 1, 1, none⟩ y).setCell ⟨w.heap.size + 1, 2, none⟩ z).cell? ⟨w.heap.size + 1, 0, none⟩ = some x := fun x y z =>
       cell_setC (cell_setC (World.cell?_setCell_same' _ _ _ (by rw [r0]; rfl)) (by simp)) (by simp)
      have e1 : ∀ (x y z : Value), (((w9.setCell ⟨w.heap.size + 1, 0, none⟩ x).setCell ⟨w.heap.size + 1, 1, none⟩ y).setCell ⟨w.heap.size + 1, 2, none⟩ z).cell? ⟨w.heap.size + 1, 1, none⟩ = some y := fun x y z =>
       cell_setC (World.cell?_setCell_same' _ _ _ (by rw [cell_setC r1 (by simp)]; rfl)) (by simp)
      have e2 : ∀ (x y z : Value), (((w9.setCell ⟨w.heap.size + 1, 0, none⟩ x).setCell ⟨w.heap.size + 1, 1, none⟩ y).setCell ⟨w.heap.size + 1, 2, none⟩ z).cell? ⟨w.heap.size + 1, 2, none⟩ = some z := fun x y z =>
       World.cell?_setCell_same' _ _ _ (by rw [cell_setC (cell_setC r2 (by simp)) (by simp)]; rfl)
      have h3 : w.heap.size ≤ w.heap.size + 1 := by omega
      have hEb : E ≠ w.heap.size + 1 := by omega
      have hew3 : EW (((w9.setCell ⟨w.heap.size + 1, 0, none⟩ (.int .i64 j)).setCell ⟨w.heap.size + 1, 1, none⟩ (.int .i64 m)).setCell ⟨w.heap.size + 1, 2, none⟩ (.slice (some ⟨E, 0, none⟩) N N)) E (j * m) (fun t => entK (l.map Ce.cl) d (t / m) (t % m)) := fun t ht => by
       obtain ⟨g1, g2, g3, g4⟩ := HE9.out t ht
       exact ⟨cell_set (cell_set (cell_set g1 hEb) hEb) hEb, cell_set (cell_set (cell_set g2 hEb) hEb) hEb, by simpa [World.frozen?_setCell] using g3, by simpa [World.frozen?_setCell] using g4⟩
      have hNb : j * m ≤ 1000000 := Nat.le_trans (Nat.mul_le_mul hn180 hm180) (by decide)
      have hsl3 := hew3.sl hNb
      rw [← HNN.out] at hsl3
      obtain ⟨u', hu1, hu2⟩ := HFIN.out (.slice (some ⟨E, 0, none⟩) N N) _ (by rw [← HNN.out]; exact hsl3) (((HBW.out.setCell (by exact h3) _).setCell (by exact h3) _).setCell (by exact h3) _)
      refine bodyPost_ret (v := .agg #[.int .i64 j, .int .i64 m, .slice (some ⟨E, 0, none⟩) N N]) (by simp [results, Tryz.results26, go_sem, e0, e1, e2]) rfl ⟨u', congrArg Ending.returned hu1, hu2⟩
end Go.Proofs.YtlhicnfeajejhaaGreatDoor
