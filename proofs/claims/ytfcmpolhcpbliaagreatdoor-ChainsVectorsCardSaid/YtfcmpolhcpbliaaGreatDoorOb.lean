/- Calls by kinds for chains as they come, canonical or not. cocyclelaw07.ChainsWide: the two chains. Calls by kinds: boundaries, coboundaries and membership in any complex in the bounds. -/
import Derived.Test.YtfcmpolhcpbliaaGreatDoorMo
import Derived.Test.YtfcmpolhcpbliaaGreatDoorOa

namespace Go.Proofs.YtfcmpolhcpbliaaGreatDoor
open Go.RowKit Go.Cx

theorem tok_I64 {S : Nat} {l : List Tm} (h : TOk S l) (c : Int) (hc : co (prs l) c ≠ 0) : I64 c := by
  rcases Classical.em (∃ y ∈ l, y.c = c) with ⟨y, hy, rfl⟩ | hno
  · have := h y hy; exact ⟨this.1, this.2.1⟩
  · exact absurd (co_zero (prs l) c (fun r hr e => by
      obtain ⟨y, hy, rfl⟩ := List.mem_map.1 hr
      exact hno ⟨y, hy, e⟩)) hc
theorem tok_nb {S : Nat} {l : List Tm} (h : TOk S l) (c : Int) : nb (co (prs l) c) ≤ S + l.length := by
  have := nb_co S (prs l) (nb_prs h) c
  rwa [prs_len] at this

section
variable (v u : Value) (l m : List Tm) (S : Nat) (f : Int → Int) (w : World) (h : Sl w 3 v (tv l)) (k : Sl w 3 u (tv m)) (hS : TOk S l) (kS : TOk S m) (hl : l.length ≤ 100) (km : m.length ≤ 100) (hb : S ≤ 100)
include h hS hl hb
theorem chCanonT (N : Nat) (hN : l.length = N) (he : ∀ c, co (prs l) c = f c) : Calls Tryz.prog 31 #[v] w (Gives (.cf f N 1000) w) := by
  subst hN
  obtain rfl : co (prs l) = f := funext he
  exact gives_cf (chCanon v l S w h hS (by omega)) (fun c => Nat.le_trans (tok_nb hS c) (by omega)) (tok_I64 hS)
theorem svCanonT (N : Nat) (hN : l.length = N) (he : ∀ c, co (prs l) c = f c) : Calls Tryz.prog 35 #[v] w (Gives (.cf f N 1000) w) := by
  subst hN
  obtain rfl : co (prs l) = f := funext he
  exact gives_cf (svCanon v l S w h hS (by omega)) (fun c => Nat.le_trans (tok_nb hS c) (by omega)) (tok_I64 hS)
theorem svScaleT (z : Int) (N : Nat) (hN : l.length = N) (hz : I64 z) (he : ∀ c, z * co (prs l) c = f c) : Calls Tryz.prog 38 #[wv z, v] w (Gives (.cf f N 1000) w) := by
  subst hN
  have h3 := nb_int z hz.1 hz.2
  have := svScale (decide (z < 0)) (mg z) v l (S + 8) w h (hS.mono (by omega)) (by rw [mg_size]; omega) (by omega)
  rw [iv_mg] at this
  obtain rfl : (fun c => z * co (prs l) c) = f := funext he
  refine gives_cf this (fun c => ?_) fun c hc => tok_I64 hS c fun e => hc (by show z * _ = 0; rw [e, Int.mul_zero])
  have h1 := tok_nb hS c
  have h2 := nb_mul z (co (prs l) c)
  omega
include k kS km
theorem chEqualT (he : ∀ c, co (prs l) c = co (prs m) c) : Calls Tryz.prog 36 #[v, u] w (Gives .tt w) :=
  (chEqual v u l m S w h k hS kS (by omega) (by omega)).mono fun e w' ⟨q', h0, h1, hb⟩ => ⟨_, h0, by show Value.bool q' = .bool true; rw [h1.2 he], hb⟩
theorem chAddT (N : Nat) (hN : l.length + m.length = N) (he : ∀ c, co (prs l) c + co (prs m) c = f c) : Calls Tryz.prog 37 #[v, u] w (Gives (.cf f N 1000) w) := by
  subst hN
  obtain rfl : (fun c => co (prs l) c + co (prs m) c) = f := funext he
  refine gives_cf (chAdd2 v u l m S w h k hS kS (by omega)) (fun c => ?_) fun c hc => ?_
  · have h1 := nb_add (co (prs l) c) (co (prs m) c)
    have h2 := tok_nb hS c
    have h3 := tok_nb kS c
    omega
  · by_cases h1 : co (prs l) c = 0
    · exact tok_I64 kS c (fun e => hc (by show _ + _ = (0 : Int); rw [h1, e]; rfl))
    · exact tok_I64 hS c h1
theorem chPairT (n : Int) (hn : pg (co (prs l)) (prs m) = n) : Calls Tryz.prog 27 #[v, u] w (Gives (.val (wv n)) w) :=
  (chPair v u _ _ S w h k hS kS (by omega)).mono fun e w' ⟨he, hb⟩ => ⟨_, he, by rw [hn]; rfl, hb⟩
theorem svPairT (n : Int) (hn : pg (co (prs l)) (prs m) = n) : Calls Tryz.prog 40 #[v, u] w (Gives (.val (wv n)) w) :=
  (svPair v u _ _ S w h k hS kS (by omega)).mono fun e w' ⟨he, hb⟩ => ⟨_, he, by rw [hn]; rfl, hb⟩
end

end Go.Proofs.YtfcmpolhcpbliaaGreatDoor

namespace Go.Proofs.YtfcmpolhcpbliaaGreatDoor
open Go.RowKit Go.Cx
attribute [local go_sem ↓] Go.wp_at_zero Go.wp_at_succ

theorem row_far {w w' : World} {base st n : Nat} {e : TypeId} {v : Value} {xs : List Value} {row : Option Nat} (h : w.ownsRow base e st v n xs) (hg : w.grownBy w' row) (hne : ∀ b, v.ownBlock = some b → some b ≠ row) : w'.ownsRow base e st v n xs := by
  obtain ⟨h1, h2⟩ := h
  refine ⟨h1, ?_⟩
  rcases h2 with h2 | ⟨g, cap, cur, rfl, hb, hh, h3⟩
  · exact .inl h2
  · refine .inr ⟨g, cap, cur, rfl, hb, ?_, h3⟩
    rw [hg.block g (Array.getElem?_eq_some_iff.1 hh).1 (hne g rfl)]
    exact hh
/-- Two rows that lie apart. -/
def Apt (v u : Value) : Prop := ∀ b, v.ownBlock = some b → u.ownBlock ≠ some b
theorem row_lt {w : World} {base st n : Nat} {e : TypeId} {v : Value} {xs : List Value} (h : w.ownsRow base e st v n xs) : ∀ b, v.ownBlock = some b → b < w.heap.size := by
  intro b hb
  rcases h.2 with ⟨rfl, -⟩ | ⟨g, cap, cur, rfl, _, hh, _⟩
  · cases hb
  · cases hb; exact (Array.getElem?_eq_some_iff.1 hh).1

theorem rows_apart {w : World} {b1 b2 s1 s2 n1 n2 : Nat} {e1 e2 : TypeId} {v1 v2 : Value} {xs1 xs2 : List Value} (h1 : w.ownsRow b1 e1 s1 v1 n1 xs1) (h2 : w.ownsRow b2 e2 s2 v2 n2 xs2) (hne : e1 ≠ e2) : v1.ownBlock = none ∨ v1.ownBlock ≠ v2.ownBlock := by
  rcases h1.2 with ⟨rfl, _⟩ | ⟨g1, _, _, rfl, _, hg1, _⟩
  · exact .inl rfl
  · refine .inr fun he => ?_
    rcases h2.2 with ⟨rfl, _⟩ | ⟨g2, _, _, rfl, _, hg2, _⟩
    · cases he
    · injection he with he
      have he' : g1 = g2 := he
      subst he'
      rw [hg1] at hg2
      injection hg2 with hg2
      injection hg2 with _ h _
      exact hne h

/-- At most twenty bytes. -/
def cut20 (s : ByteArray) : ByteArray := s.extract 0 (min (s.size : Int) 20).toNat
theorem cut20_size (s : ByteArray) : (cut20 s).size ≤ 20 := by unfold cut20; rw [ByteArray.size_extract]; omega
theorem iv_zero (n : Bool) (s : ByteArray) : iv n (⟨#[0]⟩ ++ s) = iv n s := by
  unfold iv
  have : natOf (⟨#[0]⟩ ++ s : ByteArray).data.toList = natOf s.data.toList := by
    rw [show (⟨#[0]⟩ ++ s : ByteArray).data.toList = 0 :: s.data.toList by simp]
    rw [natOf_cons]; simp
  rw [this]

end Go.Proofs.YtfcmpolhcpbliaaGreatDoor

namespace Go.Proofs.YtfcmpolhcpbliaaGreatDoor
open Go.RowKit Go.Cx

theorem ex_cl (m : List Ce) (c d : Int) : (∃ x ∈ m, x.id = c ∧ x.dim = d) ↔ ∃ x ∈ m.map Ce.cl, x.id = c ∧ x.dim = d :=
  ⟨fun ⟨x, hx, h⟩ => ⟨x.cl, List.mem_map.2 ⟨x, hx, rfl⟩, h⟩, fun ⟨y, hy, h⟩ => by
    obtain ⟨x, hx, rfl⟩ := List.mem_map.1 hy
    exact ⟨x, hx, h⟩⟩
theorem rawsK_mem {K : List Cl} {p : Int × Sd} (h : p ∈ rawsK K) : ∃ x ∈ K, x.id = p.1 ∧ p.2 ∈ x.s := by
  obtain ⟨x, hx, hp⟩ := List.mem_flatMap.1 h
  obtain ⟨y, hy, rfl⟩ := List.mem_map.1 hp
  exact ⟨x, hx, rfl, hy⟩
theorem rawsK_ok {K : List Cl} (hK : KOk K) {p : Int × Sd} (h : p ∈ rawsK K) : I64 p.1 ∧ I64 p.2.c ∧ I64 p.2.g := by
  obtain ⟨x, hx, e, hs⟩ := rawsK_mem h
  have := hK x hx
  exact ⟨e ▸ this.1.1, this.2.2 _ hs⟩

section
variable (v u : Value) (K : List Cl) (l : List Tm) (S : Nat) (f : Int → Int) (w : World) (h : (Fk.cx K).holds v w) (k : Sl w 3 u (tv l)) (hK : KOk K) (hS : TOk S l) (hl : l.length ≤ 100) (hSS : S ≤ 100) (hR : (rawsK K).length ≤ 500)
include hK hS hl hSS hR
omit h k in
theorem bd_nb (hf : f = co (bdL (co (prs l)) (rawsK K))) (c : Int) : nb (f c) ≤ 1000 := by
  subst hf
  have h1 := nb_co (S + l.length + 8) (bdL (co (prs l)) (rawsK K)) (fun p hp => by
    obtain ⟨q, hq, rfl⟩ := List.mem_map.1 hp
    have h1 := nb_mul (co (prs l) q.1) q.2.g
    have h2 := tok_nb hS q.1
    have h3 := (rawsK_ok hK hq).2.2
    have h4 := nb_int q.2.g h3.1 h3.2
    show nb (co (prs l) q.1 * q.2.g) ≤ _
    omega) c
  rw [bdL_len] at h1
  omega
omit h k in
theorem cb_nb (hf : f = co (cbL (co (prs l)) (rawsK K))) (c : Int) : nb (f c) ≤ 1000 := by
  subst hf
  have h1 := nb_co (S + l.length + 8) (cbL (co (prs l)) (rawsK K)) (fun p hp => by
    obtain ⟨q, hq, rfl⟩ := List.mem_map.1 hp
    have h1 := nb_mul (co (prs l) q.2.c) q.2.g
    have h2 := tok_nb hS q.2.c
    have h3 := (rawsK_ok hK hq).2.2
    have h4 := nb_int q.2.g h3.1 h3.2
    show nb (co (prs l) q.2.c * q.2.g) ≤ _
    omega) c
  rw [cbL_len] at h1
  omega
omit h k hS hl hSS hR in
theorem bd_I64 (hf : f = co (bdL (co (prs l)) (rawsK K))) (c : Int) (hc : f c ≠ 0) : I64 c := by
  subst hf
  rcases Classical.em (∃ p ∈ bdL (co (prs l)) (rawsK K), p.1 = c) with ⟨p, hp, rfl⟩ | hn
  · obtain ⟨q, hq, rfl⟩ := List.mem_map.1 hp
    exact (rawsK_ok hK hq).2.1
  · exact absurd (co_none fun p hp e => hn ⟨p, hp, e⟩) hc
omit h k hS hl hSS hR in
theorem cb_I64 (hf : f = co (cbL (co (prs l)) (rawsK K))) (c : Int) (hc : f c ≠ 0) : I64 c := by
  subst hf
  rcases Classical.em (∃ p ∈ cbL (co (prs l)) (rawsK K), p.1 = c) with ⟨p, hp, rfl⟩ | hn
  · obtain ⟨q, hq, rfl⟩ := List.mem_map.1 hp
    exact (rawsK_ok hK hq).1
  · exact absurd (co_none fun p hp e => hn ⟨p, hp, e⟩) hc
include h k
theorem chBdF (N : Nat) (hN : (rawsK K).length = N) (hf : f = co (bdL (co (prs l)) (rawsK K))) : Calls Tryz.prog 19 #[v, u] w (Gives (.cf f N 1000) w) := by
  have h1 := bd_nb K l S f hK hS hl hSS hR hf
  have h2 := bd_I64 K l f hK hf
  obtain ⟨x, m, rfl, h3, h4⟩ := h
  refine gives_cf ((chBoundary x m u l S w h3 (hK.cok h4) k hS (by rw [raws_cl, h4]; omega)).mono fun _ _ ⟨r, he, hc⟩ => ⟨r, he, ?_⟩) h1 h2
  rw [raws_cl, h4, hN, ← hf] at hc; exact hc
theorem svBdF (N : Nat) (hN : (rawsK K).length = N) (hf : f = co (bdL (co (prs l)) (rawsK K))) : Calls Tryz.prog 20 #[v, u] w (Gives (.cf f N 1000) w) := by
  have h1 := bd_nb K l S f hK hS hl hSS hR hf
  have h2 := bd_I64 K l f hK hf
  obtain ⟨x, m, rfl, h3, h4⟩ := h
  refine gives_cf ((svBoundary x m u l S w h3 (hK.cok h4) k hS (by rw [raws_cl, h4]; omega)).mono fun _ _ ⟨r, he, hc⟩ => ⟨r, he, ?_⟩) h1 h2
  rw [raws_cl, h4, hN, ← hf] at hc; exact hc
theorem chCbF (N : Nat) (hN : (rawsK K).length = N) (hf : f = co (cbL (co (prs l)) (rawsK K))) : Calls Tryz.prog 21 #[v, u] w (Gives (.cf f N 1000) w) := by
  have h1 := cb_nb K l S f hK hS hl hSS hR hf
  have h2 := cb_I64 K l f hK hf
  obtain ⟨x, m, rfl, h3, h4⟩ := h
  refine gives_cf ((chCoboundary x m u l S w h3 (hK.cok h4) k hS (by rw [raws_cl, h4]; omega)).mono fun _ _ ⟨r, he, hc⟩ => ⟨r, he, ?_⟩) h1 h2
  rw [raws_cl, h4, hN, ← hf] at hc; exact hc
theorem svCbF (N : Nat) (hN : (rawsK K).length = N) (hf : f = co (cbL (co (prs l)) (rawsK K))) : Calls Tryz.prog 22 #[v, u] w (Gives (.cf f N 1000) w) := by
  have h1 := cb_nb K l S f hK hS hl hSS hR hf
  have h2 := cb_I64 K l f hK hf
  obtain ⟨x, m, rfl, h3, h4⟩ := h
  refine gives_cf ((svCoboundary x m u l S w h3 (hK.cok h4) k hS (by rw [raws_cl, h4]; omega)).mono fun _ _ ⟨r, he, hc⟩ => ⟨r, he, ?_⟩) h1 h2
  rw [raws_cl, h4, hN, ← hf] at hc; exact hc
omit hR in
theorem chInF2 (d : Int) (q : Bool) (hKl : K.length ≤ 1000) (hq : q = true ↔ ∀ c, co (prs l) c ≠ 0 → ∃ x ∈ K, x.id = c ∧ x.dim = d) : Calls Tryz.prog 23 #[v, .int .i64 d, u] w (Gives (.val (.bool q)) w) := by
  obtain ⟨x, m, rfl, h3, h4⟩ := h
  refine (chIn x m d u l S w h3 (by rw [← h4, List.length_map] at hKl; omega) (hK.cok h4) k hS (by omega)).mono fun e w' ⟨q', he, h1, hb⟩ => ⟨_, he, ?_, hb⟩
  show Value.bool q' = .bool q
  rw [Bool.eq_iff_iff.2 (h1.trans (Iff.trans ?_ hq.symm))]
  rw [← h4]
  exact forall_congr' fun c => imp_congr Iff.rfl (ex_cl m c d)
omit hR hK in
theorem svInF2 (d : Int) (q : Bool) (hq : q = true ↔ ∀ c, co (prs l) c ≠ 0 → ∃ x ∈ K, x.id = c ∧ x.dim = d) : Calls Tryz.prog 24 #[v, .int .i64 d, u] w (Gives (.val (.bool q)) w) := by
  obtain ⟨x, m, rfl, h3, h4⟩ := h
  refine (svIn x m d u l S w h3 k hS (by omega)).mono fun e w' ⟨q', he, h1, hb⟩ => ⟨_, he, ?_, hb⟩
  show Value.bool q' = .bool q
  rw [Bool.eq_iff_iff.2 (h1.trans (Iff.trans ?_ hq.symm))]
  rw [← h4]
  exact forall_congr' fun c => imp_congr Iff.rfl (ex_cl m c d)
end
theorem ef_ref07_Boundary : ∀ args w, (callFunc 20 args).run Tryz.prog w = .ok (.enter 20 args) w := enter_fn Tryz.func20 (by kernel_rfl) (by kernel_rfl)
theorem ef_ref07_Coboundary : ∀ args w, (callFunc 22 args).run Tryz.prog w = .ok (.enter 22 args) w := enter_fn Tryz.func22 (by kernel_rfl) (by kernel_rfl)
theorem ef_ref07_In : ∀ args w, (callFunc 24 args).run Tryz.prog w = .ok (.enter 24 args) w := enter_fn Tryz.func24 (by kernel_rfl) (by kernel_rfl)
theorem ef_chains_In : ∀ args w, (callFunc 23 args).run Tryz.prog w = .ok (.enter 23 args) w := enter_fn Tryz.func23 (by kernel_rfl) (by kernel_rfl)

end Go.Proofs.YtfcmpolhcpbliaaGreatDoor
