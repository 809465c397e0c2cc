/- Calls by kinds with any bounds; a call of a function value in a region that draws its order. cocyclelaw07.ChainsLinear: its closure. Written by gen_both.py. Calls by kinds for any chain: boundaries and coboundaries with any bounds; the closure of ChainsLinear at canonical chains. -/
import Derived.Deep.RegionHeld3
import Derived.Deep.DeepMust
import Derived.Test.YtfcmpolhcpbliaaGreatDoorOb
import Derived.Test.YtfcmpolhcpbliaaGreatDoorPa
import Derived.Test.YtfcmpolhcpbliaaGreatDoorOh

namespace Go.Cx
open Go.RowKit
variable {P : Program} {Q : Exit → Act → World → Prop} {o : Oper} {a : Act} {w : World} {K : Act → World → Prop}
theorem do_callv (x : Operand) (f : Nat) (cb : Array Value) (xs : Array Operand) (ts : Array TypeId) (hop : o.op = .call { callee := .value x, args := xs, argTypes := ts }) (ef : ∀ args w, (callFunc f args).run P w = .ok (.enter f args) w)
    (hx : a.eval x = .func (.func f) #[] cb) (vs : Array Value) (hv : xs.map a.eval = vs) (h : Calls P f (vs ++ cb) w fun e w' => ∃ v, e = .returned v ∧ K (a.put o.dst v) w') : Oper.wp P o a w K Q := by
  subst hv
  have key : (execOp a.eval o).run P w = .ok (.enter f (xs.map a.eval ++ cb)) w := by
    generalize a.eval = ρ at hx
    simp [execOp, hop, resolve, invoke, hx, ef, Deferred.ofValue]
  unfold Oper.wp
  rw [key]
  exact h.mono fun e w' ⟨v, he, hk⟩ => by subst he; exact hk
end Go.Cx
namespace Go.Proofs.YtfcmpolhcpbliaaGreatDoor
open Go.RowKit Go.Cx

theorem stp_callv {P : Program} {Q : Exit → Act → World → Prop} {k : Fk} {o : Oper} {a : Act} {w : World} (x : Operand) (f : Nat) (cb : Array Value) (xs : Array Operand) (ts : Array TypeId) (hop : o.op = .call { callee := .value x, args := xs, argTypes := ts }) (ef : ∀ args w, (callFunc f args).run P w = .ok (.enter f args) w)
    (hx : a.eval x = .func (.func f) #[] cb) (vs : Array Value) (hv : xs.map a.eval = vs) (h : Calls P f (vs ++ cb) w (Gives k w)) : Stp P Q k o a w :=
  do_callv x f cb xs ts hop ef hx vs hv (h.mono fun _ _ ⟨r, he, hk, hb⟩ => ⟨r, he, r, rfl, hk, hb⟩)

theorem cf_nb {f : Int → Int} {N S : Nat} {v : Value} {w : World} (h : (Fk.cf f N S).holds v w) (c : Int) : nb (f c) ≤ S := by
  obtain ⟨L, h1, h2, _, h4, _⟩ := h
  rw [← h2]
  rcases Classical.em (∃ p ∈ L, p.1 = c) with ⟨p, hp, rfl⟩ | hn
  · rw [co_mem h1.1 hp, ← mg_size]
    exact (h4 _ (List.mem_map.2 ⟨p, hp, rfl⟩)).2.2
  · rw [co_none fun p hp e => hn ⟨p, hp, e⟩]; simp [nb_zero]
theorem cf_I64 {f : Int → Int} {N S : Nat} {v : Value} {w : World} (h : (Fk.cf f N S).holds v w) (c : Int) (hc : f c ≠ 0) : I64 c := by
  obtain ⟨L, h1, h2, _, h4, _⟩ := h
  rw [← h2] at hc
  have := tok_I64 h4 c
  rw [prs_ctm] at this
  exact this hc
/-- The same chain under wider bounds and an equal function. -/
theorem cf_mono {f g : Int → Int} {N S N' S' : Nat} {v : Value} {w : World} (h : (Fk.cf f N S).holds v w) (he : ∀ c, f c = g c) (hN : N ≤ N') (hS : S ≤ S') : (Fk.cf g N' S').holds v w := by
  obtain ⟨L, h1, h2, h3, h4, h5⟩ := h
  exact ⟨L, h1, fun c => (h2 c).trans (he c), Nat.le_trans h3 hN, h4.mono hS, h5⟩

theorem chScaleG (z : Int) (v : Value) (l : List Tm) (S N S' : Nat) (f : Int → Int) (w : World) (h : Sl w 3 v (tv l)) (hS : TOk S l) (hz : I64 z) (hN : l.length = N) (hS' : S + N + 8 ≤ S') (hb : S' ≤ 1000000) (hf : ∀ c, z * co (prs l) c = f c) :
    Calls Tryz.prog 43 #[wv z, v] w (Gives (.cf f N S') w) := by
  subst hN
  have h3 := nb_int z hz.1 hz.2
  have := chScale (decide (z < 0)) (mg z) v l (S + 8) w h (hS.mono (by omega)) (by rw [mg_size]; omega) (by omega)
  rw [iv_mg] at this
  obtain rfl : (fun c => z * co (prs l) c) = f := funext hf
  refine gives_cf this (fun c => ?_) fun c hc => tok_I64 hS c fun e => hc (by show z * _ = 0; rw [e, Int.mul_zero])
  have h1 := tok_nb hS c
  have h2 := nb_mul z (co (prs l) c)
  omega
theorem cfAdd (v u : Value) (f g k : Int → Int) (N S N' S' M T : Nat) (w : World) (h : (Fk.cf f N S).holds v w) (h' : (Fk.cf g N' S').holds u w) (hM : N + N' ≤ M) (hT : S + 1 ≤ T) (hT' : S' + 1 ≤ T) (hb : T + M ≤ 1000000) (hk : ∀ c, f c + g c = k c) :
    Calls Tryz.prog 37 #[v, u] w (Gives (.cf k M T) w) := by
  have n1 := cf_nb h
  have n2 := cf_nb h'
  have i1 := cf_I64 h
  have i2 := cf_I64 h'
  obtain ⟨L, h1, h2, h3, h4, h5⟩ := h
  obtain ⟨L', k1, k2, k3, k4, k5⟩ := h'
  have hc := chAdd2 v u (ctm L) (ctm L') T w h5 k5 (h4.mono (by omega)) (k4.mono (by omega)) (by rw [ctm_len, ctm_len]; omega)
  rw [prs_ctm, prs_ctm, ctm_len, ctm_len] at hc
  have hkk : (fun c => co L c + co L' c) = k := funext fun c => by rw [h2, k2]; exact hk c
  rw [hkk] at hc
  refine (gives_cf hc (S := T) (fun c => ?_) (fun c hc0 => ?_)).mono fun e w' ⟨r, he, hr, hb⟩ => ⟨r, he, cf_mono hr (fun _ => rfl) (by omega) (Nat.le_refl _), hb⟩
  · rw [← hk]
    have := nb_add (f c) (g c)
    have := n1 c
    have := n2 c
    omega
  · rw [← hk] at hc0
    by_cases h0 : f c = 0
    · exact i2 c fun e => hc0 (by rw [h0, e]; rfl)
    · exact i1 c h0
theorem cfEqual (v u : Value) (f : Int → Int) (N S N' S' : Nat) (w : World) (h : (Fk.cf f N S).holds v w) (h' : (Fk.cf f N' S').holds u w) (hb : N + S + N' + S' ≤ 1000000) :
    Calls Tryz.prog 36 #[v, u] w (Gives .tt w) := by
  obtain ⟨L, h1, h2, h3, h4, h5⟩ := h
  obtain ⟨L', k1, k2, k3, k4, k5⟩ := h'
  refine (chEqual v u (ctm L) (ctm L') (S + S') w h5 k5 (h4.mono (by omega)) (k4.mono (by omega)) (by rw [ctm_len]; omega) (by rw [ctm_len]; omega)).mono fun e w' ⟨q', h0, hq, hb⟩ => ⟨_, h0, ?_, hb⟩
  show Value.bool q' = .bool true
  rw [hq.2 fun c => by rw [prs_ctm, prs_ctm, h2, k2]]
theorem cfBd (v u : Value) (K : List Cl) (f g : Int → Int) (N S R T : Nat) (w : World) (h : (Fk.cx K).holds v w) (k : (Fk.cf f N S).holds u w) (hK : KOk K) (hR : (rawsK K).length ≤ R) (hT : S + 8 + R ≤ T) (hb : N + T ≤ 1000000) (hg : ∀ c, co (bdL f (rawsK K)) c = g c) :
    Calls Tryz.prog 19 #[v, u] w (Gives (.cf g R T) w) := by
  have n1 := cf_nb k
  obtain ⟨x, m, rfl, h3, h4⟩ := h
  obtain ⟨L, k1, k2, k3, k4, k5⟩ := k
  have hc := chBoundary x m u (ctm L) S w h3 (hK.cok h4) k5 k4 (by rw [raws_cl, h4, ctm_len]; omega)
  rw [raws_cl, h4, prs_ctm, show co L = f from funext k2, show co (bdL f (rawsK K)) = g from funext hg] at hc
  refine (gives_cf hc (S := T) (fun c => ?_) (fun c hc0 => ?_)).mono fun e w' ⟨r, he, hr, hb⟩ => ⟨r, he, cf_mono hr (fun _ => rfl) hR (Nat.le_refl _), hb⟩
  · rw [← hg]
    have h1 := nb_co (S + 8) (bdL f (rawsK K)) (fun p hp => by
      obtain ⟨q, hq, rfl⟩ := List.mem_map.1 hp
      have h1 := nb_mul (f q.1) q.2.g
      have h2 := n1 q.1
      have h3 := (rawsK_ok hK hq).2.2
      have h4 := nb_int q.2.g h3.1 h3.2
      show nb (f q.1 * q.2.g) ≤ _
      omega) c
    rw [bdL_len] at h1
    omega
  · rw [← hg] at hc0
    rcases Classical.em (∃ p ∈ bdL f (rawsK K), p.1 = c) with ⟨p, hp, rfl⟩ | hn
    · obtain ⟨q, hq, rfl⟩ := List.mem_map.1 hp
      exact (rawsK_ok hK hq).2.1
    · exact absurd (co_none fun p hp e => hn ⟨p, hp, e⟩) hc0
theorem cfCb (v u : Value) (K : List Cl) (f g : Int → Int) (N S R T : Nat) (w : World) (h : (Fk.cx K).holds v w) (k : (Fk.cf f N S).holds u w) (hK : KOk K) (hR : (rawsK K).length ≤ R) (hT : S + 8 + R ≤ T) (hb : N + T ≤ 1000000) (hg : ∀ c, co (cbL f (rawsK K)) c = g c) :
    Calls Tryz.prog 21 #[v, u] w (Gives (.cf g R T) w) := by
  have n1 := cf_nb k
  obtain ⟨x, m, rfl, h3, h4⟩ := h
  obtain ⟨L, k1, k2, k3, k4, k5⟩ := k
  have hc := chCoboundary x m u (ctm L) S w h3 (hK.cok h4) k5 k4 (by rw [raws_cl, h4, ctm_len]; omega)
  rw [raws_cl, h4, prs_ctm, show co L = f from funext k2, show co (cbL f (rawsK K)) = g from funext hg] at hc
  refine (gives_cf hc (S := T) (fun c => ?_) (fun c hc0 => ?_)).mono fun e w' ⟨r, he, hr, hb⟩ => ⟨r, he, cf_mono hr (fun _ => rfl) hR (Nat.le_refl _), hb⟩
  · rw [← hg]
    have h1 := nb_co (S + 8) (cbL f (rawsK K)) (fun p hp => by
      obtain ⟨q, hq, rfl⟩ := List.mem_map.1 hp
      have h1 := nb_mul (f q.2.c) q.2.g
      have h2 := n1 q.2.c
      have h3 := (rawsK_ok hK hq).2.2
      have h4 := nb_int q.2.g h3.1 h3.2
      show nb (f q.2.c * q.2.g) ≤ _
      omega) c
    rw [cbL_len] at h1
    omega
  · rw [← hg] at hc0
    rcases Classical.em (∃ p ∈ cbL f (rawsK K), p.1 = c) with ⟨p, hp, rfl⟩ | hn
    · obtain ⟨q, hq, rfl⟩ := List.mem_map.1 hp
      exact (rawsK_ok hK hq).1
    · exact absurd (co_none fun p hp e => hn ⟨p, hp, e⟩) hc0

/-- Boundaries, coboundaries and pairings are linear in the coefficients. -/
theorem bd_lin (f g : Int → Int) (x y : Int) (R : List (Int × Sd)) (c : Int) : co (bdL (fun d => x * f d + y * g d) R) c = x * co (bdL f R) c + y * co (bdL g R) c := by
  induction R with
  | nil => simp [bdL, co]
  | cons p R ih =>
    have e : ∀ h : Int → Int, bdL h (p :: R) = (p.2.c, h p.1 * p.2.g) :: bdL h R := fun _ => rfl
    rw [e, e, e, co_cons, co_cons, co_cons, ih]
    dsimp only
    split
    · simp only [Int.mul_add, Int.add_mul, Int.mul_assoc]; omega
    · simp
theorem cb_lin (f g : Int → Int) (x y : Int) (R : List (Int × Sd)) (c : Int) : co (cbL (fun d => x * f d + y * g d) R) c = x * co (cbL f R) c + y * co (cbL g R) c := by
  induction R with
  | nil => simp [cbL, co]
  | cons p R ih =>
    have e : ∀ h : Int → Int, cbL h (p :: R) = (p.1, h p.2.c * p.2.g) :: cbL h R := fun _ => rfl
    rw [e, e, e, co_cons, co_cons, co_cons, ih]
    dsimp only
    split
    · simp only [Int.mul_add, Int.add_mul, Int.mul_assoc]; omega
    · simp
theorem pg_lin (f g : Int → Int) (x y : Int) (L : List (Int × Int)) : pg (fun d => x * f d + y * g d) L = x * pg f L + y * pg g L := by
  induction L with
  | nil => simp [pg]
  | cons p L ih =>
    show (x * f p.1 + y * g p.1) * p.2 + pg _ L = x * (f p.1 * p.2 + pg f L) + y * (g p.1 * p.2 + pg g L)
    rw [ih]
    simp only [Int.mul_add, Int.add_mul, Int.mul_assoc]
    omega

end Go.Proofs.YtfcmpolhcpbliaaGreatDoor

namespace Go.Proofs.YtfcmpolhcpbliaaGreatDoor
open Go.RowKit Go.Cx
attribute [local go_sem ↓] Go.wp_at_zero Go.wp_at_succ

set_option maxRecDepth 100000 in
set_option maxHeartbeats 4000000 in
theorem laBoth (v u : Value) (l m : List Tm) (S N1 N2 : Nat) (b c : Nat) (x y : Int) (F : Int → Int) (w : World) (h : Sl w 3 v (tv l)) (k : Sl w 3 u (tv m)) (hS : TOk S l) (kS : TOk S m) (hbx : Bx w b (decide (x < 0)) (mg x)) (hby : Bx w c (decide (y < 0)) (mg y))
    (hx : I64 x) (hy : I64 y) (hN1 : l.length = N1) (hN2 : m.length = N2) (hb : S + 2 * N1 + 2 * N2 ≤ 900000) (hF : ∀ d, x * co (prs l) d + y * co (prs m) d = F d) :
    Calls Tryz.prog 44 #[v, u, .pointer (some ⟨b, 0, none⟩), .pointer (some ⟨c, 0, none⟩)] w (Gives (.cf F (N1 + N2) (S + N1 + N2 + 9)) w) := by
  obtain ⟨a1, k1, c1, rfl⟩ := sl_shape h
  obtain ⟨a2, k2, c2, rfl⟩ := sl_shape k
  have hbl : b < w.heap.size := World.block_lt_of_cell? w _ hbx.1
  have hbm : c < w.heap.size := World.block_lt_of_cell? w _ hby.1
  have HH := Lib.hid (And.intro h (And.intro k (And.intro hbx (And.intro hby (And.intro hbl hbm)))))
  clear h k hbx hby hbl hbm
  go_enter Tryz.func44, Tryz.ntmps44
  go_wp2_with fail
  rename_i KK hKK
  obtain ⟨h, k, hbx, hby, hbl, hbm⟩ := HH.out
  have hv : ∀ w', Below w.heap.size w w' → Sl w' 3 (.slice a1 k1 c1) (tv l) := fun w' hb => h.keep hb
  have hu : ∀ w', Below w.heap.size w w' → Sl w' 3 (.slice a2 k2 c2) (tv m) := fun w' hb => k.keep hb
  refine region_facts rfl (fun i v w => (([.val (wv x), .val (.slice a1 k1 c1), .cf (fun c => x * co (prs l) c) N1 (S + N1 + 8), .val (wv y), .val (.slice a2 k2 c2), .cf (fun c => y * co (prs m) c) N2 (S + N2 + 8), .cf F (N1 + N2) (S + N1 + N2 + 9), .cf F (N1 + N2) (S + N1 + N2 + 9)] : List Fk).getD i .any).holds v w) 14 rfl (by kernel_rfl) (by kernel_rfl) (fun i v w w' h hb => Fk.keep h hb) ?step ?done
  case step =>
      intro i o ho a w' hw hd hbase hsz
      have ht0 : (.slice a1 k1 c1 : Value) = .slice a1 k1 c1 := rfl
      have ht1 : (.slice a2 k2 c2 : Value) = .slice a2 k2 c2 := rfl
      have hp2 : (.pointer (some ⟨b, 0, none⟩) : Value) = .pointer (some ⟨b, 0, none⟩) := rfl
      have hp3 : (.pointer (some ⟨c, 0, none⟩) : Value) = .pointer (some ⟨c, 0, none⟩) := rfl
      match i, ho, hd with
      | 0, ho, hd =>
        obtain rfl := Option.some.inj ho
        exact ⟨rfl, stp_load _ _ rfl _ ((hbase 2 (noDst_spec (by kernel_rfl))).trans hp2) _ (ldW (hbx.keep hw hbl)) rfl⟩
      | 1, ho, hd =>
        obtain rfl := Option.some.inj ho
        exact ⟨rfl, stp_move _ (.inl rfl) ((hbase 0 (noDst_spec (by kernel_rfl))).trans ht0)⟩
      | 2, ho, hd =>
        obtain rfl := Option.some.inj ho
        have f0 : (Fk.val (wv x)).holds (a.tmps.getD 7 undef) w' := hd 0 _ _ rfl rfl (by kernel_rfl)
        have f1 : (Fk.val (.slice a1 k1 c1)).holds (a.tmps.getD 8 undef) w' := hd 1 _ _ rfl rfl (by kernel_rfl)
        exact ⟨rfl, stp_call _ _ _ rfl ef_chains_Scale #[(wv x), (.slice a1 k1 c1)] (by simp [Act.eval, show a.tmps.getD 7 undef = (wv x) from f0, show a.tmps.getD 8 undef = (.slice a1 k1 c1) from f1]) (chScaleG x _ l S N1 _ _ _ (hv _ hw) hS hx hN1 (Nat.le_refl _) (by omega) (fun _ => rfl))⟩
      | 3, ho, hd =>
        obtain rfl := Option.some.inj ho
        exact ⟨rfl, stp_load _ _ rfl _ ((hbase 3 (noDst_spec (by kernel_rfl))).trans hp3) _ (ldW (hby.keep hw hbm)) rfl⟩
      | 4, ho, hd =>
        obtain rfl := Option.some.inj ho
        exact ⟨rfl, stp_move _ (.inl rfl) ((hbase 1 (noDst_spec (by kernel_rfl))).trans ht1)⟩
      | 5, ho, hd =>
        obtain rfl := Option.some.inj ho
        have f0 : (Fk.val (wv y)).holds (a.tmps.getD 10 undef) w' := hd 3 _ _ rfl rfl (by kernel_rfl)
        have f1 : (Fk.val (.slice a2 k2 c2)).holds (a.tmps.getD 11 undef) w' := hd 4 _ _ rfl rfl (by kernel_rfl)
        exact ⟨rfl, stp_call _ _ _ rfl ef_chains_Scale #[(wv y), (.slice a2 k2 c2)] (by simp [Act.eval, show a.tmps.getD 10 undef = (wv y) from f0, show a.tmps.getD 11 undef = (.slice a2 k2 c2) from f1]) (chScaleG y _ m S N2 _ _ _ (hu _ hw) kS hy hN2 (Nat.le_refl _) (by omega) (fun _ => rfl))⟩
      | 6, ho, hd =>
        obtain rfl := Option.some.inj ho
        have f0 : (Fk.cf (fun c => x * co (prs l) c) N1 (S + N1 + 8)).holds (a.tmps.getD 9 undef) w' := hd 2 _ _ rfl rfl (by kernel_rfl)
        have f1 : (Fk.cf (fun c => y * co (prs m) c) N2 (S + N2 + 8)).holds (a.tmps.getD 12 undef) w' := hd 5 _ _ rfl rfl (by kernel_rfl)
        exact ⟨rfl, stp_call _ _ _ rfl ef_chains_Add #[a.tmps.getD 9 undef, a.tmps.getD 12 undef] (by simp [Act.eval]) (cfAdd _ _ _ _ F _ _ _ _ _ _ _ f0 f1 (Nat.le_refl _) (by omega) (by omega) (by omega) hF)⟩
      | 7, ho, hd =>
        obtain rfl := Option.some.inj ho
        have f0 : (Fk.cf F (N1 + N2) (S + N1 + N2 + 9)).holds (a.tmps.getD 13 undef) w' := hd 6 _ _ rfl rfl (by kernel_rfl)
        exact ⟨rfl, stp_move _ (.inr rfl) f0⟩
      | i + 8, ho, hd =>
        have : i + 8 < 8 := (Array.getElem?_eq_some_iff.1 ho).1
        omega
  case done =>
    intro a w5 hsz hdf hf hbase hw
    have ht : (Fk.cf F (N1 + N2) (S + N1 + N2 + 9)).holds (a.tmps.getD 6 undef) w5 := hf 7 _ _ rfl rfl
    clear hbase hf
    refine hKK _ _ (wp_ret ?_)
    show bodyPost Tryz.prog Tryz.f44 (Gives (.cf F (N1 + N2) (S + N1 + N2 + 9)) w) .ret a w5
    refine bodyPost_ret (v := a.tmps.getD 6 undef) ?_ hdf ⟨_, rfl, ht, hw⟩
    obtain ⟨L, _, _, _, _, hsl⟩ := ht
    obtain ⟨a6, k6, c6, h6⟩ := sl_shape hsl
    have h6' := h6
    rw [h6]
    rw [Array.getD_eq_getD_getElem?] at h6'
    simp [results, Tryz.results44, go_sem, h6']

end Go.Proofs.YtfcmpolhcpbliaaGreatDoor

namespace Go.Proofs.YtfcmpolhcpbliaaGreatDoor
open Go.RowKit Go.Cx
attribute [local go_sem ↓] Go.wp_at_zero Go.wp_at_succ

theorem tBd (v u : Value) (K : List Cl) (l : List Tm) (g : Int → Int) (N S R T : Nat) (w : World) (h : (Fk.cx K).holds v w) (k : Sl w 3 u (tv l)) (hK : KOk K) (hS : TOk S l) (hN : l.length = N) (hR : (rawsK K).length ≤ R) (hT : S + N + 8 + R ≤ T) (hb : N + T ≤ 1000000) (hg : ∀ c, co (bdL (co (prs l)) (rawsK K)) c = g c) :
    Calls Tryz.prog 19 #[v, u] w (Gives (.cf g R T) w) := by
  obtain ⟨x, m, rfl, h3, h4⟩ := h
  have hc := chBoundary x m u l S w h3 (hK.cok h4) k hS (by rw [raws_cl, h4]; omega)
  rw [raws_cl, h4, show co (bdL (co (prs l)) (rawsK K)) = g from funext hg] at hc
  refine (gives_cf hc (S := T) (fun c => ?_) (fun c hc0 => ?_)).mono fun e w' ⟨r, he, hr, hb⟩ => ⟨r, he, cf_mono hr (fun _ => rfl) hR (Nat.le_refl _), hb⟩
  · rw [← hg]
    have h1 := nb_co (S + N + 8) (bdL (co (prs l)) (rawsK K)) (fun p hp => by
      obtain ⟨q, hq, rfl⟩ := List.mem_map.1 hp
      have h1 := nb_mul (co (prs l) q.1) q.2.g
      have h2 := tok_nb hS q.1
      have h3 := (rawsK_ok hK hq).2.2
      have h4 := nb_int q.2.g h3.1 h3.2
      show nb (co (prs l) q.1 * q.2.g) ≤ _
      omega) c
    rw [bdL_len] at h1
    omega
  · rw [← hg] at hc0
    rcases Classical.em (∃ p ∈ bdL (co (prs l)) (rawsK K), p.1 = c) with ⟨p, hp, rfl⟩ | hn
    · obtain ⟨q, hq, rfl⟩ := List.mem_map.1 hp
      exact (rawsK_ok hK hq).2.1
    · exact absurd (co_none fun p hp e => hn ⟨p, hp, e⟩) hc0
theorem tCb (v u : Value) (K : List Cl) (l : List Tm) (g : Int → Int) (N S R T : Nat) (w : World) (h : (Fk.cx K).holds v w) (k : Sl w 3 u (tv l)) (hK : KOk K) (hS : TOk S l) (hN : l.length = N) (hR : (rawsK K).length ≤ R) (hT : S + N + 8 + R ≤ T) (hb : N + T ≤ 1000000) (hg : ∀ c, co (cbL (co (prs l)) (rawsK K)) c = g c) :
    Calls Tryz.prog 21 #[v, u] w (Gives (.cf g R T) w) := by
  obtain ⟨x, m, rfl, h3, h4⟩ := h
  have hc := chCoboundary x m u l S w h3 (hK.cok h4) k hS (by rw [raws_cl, h4]; omega)
  rw [raws_cl, h4, show co (cbL (co (prs l)) (rawsK K)) = g from funext hg] at hc
  refine (gives_cf hc (S := T) (fun c => ?_) (fun c hc0 => ?_)).mono fun e w' ⟨r, he, hr, hb⟩ => ⟨r, he, cf_mono hr (fun _ => rfl) hR (Nat.le_refl _), hb⟩
  · rw [← hg]
    have h1 := nb_co (S + N + 8) (cbL (co (prs l)) (rawsK K)) (fun p hp => by
      obtain ⟨q, hq, rfl⟩ := List.mem_map.1 hp
      have h1 := nb_mul (co (prs l) q.2.c) q.2.g
      have h2 := tok_nb hS q.2.c
      have h3 := (rawsK_ok hK hq).2.2
      have h4 := nb_int q.2.g h3.1 h3.2
      show nb (co (prs l) q.2.c * q.2.g) ≤ _
      omega) c
    rw [cbL_len] at h1
    omega
  · rw [← hg] at hc0
    rcases Classical.em (∃ p ∈ cbL (co (prs l)) (rawsK K), p.1 = c) with ⟨p, hp, rfl⟩ | hn
    · obtain ⟨q, hq, rfl⟩ := List.mem_map.1 hp
      exact (rawsK_ok hK hq).1
    · exact absurd (co_none fun p hp e => hn ⟨p, hp, e⟩) hc0
/-- The closure at two canonical chains. -/
theorem bothF (v u : Value) (f g F : Int → Int) (N S M T : Nat) (b c : Nat) (x y : Int) (w : World) (h : (Fk.cf f N S).holds v w) (k : (Fk.cf g N S).holds u w) (hbx : Bx w b (decide (x < 0)) (mg x)) (hby : Bx w c (decide (y < 0)) (mg y)) (hx : I64 x) (hy : I64 y) (hb : S + 4 * N ≤ 900000) (hM : N + N ≤ M) (hT : S + N + N + 9 ≤ T) (hF : ∀ d, x * f d + y * g d = F d) :
    Calls Tryz.prog 44 #[v, u, .pointer (some ⟨b, 0, none⟩), .pointer (some ⟨c, 0, none⟩)] w (Gives (.cf F M T) w) := by
  obtain ⟨L, h1, h2, h3, h4, h5⟩ := h
  obtain ⟨L', k1, k2, k3, k4, k5⟩ := k
  refine (laBoth v u (ctm L) (ctm L') S L.length L'.length b c x y F w h5 k5 h4 k4 hbx hby hx hy (ctm_len _) (ctm_len _) (by omega) (fun d => by rw [prs_ctm, prs_ctm, h2, k2, hF])).mono fun e w' ⟨r, he, hr, hb⟩ => ⟨r, he, cf_mono hr (fun _ => rfl) (by omega) (by omega), hb⟩

end Go.Proofs.YtfcmpolhcpbliaaGreatDoor
