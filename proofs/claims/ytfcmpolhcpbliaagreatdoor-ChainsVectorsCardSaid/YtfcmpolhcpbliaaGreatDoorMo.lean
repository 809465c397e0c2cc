/- An append as a step of a drawn region; calls by kinds for chains of given coefficients. Calls by kinds for chains of given coefficients. -/
import Derived.Test.YtfcmpolhcpbliaaGreatDoorMn
import Derived.Test.YtfcmpolhcpbliaaGreatDoorMl

namespace Go.Cx
open Go.RowKit
variable {P : Program} {Q : Exit → Act → World → Prop} {o : Oper} {a : Act}

/-- Nothing but going on. -/
def onlyN (K : Act → World → Prop) : Exit → Act → World → Prop
  | .normal, a, w => K a w
  | _, _, _ => False
theorem upon_weak {K next : Act → World → Prop} {r : Result Next} (h : o.upon P a next (onlyN K) r) : o.upon P a next Q r := by
  cases r with
  | ok n w =>
    cases n
    case value => exact h
    case skip => exact h
    case defer => exact h
    case row => exact h
    case enter f args =>
      refine Calls.mono h fun e w' he => ?_
      cases e with
      | returned v => exact he
      | panicked c => exact he.elim
      | outgrown => obtain ⟨_, _, h⟩ := he; exact h.elim
    all_goals exact h.elim
  | halt x w =>
    cases x
    case panic => exact h.elim
    all_goals exact h.elim
theorem do_append {wr : World} {K : Act → World → Prop} (s x : Operand) (t : TypeId)
    (ho : o.op = .call { callee := .builtin .append, args := #[s, x], argTypes := #[t, t] })
    (base : Nat) (e : TypeId) {z : Value} {size bytes : Nat} (hinfo : (P.info? e).map (fun i => (i.zero, i.size, i.bytes)) = some (some z, size, bytes)) (ht : P.underlying t = some (.slice e))
    (hzs : z.cells.size = size) (hsz : 0 < size) (hby : 0 < bytes)
    (v : Value) (n : Nat) (xs : List Value) (hs : a.eval s = v) (hown : wr.ownsRow base e size v n xs)
    (u : Value) (m : Nat) (ys : List Value) (hx : a.eval x = u) (hsrc : Sl wr size u ys) (hl : ys.length = m * size) (h1 : ∀ u ∈ ys, u.oneCell' = true)
    (hbytes : (n + m) * bytes ≤ 140737488355328) (hbase : base ≤ wr.heap.size)
    (h : ∀ v' w', w'.ownsRow base e size v' (n + m) (xs ++ ys) → Below base wr w' → K (a.put o.dst v') w') : Oper.wp P o a wr K Q := by
  have key : wpList P #[] (onlyN K) [{ o with guard := none }] a wr :=
    wpList_appS (W := wr) rfl s x t ho base e hinfo ht hzs hsz hby v n xs hs hown u m ys hx hsrc hl h1 hbytes (Below.refl _ _) hbase fun v' w' r1 _ r3 => h v' w' r1 r3
  unfold wpList at key
  split at key
  · rcases key with key | ⟨_, _, _, key⟩
    · exact upon_weak key
    · exact key.elim
  · rename_i hn
    exact absurd rfl hn

end Go.Cx

namespace Go.Proofs.YtfcmpolhcpbliaaGreatDoor
open Go.RowKit Go.Cx

theorem cres_cf {w w' : World} {r : Value} {f : Int → Int} {N S : Nat} (h : CRes w w' r f N) (hS : ∀ c, nb (f c) ≤ S) (hI : ∀ c, f c ≠ 0 → I64 c) : (Fk.cf f N S).holds r w' := by
  obtain ⟨⟨L, h1, h2, h3, h4⟩, _⟩ := h
  refine ⟨L, h1, h2, h3, LOk.tok fun p hp => ?_, Sl.of_ownsRow h4⟩
  have e : f p.1 = p.2 := by rw [← h2, co_mem h1.1 hp]
  exact ⟨hI _ (by rw [e]; exact h1.2 p hp), by rw [← e]; exact hS _⟩
theorem co_I64 {S : Nat} {L : List (Int × Int)} (hL : LOk S L) (c : Int) (h : co L c ≠ 0) : I64 c := by
  rcases Classical.em (∃ p ∈ L, p.1 = c) with ⟨p, hp, rfl⟩ | hn
  · exact (hL p hp).1
  · exact absurd (co_none fun p hp e => hn ⟨p, hp, e⟩) h
theorem co_nb {S : Nat} {L : List (Int × Int)} (hL : LOk S L) (c : Int) : nb (co L c) ≤ S + L.length := nb_co S L (fun p hp => (hL p hp).2) c
theorem gives_cf {F : Nat} {args : Array Value} {w : World} {f : Int → Int} {N S : Nat} (h : Calls Tryz.prog F args w fun e w' => ∃ r, e = .returned r ∧ CRes w w' r f N) (hS : ∀ c, nb (f c) ≤ S) (hI : ∀ c, f c ≠ 0 → I64 c) :
    Calls Tryz.prog F args w (Gives (.cf f N S) w) := h.mono fun _ _ ⟨r, he, hc⟩ => ⟨r, he, cres_cf hc hS hI, hc.below⟩

section
variable (v u : Value) (L M : List (Int × Int)) (w : World) (h : (Fk.ch L).holds v w) (k : (Fk.ch M).holds u w) (hL : LOk 8 L) (hM : LOk 8 M) (nL : L.length ≤ 100) (nM : M.length ≤ 100)
include h hL nL
theorem chCanonF : Calls Tryz.prog 31 #[v] w (Gives (.cf (co L) L.length 1000) w) := by
  refine gives_cf (N := L.length) ((chCanon v (ctm L) 8 w h hL.tok (by rw [ctm_len]; omega)).mono fun _ _ ⟨r, he, hc⟩ => ⟨r, he, ?_⟩) (fun c => Nat.le_trans (co_nb hL c) (by omega)) (co_I64 hL)
  rw [prs_ctm, ctm_len] at hc; exact hc
theorem svCanonF : Calls Tryz.prog 35 #[v] w (Gives (.cf (co L) L.length 1000) w) := by
  refine gives_cf (N := L.length) ((svCanon v (ctm L) 8 w h hL.tok (by rw [ctm_len]; omega)).mono fun _ _ ⟨r, he, hc⟩ => ⟨r, he, ?_⟩) (fun c => Nat.le_trans (co_nb hL c) (by omega)) (co_I64 hL)
  rw [prs_ctm, ctm_len] at hc; exact hc
include k hM nM
omit h k in
theorem add_nb (c : Int) : nb (co L c + co M c) ≤ 1000 := by
  have h1 := nb_add (co L c) (co M c)
  have h2 := co_nb hL c
  have h3 := co_nb hM c
  omega
omit h k nL nM in
theorem add_I64 (c : Int) (hc : co L c + co M c ≠ 0) : I64 c := by
  by_cases h1 : co L c = 0
  · exact co_I64 hM c (fun e => hc (by rw [h1, e]; rfl))
  · exact co_I64 hL c h1
theorem chAddF : Calls Tryz.prog 37 #[v, u] w (Gives (.cf (fun c => co L c + co M c) (L.length + M.length) 1000) w) := by
  refine gives_cf ((chAdd2 v u (ctm L) (ctm M) 8 w h k hL.tok hM.tok (by rw [ctm_len, ctm_len]; omega)).mono fun _ _ ⟨r, he, hc⟩ => ⟨r, he, ?_⟩) (add_nb L M hL hM nL nM) (add_I64 L M hL hM)
  rw [prs_ctm, prs_ctm, ctm_len, ctm_len] at hc; exact hc
theorem svAddF : Calls Tryz.prog 42 #[v, u] w (Gives (.cf (fun c => co L c + co M c) (L.length + M.length) 1000) w) := by
  refine gives_cf ((svAdd v u (ctm L) (ctm M) 8 w h k hL.tok hM.tok (by rw [ctm_len, ctm_len]; omega)).mono fun _ _ ⟨r, he, hc⟩ => ⟨r, he, ?_⟩) (add_nb L M hL hM nL nM) (add_I64 L M hL hM)
  rw [prs_ctm, prs_ctm, ctm_len, ctm_len] at hc; exact hc
theorem chPairF : Calls Tryz.prog 27 #[v, u] w (Gives (.val (wv (pg (co L) M))) w) :=
  (chPair v u _ _ 8 w h k hL.tok hM.tok (by rw [ctm_len, ctm_len]; omega)).mono fun e w' ⟨he, hb⟩ => ⟨_, he, by rw [prs_ctm, prs_ctm]; rfl, hb⟩
theorem svPairF : Calls Tryz.prog 40 #[v, u] w (Gives (.val (wv (pg (co L) M))) w) :=
  (svPair v u _ _ 8 w h k hL.tok hM.tok (by rw [ctm_len, ctm_len]; omega)).mono fun e w' ⟨he, hb⟩ => ⟨_, he, by rw [prs_ctm, prs_ctm]; rfl, hb⟩
theorem chEqualF (q : Bool) (hq : q = true ↔ ∀ c, co L c = co M c) : Calls Tryz.prog 36 #[v, u] w (Gives (.val (.bool q)) w) :=
  (chEqual v u _ _ 8 w h k hL.tok hM.tok (by rw [ctm_len]; omega) (by rw [ctm_len]; omega)).mono fun e w' ⟨q', he, h1, hb⟩ => ⟨_, he, by
    rw [prs_ctm, prs_ctm] at h1
    show Value.bool q' = .bool q
    rw [Bool.eq_iff_iff.2 (h1.trans hq.symm)], hb⟩
theorem svEqualF (q : Bool) (hq : q = true ↔ ∀ c, co L c = co M c) : Calls Tryz.prog 41 #[v, u] w (Gives (.val (.bool q)) w) :=
  (svEqual v u _ _ 8 w h k hL.tok hM.tok (by rw [ctm_len]; omega) (by rw [ctm_len]; omega)).mono fun e w' ⟨q', he, h1, hb⟩ => ⟨_, he, by
    rw [prs_ctm, prs_ctm] at h1
    show Value.bool q' = .bool q
    rw [Bool.eq_iff_iff.2 (h1.trans hq.symm)], hb⟩
end
section
variable (z : Int) (v : Value) (L : List (Int × Int)) (w : World) (h : (Fk.ch L).holds v w) (hz : I64 z) (hL : LOk 8 L) (nL : L.length ≤ 100)
include hz hL nL
theorem scale_nb (c : Int) : nb (z * co L c) ≤ 1000 := by
  have h1 := nb_mul z (co L c)
  have h2 := co_nb hL c
  have h3 := nb_int z hz.1 hz.2
  omega
include h
theorem chScaleF : Calls Tryz.prog 43 #[wv z, v] w (Gives (.cf (fun c => z * co L c) L.length 1000) w) := by
  have h3 := nb_int z hz.1 hz.2
  refine gives_cf ((chScale (decide (z < 0)) (mg z) v (ctm L) 8 w h hL.tok (by rw [mg_size]; omega) (by rw [ctm_len]; omega)).mono fun _ _ ⟨r, he, hc⟩ => ⟨r, he, ?_⟩) (scale_nb z L hz hL nL) (fun c hc => co_I64 hL c fun e => hc (by rw [e, Int.mul_zero]))
  rw [prs_ctm, ctm_len, iv_mg] at hc; exact hc
theorem svScaleF : Calls Tryz.prog 38 #[wv z, v] w (Gives (.cf (fun c => z * co L c) L.length 1000) w) := by
  have h3 := nb_int z hz.1 hz.2
  refine gives_cf ((svScale (decide (z < 0)) (mg z) v (ctm L) 8 w h hL.tok (by rw [mg_size]; omega) (by rw [ctm_len]; omega)).mono fun _ _ ⟨r, he, hc⟩ => ⟨r, he, ?_⟩) (scale_nb z L hz hL nL) (fun c hc => co_I64 hL c fun e => hc (by rw [e, Int.mul_zero]))
  rw [prs_ctm, ctm_len, iv_mg] at hc; exact hc
end
theorem chEqualG (v u : Value) (L : List (Int × Int)) (f : Int → Int) (N S : Nat) (w : World) (h : (Fk.ch L).holds v w) (k : (Fk.cf f N S).holds u w) (hL : LOk 8 L) (nL : L.length ≤ 1000) (nN : N ≤ 1000) (nS : 8 ≤ S) (nS' : S ≤ 1000) (he : ∀ c, co L c = f c) :
    Calls Tryz.prog 36 #[v, u] w (Gives .tt w) := by
  obtain ⟨M, k1, k2, k3, k4, k5⟩ := k
  refine (chEqual v u _ _ S w h k5 (hL.tok.mono nS) k4 (by rw [ctm_len]; omega) (by rw [ctm_len]; omega)).mono fun e w' ⟨q', h0, h1, hb⟩ => ⟨_, h0, ?_, hb⟩
  rw [prs_ctm, prs_ctm] at h1
  show Value.bool q' = .bool true
  rw [h1.2 fun c => (he c).trans (k2 c).symm]
theorem svTermsF (v : Value) (l : List (Int × Int)) (b : Nat) (w : World) (h : Sl w 2 v (pv l)) (hr : ∀ p ∈ l, I64 p.1 ∧ I64 p.2) (hb : b ≤ w.heap.size) :
    Calls Tryz.prog 15 #[v] w (Gives (.own b (l.take 30)) w) :=
  (svTerms v l w h hr).mono fun _ _ ⟨r, he, h1, h2⟩ => ⟨r, he, ⟨Nat.le_trans hb h2.size, ownsRow_mono h1 hb⟩, h2⟩
theorem svTermsG (v : Value) (l L : List (Int × Int)) (b : Nat) (w : World) (h : Sl w 2 v (pv l)) (hr : ∀ p ∈ l, I64 p.1 ∧ I64 p.2) (hb : b ≤ w.heap.size) (hL : L = l.take 30) :
    Calls Tryz.prog 15 #[v] w (Gives (.own b L) w) := hL ▸ svTermsF v l b w h hr hb
theorem lok8 {l : List (Int × Int)} (hr : ∀ p ∈ l, I64 p.1 ∧ I64 p.2) : LOk 8 (l.take 30) := fun p hp => by
  have h := hr p (List.mem_of_mem_take hp)
  exact ⟨h.1, nb_int _ h.2.1 h.2.2⟩
theorem svSameF (v u : Value) (f : Int → Int) (N S N' S' : Nat) (w : World) (h : (Fk.cf f N S).holds v w) (k : (Fk.cf f N' S').holds u w) :
    Calls Tryz.prog 18 #[v, u] w (Gives .tt w) := by
  obtain ⟨L, h1, h2, _, _, h5⟩ := h
  obtain ⟨M, k1, k2, _, _, k5⟩ := k
  have : L = M := Cn.uniq h1 k1 fun c => (h2 c).trans (k2 c).symm
  subst this
  exact svSame' v u L w h5 k5

theorem ef_ref07_Canon : ∀ args w, (callFunc 35 args).run Tryz.prog w = .ok (.enter 35 args) w := enter_fn Tryz.func35 (by kernel_rfl) (by kernel_rfl)
theorem ef_chains_Equal : ∀ args w, (callFunc 36 args).run Tryz.prog w = .ok (.enter 36 args) w := enter_fn Tryz.func36 (by kernel_rfl) (by kernel_rfl)
theorem ef_ref07_Equal : ∀ args w, (callFunc 41 args).run Tryz.prog w = .ok (.enter 41 args) w := enter_fn Tryz.func41 (by kernel_rfl) (by kernel_rfl)
theorem ef_chains_Add : ∀ args w, (callFunc 37 args).run Tryz.prog w = .ok (.enter 37 args) w := enter_fn Tryz.func37 (by kernel_rfl) (by kernel_rfl)
theorem ef_ref07_Add : ∀ args w, (callFunc 42 args).run Tryz.prog w = .ok (.enter 42 args) w := enter_fn Tryz.func42 (by kernel_rfl) (by kernel_rfl)
theorem ef_chains_Scale : ∀ args w, (callFunc 43 args).run Tryz.prog w = .ok (.enter 43 args) w := enter_fn Tryz.func43 (by kernel_rfl) (by kernel_rfl)
theorem ef_ref07_Scale : ∀ args w, (callFunc 38 args).run Tryz.prog w = .ok (.enter 38 args) w := enter_fn Tryz.func38 (by kernel_rfl) (by kernel_rfl)
theorem ef_ref07_Pair : ∀ args w, (callFunc 40 args).run Tryz.prog w = .ok (.enter 40 args) w := enter_fn Tryz.func40 (by kernel_rfl) (by kernel_rfl)
theorem ef_ref07_Terms : ∀ args w, (callFunc 15 args).run Tryz.prog w = .ok (.enter 15 args) w := enter_fn Tryz.func15 (by kernel_rfl) (by kernel_rfl)

end Go.Proofs.YtfcmpolhcpbliaaGreatDoor
