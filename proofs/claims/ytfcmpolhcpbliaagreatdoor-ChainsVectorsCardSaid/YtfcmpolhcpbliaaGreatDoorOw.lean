/- ChainsVectors: the plain law. No program. Steps for cocyclelaw07.ChainsVectors. cocyclelaw07.ChainsVectors. Written by gen_vec.py out of VcL.src. -/
import Derived.ArgAppend
import Derived.Deep.CutRange
import Derived.Deep.DeepCutAuto
import Derived.Test.YtfcmpolhcpbliaaGreatDoorOv
import Derived.Test.YtfcmpolhcpbliaaGreatDoorOs
import Derived.Test.YtfcmpolhcpbliaaGreatDoorPa
import Derived.Test.YtfcmpolhcpbliaaGreatDoorOp

namespace Go.Proofs.YtfcmpolhcpbliaaGreatDoor
open Go.RowKit Go.Cx

theorem zip_pw {A vs : List Int} (h : A.Pairwise (· < ·)) (hl : A.length = vs.length) : (A.zip vs).Pairwise fun p q => p.1 < q.1 := by
  have : (A.zip vs).map Prod.fst = A := by rw [List.map_fst_zip (by omega)]
  have h2 : ((A.zip vs).map Prod.fst).Pairwise (· < ·) := by rw [this]; exact h
  rwa [List.pairwise_map] at h2
theorem zip_at {A vs : List Int} (h : A.Pairwise (· < ·)) (hl : A.length = vs.length) {k : Nat} {a x : Int} (ha : A[k]? = some a) (hx : vs[k]? = some x) : co (A.zip vs) a = x := by
  have hm : (a, x) ∈ A.zip vs := List.mem_of_getElem? (by rw [List.getElem?_zip_eq_some]; exact ⟨ha, hx⟩)
  exact co_mem (zip_pw h hl) hm
theorem zip_map {A vs : List Int} (h : A.Pairwise (· < ·)) (hl : A.length = vs.length) : A.map (co (A.zip vs)) = vs := by
  refine List.ext_getElem? fun k => ?_
  rw [List.getElem?_map]
  cases ha : A[k]? with
  | none =>
    have := List.getElem?_eq_none_iff.1 ha
    rw [List.getElem?_eq_none (by omega)]; rfl
  | some a =>
    have hk := (List.getElem?_eq_some_iff.1 ha).1
    obtain ⟨x, hx⟩ : ∃ x, vs[k]? = some x := ⟨_, List.getElem?_eq_getElem (by omega)⟩
    rw [hx, Option.map_some, zip_at h hl ha hx]
theorem co_pos {L : List (Int × Int)} {c : Int} (h : co L c ≠ 0) : ∃ p ∈ L, p.1 = c ∧ p.2 ≠ 0 := by
  induction L with
  | nil => exact absurd rfl h
  | cons p L ih =>
    rw [co_cons] at h
    by_cases h1 : co L c = 0
    · rw [h1, Int.add_zero] at h
      by_cases h2 : p.1 = c
      · rw [if_pos h2] at h; exact ⟨p, List.mem_cons_self .., h2, h⟩
      · rw [if_neg h2] at h; exact absurd rfl h
    · obtain ⟨q, hq, h2⟩ := ih h1
      exact ⟨q, List.mem_cons_of_mem _ hq, h2⟩
theorem zip_in {A vs : List Int} {c : Int} (h : co (A.zip vs) c ≠ 0) : c ∈ A := by
  obtain ⟨p, hp, rfl, _⟩ := co_pos h
  exact (List.of_mem_zip hp).1
theorem se_ev (s : List Sd) (r : Int) : se s r = ev (fun c => if c = r then 1 else 0) s := by
  induction s with
  | nil => rfl
  | cons y s ih =>
    show (if y.c = r then y.g else 0) + se s r = (if y.c = r then 1 else 0) * y.g + ev _ s
    rw [ih]; split <;> simp
theorem se_srt (s : List Sd) (r : Int) : se (srtL s) r = se s r := by rw [se_ev, se_ev, ev_srt]
/-- The boundary at r, cell by cell. -/
def sumF (f : Int → Int) (r : Int) : List Cl → Int
  | [] => 0
  | x :: K => f x.id * se x.s r + sumF f r K
theorem bd_cell (f : Int → Int) (r : Int) (x : Cl) : co (bdL f (x.s.map fun y => (x.id, y))) r = f x.id * se x.s r := by
  generalize x.s = s
  induction s with
  | nil => show (0 : Int) = f x.id * 0; rw [Int.mul_zero]
  | cons y s ih =>
    show (if y.c = r then f x.id * y.g else 0) + co (bdL f (s.map fun y => (x.id, y))) r = f x.id * ((if y.c = r then y.g else 0) + se s r)
    rw [ih, Int.mul_add]
    split <;> simp
theorem bd_sumF (f : Int → Int) (r : Int) (K : List Cl) : co (bdL f (rawsK K)) r = sumF f r K := by
  induction K with
  | nil => rfl
  | cons x K ih =>
    rw [show x :: K = [x] ++ K from rfl, rawsK_append, bdL_append, co_append, ih, rawsK_one, bd_cell]
    rfl
theorem sumF_filter (f : Int → Int) (r : Int) (p : Cl → Bool) (K : List Cl) (h : ∀ x ∈ K, p x = false → f x.id = 0) : sumF f r K = sumF f r (K.filter p) := by
  induction K with
  | nil => rfl
  | cons x K ih =>
    have h1 := ih fun y hy => h y (List.mem_cons_of_mem _ hy)
    rw [List.filter_cons]
    cases hp : p x with
    | true => rw [if_pos rfl]; show _ + _ = _ + _; rw [h1]
    | false =>
      rw [if_neg Bool.false_ne_true, ← h1]
      show f x.id * _ + _ = _
      rw [h x (List.mem_cons_self ..) hp, Int.zero_mul, Int.zero_add]
theorem sumF_snoc (f : Int → Int) (r : Int) (K : List Cl) (x : Cl) : sumF f r (K ++ [x]) = sumF f r K + f x.id * se x.s r := by
  induction K with
  | nil => show f x.id * _ + 0 = 0 + _; rw [Int.add_zero, Int.zero_add]
  | cons y K ih => show _ + sumF f r (K ++ [x]) = _ + _ + _; rw [ih, Int.add_assoc]
theorem asc_id {K : List Cl} (h : Asc K) {x y : Cl} (hx : x ∈ K) (hy : y ∈ K) (he : x.id = y.id) : x = y := by
  induction K with
  | nil => cases hx
  | cons z K ih =>
    obtain ⟨h1, h2⟩ := List.pairwise_cons.1 h
    rcases List.mem_cons.1 hx with hx | hx <;> rcases List.mem_cons.1 hy with hy | hy
    · rw [hx, hy]
    · have := h1 y hy; rw [← hx] at this; omega
    · have := h1 x hx; rw [← hy] at this; omega
    · exact ih h2 hx hy
theorem ids_pw {K : List Cl} (h : Asc K) (d : Int) : (idsK K d).Pairwise (· < ·) := by
  rw [idsK_asc h, List.pairwise_map]
  exact h.filter _
/-- The matrix times the coefficients is the boundary. -/
theorem dot_bd {K : List Cl} (h : Asc K) (d : Int) (vs : List Int) (hl : (idsK K d).length = vs.length) (i : Nat) (hi : i < (idsK K (d - 1)).length) :
    dotp ((List.range ((idsK K (d - 1)).length * (idsK K d).length)).map fun t => entK K d (t / (idsK K d).length) (t % (idsK K d).length)) vs (idsK K d).length i (idsK K d).length = co (bdL (co ((idsK K d).zip vs)) (rawsK K)) ((idsK K (d - 1)).getD i 0) := by
  obtain ⟨r, hr⟩ : ∃ r, r = (idsK K (d - 1)).getD i 0 := ⟨_, rfl⟩
  obtain ⟨m, hm⟩ : ∃ m, m = (idsK K d).length := ⟨_, rfl⟩
  obtain ⟨f, hf⟩ : ∃ f, f = co ((idsK K d).zip vs) := ⟨_, rfl⟩
  obtain ⟨F, hF⟩ : ∃ F, F = K.filter fun x => x.dim == d := ⟨_, rfl⟩
  have hFi : idsK K d = F.map Cl.id := by rw [idsK_asc h, hF]
  have hpw := ids_pw h d
  rw [← hm, ← hr, ← hf, bd_sumF, sumF_filter f r (fun x => x.dim == d) K fun x hx hp => ?_]
  · rw [← hF]
    have hFl : F.length = m := by rw [hm, hFi, List.length_map]
    have key : ∀ k, k ≤ m → dotp ((List.range ((idsK K (d - 1)).length * m)).map fun t => entK K d (t / m) (t % m)) vs m i k = sumF f r (F.take k) := by
      intro k
      induction k with
      | zero => intro _; rfl
      | succ k ih =>
        intro hk
        obtain ⟨x, hx⟩ : ∃ x, F[k]? = some x := ⟨_, List.getElem?_eq_getElem (by omega)⟩
        have hxF := List.mem_of_getElem? hx
        have hxK : x ∈ K := by rw [hF] at hxF; exact (List.mem_filter.1 hxF).1
        rw [List.take_add_one, hx, Option.toList_some, sumF_snoc, ← ih (by omega)]
        show _ + _ * _ = _
        congr 1
        have hcol : (idsK K d)[k]? = some x.id := by rw [hFi, List.getElem?_map, hx]; rfl
        obtain ⟨v, hv⟩ : ∃ v, vs[k]? = some v := ⟨_, List.getElem?_eq_getElem (by omega)⟩
        have h1 : f x.id = v := by rw [hf]; exact zip_at hpw hl hcol hv
        have hlt : i * m + k < (idsK K (d - 1)).length * m := by
          have : (i + 1) * m ≤ (idsK K (d - 1)).length * m := Nat.mul_le_mul_right m hi
          rw [Nat.add_mul, Nat.one_mul] at this
          omega
        have h2 : ((List.range ((idsK K (d - 1)).length * m)).map fun t => entK K d (t / m) (t % m)).getD (i * m + k) 0 = se x.s r := by
          rw [List.getD_eq_getElem?_getD, List.getElem?_map, List.getElem?_range hlt]
          show entK K d ((i * m + k) / m) ((i * m + k) % m) = _
          rw [show (i * m + k) / m = i by rw [Nat.mul_comm, Nat.mul_add_div (by omega), Nat.div_eq_of_lt (by omega), Nat.add_zero], show (i * m + k) % m = k by rw [Nat.mul_comm, Nat.mul_add_mod, Nat.mod_eq_of_lt (by omega)]]
          unfold entK
          rw [show (idsK K d).getD k 0 = x.id by rw [List.getD_eq_getElem?_getD, hcol]; rfl, ← hr]
          have hasc : Asc (cellsK K) := by
            unfold cellsK
            rw [ordK_asc h, nub_asc (h.map (fun x => ⟨x.id, x.dim, srtL x.s⟩) fun _ => rfl) none (fun _ _ e => by cases e)]
            exact h.map _ fun _ => rfl
          have hmem : (⟨x.id, x.dim, srtL x.s⟩ : Cl) ∈ cellsK K := by
            unfold cellsK
            rw [ordK_asc h, nub_asc (h.map (fun x => ⟨x.id, x.dim, srtL x.s⟩) fun _ => rfl) none (fun _ _ e => by cases e)]
            exact List.mem_map.2 ⟨x, hxK, rfl⟩
          have := colS_eq hasc hmem
          rw [show (⟨x.id, x.dim, srtL x.s⟩ : Cl).id = x.id from rfl] at this
          rw [this, se_srt]
        rw [h2, show vs.getD k 0 = v by rw [List.getD_eq_getElem?_getD, hv]; rfl, h1, Int.mul_comm]
    have := key m (Nat.le_refl _)
    rw [this, List.take_of_length_le (by omega)]
  · cases hc : decide (f x.id = 0) with
    | true => simpa using hc
    | false =>
      have h0 : f x.id ≠ 0 := by simpa using hc
      rw [hf] at h0
      have h1 := zip_in h0
      obtain ⟨y, hy, hye, hyd⟩ := idsK_mem h1
      have := asc_id h hy hx hye
      subst this
      simp [hyd] at hp
/-- Sides of simplices lie one dimension below. -/
theorem simp_side (ls : List (List Int)) {x : Cl} (hx : x ∈ simpK ls) {s : Sd} (hs : s ∈ x.s) : ∃ y ∈ simpK ls, y.id = s.c ∧ y.dim = x.dim - 1 := by
  unfold simpK at hx
  obtain ⟨i, hi, rfl⟩ := List.mem_map.1 hx
  have hi := List.mem_range.1 hi
  obtain ⟨t, ht⟩ : ∃ t, t = (allL ls).getD i [] := ⟨_, rfl⟩
  have htm : t ∈ allL ls := by rw [ht, List.getD_eq_getElem?_getD, List.getElem?_eq_getElem hi]; exact List.getElem_mem _
  rw [← ht] at hs
  have h1 := srtL_mem hs
  obtain ⟨k, hk, rfl⟩ := List.mem_map.1 h1
  have hk := List.mem_range.1 hk
  by_cases hlen : 1 < t.length
  · rw [if_pos hlen] at hk
    have hul : (t.take k ++ t.drop (k + 1)).length = t.length - 1 := by rw [List.length_append, List.length_take, List.length_drop]; omega
    have hsub : List.Sublist (t.take k ++ t.drop (k + 1)) t := by
      have h2 : List.Sublist (t.take k ++ t.drop (k + 1)) (t.take k ++ t.drop k) := List.Sublist.append (List.Sublist.refl _) (by
        rw [← List.drop_drop]
        exact List.drop_sublist _ _)
      rwa [List.take_append_drop] at h2
    have hum := allL_sub htm hsub (fun e => by rw [e] at hul; simp at hul; omega)
    obtain ⟨h3, h4⟩ := plc_mem (allL_props ls).1 hum
    refine ⟨celOf (allL ls) (plc (allL ls) (t.take k ++ t.drop (k + 1))) ((allL ls).getD (plc (allL ls) (t.take k ++ t.drop (k + 1))) []), List.mem_map.2 ⟨_, List.mem_range.2 h3, rfl⟩, rfl, ?_⟩
    rw [h4, ← ht]
    show ((t.take k ++ t.drop (k + 1)).length : Int) - 1 = (t.length : Int) - 1 - 1
    rw [hul]; omega
  · rw [if_neg hlen] at hk; omega
/-- The boundary of a chain of one dimension lies one dimension below. -/
theorem bd_dim (l : List Int) (d : Int) (f : Int → Int) (hf : ∀ c, f c ≠ 0 → ∃ x ∈ simpN l, x.id = c ∧ x.dim = d) (c : Int) (hc : co (bdL f (rawsK (simpN l))) c ≠ 0) : ∃ y ∈ simpN l, y.id = c ∧ y.dim = d - 1 := by
  obtain ⟨p, hp, rfl, h0⟩ := co_pos hc
  obtain ⟨q, hq, rfl⟩ := List.mem_map.1 hp
  obtain ⟨x, hx, hxe, hs⟩ := rawsK_mem hq
  have hfx : f q.1 ≠ 0 := fun e => h0 (by show f q.1 * q.2.g = 0; rw [e, Int.zero_mul])
  obtain ⟨y, hy, hye, hyd⟩ := hf _ hfx
  have := asc_id (simpN_asc l) hy hx (by rw [hye, hxe])
  subst this
  obtain ⟨z, hz, h1, h2⟩ := simp_side _ hy hs
  exact ⟨z, hz, h1, by rw [h2, hyd]⟩

end Go.Proofs.YtfcmpolhcpbliaaGreatDoor

namespace Go.Proofs.YtfcmpolhcpbliaaGreatDoor
open Go.RowKit Go.Cx

theorem stp_app1 {Q : Exit → Act → World → Prop} {o : Oper} {a : Act} {w : World} (s x : Operand) (ho : o.op = .call { callee := .builtin .append, args := #[s, x], argTypes := #[34, 34] }) (ad : Option Addr) (n : Nat) (vs : List Int) (z : Int) (u : Value)
    (hs : a.eval s = .slice ad n n) (h : Sl w 2 (.slice ad n n) (wvs vs)) (hx : a.eval x = u) (k : Sl w 2 u (wvs [z])) (hn : n ≤ 100000) : Stp Tryz.prog Q (.wd (vs ++ [z])) o a w := by
  have hl : vs.length = n := by
    obtain ⟨_, _, h3, _⟩ := h.open
    rw [wvs_len] at h3; omega
  have h1 : ∀ v ∈ wvs [z], v.oneCell' = true := by
    intro v hv
    rw [wvs_one] at hv
    simp at hv
    rcases hv with rfl | rfl <;> rfl
  cases ad with
  | none =>
    have hn0 : n = 0 := h.open.2.2.2.1 rfl
    subst hn0
    have hv0 : vs = [] := List.eq_nil_of_length_eq_zero hl
    subst hv0
    exact do_append s x 34 ho w.heap.size 46 Tryz.infoW2 Tryz.underlying34 rfl (by decide) (by decide) _ 0 [] hs (World.ownsRow_nil _ _ _ _) u 1 (wvs [z]) hx k (by rw [wvs_len]; rfl) h1 (by decide) (Nat.le_refl _) (fun v' w' r1 r2 => ⟨v', rfl, Sl.of_ownsRow r1, r2⟩)
  | some ad =>
    obtain ⟨ua, un, uc, rfl⟩ := sl_shape k
    have hun : un = 1 := by
      obtain ⟨_, _, h3, _⟩ := k.open
      rw [wvs_len] at h3
      simp at h3; omega
    subst hun
    obtain ⟨ub, hub⟩ : ∃ ub, ua = some ub := by
      cases ua with
      | none => have := k.open.2.2.2.1 rfl; have h2 := k.open.1; omega
      | some ub => exact ⟨ub, rfl⟩
    subst hub
    obtain ⟨i, hi, hz⟩ := Option.map_eq_some_iff.1 Tryz.infoW2
    simp only [Prod.mk.injEq] at hz
    obtain ⟨v', w', hr, hown, hg⟩ := run_append_arg_grows (P := Tryz.prog) w 34 o.type 46 i _ 2 24 Tryz.underlying34 hi hz.1 hz.2.1 hz.2.2 rfl (by decide) ad n n (wvs vs) (by rw [wvs_len, hl]) (h.open.2.2.2.2 ad rfl) ub 1 uc (wvs [z]) (by rw [wvs_len]; rfl) (k.open.2.2.2.2 ub rfl) (by omega) (by unfold maxLen; omega) (by omega)
    have hb : Below w.heap.size w w' := (Below.refl _ w).grown hg (Nat.le_refl _) (fun r hr => by cases hr)
    show Oper.wp _ _ _ _ _ _
    unfold Oper.wp
    have : (execOp a.eval o).run Tryz.prog w = .ok (.value v') w' := by
      generalize a.eval = ρ at hs hx
      simp [execOp, ho, resolve, invoke, hs, hx, builtin, hr, Result.andThen]
    rw [this]
    refine ⟨_, rfl, ?_, hb⟩
    show Sl w' 2 v' (wvs (vs ++ [z]))
    rw [wvs_append]
    exact Sl.of_ownsRow hown
theorem run_sl3 (w : World) (a : Option Addr) (n c : Nat) (h1 : n ≤ c) (h2 : a = none → c = 0) : (Instr.sliceAt 34 (.slice a n c) none (some (.int .i64 n)) (some (.int .i64 n))).run Tryz.prog w = .ok (.slice a n n) w := by
  have g1 : (n : Int) ≤ c := by omega
  cases a with
  | none =>
    have := h2 rfl
    have hn : n = 0 := by omega
    subst hn this
    simp [go_sem]
  | some a => simp [go_sem, g1]
theorem stp_sl3 {Q : Exit → Act → World → Prop} {k : Fk} {o : Oper} {a : Act} {w : World} (x y z : Operand) (hop : o.op = .slice 34 x none (some y) (some z)) (ad : Option Addr) (n c : Nat) (hx : a.eval x = .slice ad n c) (hy : a.eval y = .int .i64 n) (hz : a.eval z = .int .i64 n) (h1 : n ≤ c) (h2 : ad = none → c = 0) (h : k.holds (.slice ad n n) w) : Stp Tryz.prog Q k o a w := by
  show Oper.wp _ _ _ _ _ _
  unfold Oper.wp
  have : (execOp a.eval o).run Tryz.prog w = .ok (.value (.slice ad n n)) w := by
    generalize a.eval = ρ at hx hy hz
    simp [execOp, hop, hx, hy, hz, run_sl3 w ad n c h1 h2, Result.andThen]
  rw [this]
  exact ⟨_, rfl, h, Below.refl _ _⟩
theorem run_buildW (w : World) : (Instr.build 46 #[]).run Tryz.prog w = .ok (wv 0) w := by
  rw [show wv 0 = .agg #[.bool false, .string ⟨#[]⟩] by unfold wv; rw [Cx.mg_zero]; rfl]
  simp [go_sem]
theorem run_slice1 (w : World) (n : Bool) (s : ByteArray) : (Instr.buildSlice 34 1 #[(0, .agg #[.bool n, .string s])]).run Tryz.prog w = .ok (.slice (some ⟨w.heap.size, 0, none⟩) 1 1) (w.alloc (.cells #[.bool n, .string s] 46)) :=
  build_run w _ _ _ _ _ _ 2 24 Tryz.underlying34 Tryz.infoW2 (by omega) (by omega) (by kernel_rfl)
theorem sl_one (w : World) (x : Int) (t : TypeId) : Sl (w.alloc (.cells #[.bool (decide (x < 0)), .string (mg x)] t)) 2 (.slice (some ⟨w.heap.size, 0, none⟩) 1 1) (wvs [x]) := by
  rw [wvs_one]
  exact slLit2 w t 2 [.bool (decide (x < 0)), .string (mg x)] 1 rfl (by unfold maxLen; omega)
theorem run_sub1 (w : World) (d : Int) (h0 : 0 ≤ d) (h1 : d ≤ 1000) : (Go.binOp .sub 3 (.int .i64 d) (.int .i64 1)).run Tryz.prog w = .ok (.int .i64 (d - 1)) w := by
  have h : IntKind.i64.wrap (d - 1) = d - 1 := IntWalk.i64_in _ (by omega)
  simp [go_sem, h]
theorem eg_sub (x y : Operand) (a b : Value) (w : World) : (eqGuard .sub 3 x y a b).run Tryz.prog w = .ok () w := by
  simp [go_sem, eqGuard]

end Go.Proofs.YtfcmpolhcpbliaaGreatDoor

namespace Go.Proofs.YtfcmpolhcpbliaaGreatDoor
open Go.RowKit Go.Cx
attribute [local go_sem ↓] Go.wp_at_zero Go.wp_at_succ

theorem ef_chains_Of : ∀ args w, (callFunc 30 args).run Tryz.prog w = .ok (.enter 30 args) w := enter_fn Tryz.func30 (by kernel_rfl) (by kernel_rfl)
theorem sl_cap {w : World} {st n c : Nat} {a : Option Addr} {xs : List Value} (h : Sl w st (.slice a n c) xs) : Sl w st (.slice a n n) xs := by
  obtain ⟨g1, g2, g3, g4, g5⟩ := h.open
  exact ⟨a, n, n, rfl, Nat.le_refl _, by omega, g3, fun e => by have := g4 e; omega, g5⟩
theorem simp_sgn (l : List Int) {x : Cl} (hx : x ∈ simpN l) : x.s.length ≤ 4 ∧ ∀ y ∈ x.s, y.g = 1 ∨ y.g = -1 := by
  unfold simpN simpK at hx
  obtain ⟨i, hi, rfl⟩ := List.mem_map.1 hx
  have hi := List.mem_range.1 hi
  have hl : ((allL ((l.take 12).map vsOf)).getD i []).length ≤ 4 := allL_ok _ (simpN_len l) _ (by rw [List.getD_eq_getElem?_getD, List.getElem?_eq_getElem hi]; exact List.getElem_mem _)
  refine ⟨?_, fun y hy => (sdsOf_mem (srtL_mem hy)).2.2⟩
  show (srtL _).length ≤ 4
  rw [srtL_len]
  simp only [sdsOf, List.length_map, List.length_range]
  split <;> omega
theorem ent_small (K : List Cl) (d : Int) (h : ∀ x ∈ K, x.s.length ≤ 4 ∧ ∀ y ∈ x.s, y.g = 1 ∨ y.g = -1) (i k : Nat) : (entK K d i k).natAbs ≤ 4 := by
  unfold entK colS
  cases hc : List.find? (fun x => x.id == (idsK K d).getD k 0) (cellsK K) with
  | none => show (se [] _).natAbs ≤ 4; simp [se, co]
  | some x =>
    have h2 := List.mem_of_find?_eq_some hc
    obtain ⟨y, hy, _, _, he⟩ := ordK_mem _ _ (nub_mem _ _ _ _ h2)
    have h3 := se_small x.s ((idsK K (d - 1)).getD i 0) (by rw [he]; exact fun z hz => (h y hy).2 z (srtL_mem hz))
    have h4 : x.s.length ≤ 4 := by rw [he, srtL_len]; exact (h y hy).1
    exact Nat.le_trans h3 h4
theorem nb5 {x : Int} (h : -5 ≤ x ∧ x ≤ 5) : nb x ≤ 8 := nb_int x (by omega) (by omega)
theorem tup_vec (v u : Value) (K : List Cl) (g : Int → Int) (N S : Nat) (d : Int) (us : List Int) (w : World) (h : (Fk.cx K).holds v w) (k : (Fk.cf g N S).holds u w) (hK : KOk K) (hKl : K.length ≤ 1000) (hb : S + N ≤ 1000000) (hin : ∀ c, g c ≠ 0 → ∃ x ∈ K, x.id = c ∧ x.dim = d) (hus : (idsOf K d).map g = us) :
    Calls Tryz.prog 16 #[v, .int .i64 d, u] w (Gives (.tup us) w) := by
  obtain ⟨L, k1, k2, k3, k4, k5⟩ := k
  refine (tChVec v u K (ctm L) d true S w h k5 hK k4 (by rw [ctm_len]; omega) hKl ⟨fun _ c hc => hin c (by rw [← k2]; rwa [prs_ctm] at hc), fun _ => rfl⟩).mono ?_
  rintro e w' ⟨r, rfl, hr, hb⟩
  refine ⟨_, rfl, ⟨r, rfl, ?_⟩, hb⟩
  rw [← hus]
  have : vecK K d (ctm L) true = (idsOf K d).map g := by
    unfold vecK
    rw [if_pos rfl, prs_ctm, show co L = g from funext k2]
  rw [this] at hr
  exact hr
theorem of_short (v u : Value) (K : List Cl) (d : Int) (vs : List Int) (w : World) (h : (Fk.cx K).holds v w) (k : Sl w 2 u (wvs vs)) (hK : KOk K) (hKl : K.length ≤ 1000) (hv : ∀ x ∈ vs, nb x ≤ 8) (hne : (idsOf K d).length ≠ vs.length) :
    Calls Tryz.prog 30 #[v, .int .i64 d, u] w (Gives (.val (.tuple #[.slice none 0 0, .bool false])) w) := by
  obtain ⟨x, m, rfl, h1, h2⟩ := h
  refine (chFrom x u m d vs w h1 k (by rw [← h2, List.length_map] at hKl; omega) (hK.cok h2) hv).mono ?_
  rintro e w' ⟨r, q, rfl, h3, _, h4, hb⟩
  rw [h2] at h3
  have hq : q = false := by
    cases q with
    | false => rfl
    | true => exact absurd (h3.1 rfl) hne
  subst hq
  exact ⟨_, rfl, by rw [h4 rfl]; rfl, hb⟩

set_option maxRecDepth 100000 in
set_option maxHeartbeats 8000000 in
theorem laVectors (v0 v1 : Value) (l la : List Int) (dim : Int) (w : World) (h0 : Sl w 1 v0 (ints l)) (h1 : Sl w 1 v1 (ints la)) :
    Calls Tryz.prog 6 #[v0, v1, .int .i64 dim] w fun e w' => e = .returned (.bool true) ∧ Below w.heap.size w w' := by
  obtain ⟨a0, k0, c0, rfl⟩ := sl_shape h0
  obtain ⟨a1, k1, c1, rfl⟩ := sl_shape h1
  have H := Lib.hid (And.intro h0 h1)
  clear h0 h1
  go_enter Tryz.func6, Tryz.ntmps6
  go_wp2_with fail
  refine (laSanity _).mono ?_
  rintro e w1 ⟨rfl, hb1⟩
  go_wp2_with fail
  refine (smSimplices _ l _ (H.out.1.keep hb1)).mono ?_
  rintro e w2 ⟨r, m, rfl, hm, hR, hb2⟩
  obtain ⟨ua, uc, hue⟩ := ownsRow_len hR.1
  subst hue
  have hB2 : Below w.heap.size w w2 := hb1.trans (hb2.mono hb1.size)
  have HC := Lib.hid (And.intro hm hR.slc)
  have HB2 := Lib.hid hB2
  clear hm hR hb1 hb2 hB2
  go_wp2_with fail
  obtain ⟨W0, hW0⟩ : ∃ W0, W0 = w2.alloc (.cells #[.slice ua m.length uc] 27) := ⟨_, rfl⟩
  rw [← hW0]
  obtain ⟨K, hKe⟩ : ∃ K, K = simpN l := ⟨_, rfl⟩
  have hBw : Below w.heap.size w W0 := by rw [hW0]; exact HB2.out.alloc HB2.out.size _
  have hcx : (Fk.cx K).holds (.agg #[.slice ua m.length uc]) W0 := by rw [hW0, hKe]; exact ⟨_, m, rfl, HC.out.2.mono fun p u hc => keepAl hc _, HC.out.1⟩
  have hsc : SlC W0 (.slice ua m.length uc) m := by rw [hW0]; exact HC.out.2.mono fun p u hc => keepAl hc _
  have hmK : m.map Ce.cl = K := by rw [hKe]; exact HC.out.1
  have hbv : Bv W0 w2.heap.size (.slice ua m.length uc) := by rw [hW0]; exact Bv.new w2 _ _
  have hok := simpN_ok l
  have hasc := simpN_asc l
  have hid := ids_simpN l
  rw [← hKe] at hok hasc hid
  obtain ⟨hK, hRw, hKl⟩ := hok
  have HX := Lib.hid (And.intro hcx (And.intro hsc (And.intro hmK (And.intro hbv (And.intro hBw (And.intro hasc (And.intro hid (And.intro hRw hKe))))))))
  clear hcx hsc hmK hbv hBw hW0 hasc hid hRw hKe
  have hml : m.length ≤ 180 := by rw [← HX.out.2.2.1, List.length_map] at hKl; exact hKl
  have hcok := hK.cok HX.out.2.2.1
  refine (svMod _ 5 _ (by decide) (by decide)).mono ?_
  rintro e w3 ⟨rfl, hb3⟩
  obtain ⟨d, hd⟩ : ∃ d : Int, d = dim % 5 := ⟨_, rfl⟩
  rw [← hd]
  have hd0 : 0 ≤ d ∧ d < 5 := by rw [hd]; exact ⟨Int.emod_nonneg _ (by decide), Int.emod_lt_of_pos _ (by decide)⟩
  have b3 := Cx.keep hb3 HX.out.2.2.2.1.1
  have HB3 := Lib.hid hb3
  clear hb3 hd
  go_wp2_with fail
  refine (smIds _ m d _ (HX.out.2.1.mono fun p u hc => Cx.keep HB3.out hc) (by omega) (fun x hx => (hcok x hx).2.1)).mono ?_
  rintro e w4 ⟨r4, rfl, hR4, hb4⟩
  obtain ⟨n, hn⟩ : ∃ n, n = (idsK (m.map Ce.cl) d).length := ⟨_, rfl⟩
  obtain ⟨ia, ic, hie⟩ := ownsRow_len hR4
  subst hie
  rw [← hn]
  have hn180 : n ≤ 180 := by
    rw [hn]
    unfold idsK cellsK
    rw [List.length_map]
    refine Nat.le_trans (List.length_filter_le _ _) (Nat.le_trans (nub_len _ _ _) ?_)
    rw [ordK_len, List.length_map]; exact hml
  have hnK : (idsK K d).length = n := by rw [hn, HX.out.2.2.1]
  have b4 := Cx.keep hb4 b3
  have hB4 : Below W0.heap.size W0 w4 := HB3.out.trans (hb4.mono HB3.out.size)
  have HN := Lib.hid (And.intro hnK hB4)
  clear hn hR4 hb4 b3 hnK hB4
  go_wp2_with fail
  refine (refList _ la n _ ((H.out.2.keep HX.out.2.2.2.2.1).keep HN.out.2) (by omega)).mono ?_
  rintro e w5 ⟨v9, vs, rfl, hvl, hv5, hv9, hb5⟩
  obtain ⟨va, vc, hve⟩ := ownsRow_len hv9
  subst hve
  have hs9 := Sl.of_ownsRow hv9
  have hvc : n ≤ vc ∧ (va = none → vc = 0) := by obtain ⟨g1, _, _, g4, _⟩ := hs9.open; exact ⟨g1, g4⟩
  have b5 := Cx.keep hb5 b4
  have hB5 : Below W0.heap.size W0 w5 := HN.out.2.trans (hb5.mono HN.out.2.size)
  have HV := Lib.hid (And.intro hvl (And.intro hv5 (And.intro hs9 hB5)))
  clear hvl hv5 hs9 hB5 hb5 hv9 b4
  have hlen : (idsOf K d).length = vs.length := by rw [← HX.out.2.2.2.2.2.2.1 d, HN.out.1, HV.out.1]
  have hcxk : ∀ w', Below W0.heap.size W0 w' → (Fk.cx K).holds (.agg #[.slice ua m.length uc]) w' := fun w' h => Fk.keep (k := .cx K) HX.out.1 h
  have HCX := Lib.hid hcxk
  clear hcxk
  go_wp2_with fail
  refine (chFrom _ _ m d vs _ (HX.out.2.1.mono fun p u hc => Cx.keep HV.out.2.2.2 hc) HV.out.2.2.1 (by omega) hcok (fun x hx => nb5 (HV.out.2.1 x hx))).mono ?_
  rintro e w6 ⟨v10, q, rfl, hq1, hq2, _, hb6⟩
  rw [HX.out.2.2.1] at hq1 hq2
  have hqt : q = true := hq1.2 hlen
  subst hqt
  obtain ⟨L, hLc, hLe, hLl, hLr⟩ := hq2 rfl
  obtain ⟨xa, xc, hxe⟩ := ownsRow_len hLr
  subst hxe
  obtain ⟨f, hf⟩ : ∃ f, f = co ((idsOf K d).zip vs) := ⟨_, rfl⟩
  rw [← hf] at hLe
  have hLf : co L = f := funext hLe
  have hfin : ∀ c, f c ≠ 0 → ∃ x ∈ K, x.id = c ∧ x.dim = d := fun c hc => by
    rw [hf, ← HX.out.2.2.2.2.2.2.1 d] at hc
    exact idsK_mem (zip_in hc)
  have hpw : (idsOf K d).Pairwise (· < ·) := by rw [← HX.out.2.2.2.2.2.2.1 d]; exact ids_pw HX.out.2.2.2.2.2.1 d
  have hLok : LOk 8 L := fun p hp => by
    have h1 : f p.1 = p.2 := by rw [← hLe, co_mem hLc.1 hp]
    have h2 : f p.1 ≠ 0 := by rw [h1]; exact hLc.2 p hp
    obtain ⟨y, hy, hye, _⟩ := hfin _ h2
    refine ⟨by rw [← hye]; exact (hK y hy).1.1, ?_⟩
    rw [← h1, hf]
    rw [hf] at h2
    obtain ⟨z, hz, hz1, hz2⟩ := co_pos h2
    have := co_mem (zip_pw hpw hlen) hz
    rw [hz1] at this
    rw [this]
    exact nb5 (HV.out.2.1 _ (List.of_mem_zip hz).2)
  have hs10 := Sl.of_ownsRow hLr
  have b6 := Cx.keep hb6 b5
  have HB56 := Lib.hid hb6
  have hB6 : Below W0.heap.size W0 w6 := HV.out.2.2.2.trans (hb6.mono HV.out.2.2.2.size)
  obtain ⟨xn, hxn⟩ : ∃ x, x = L.length := ⟨_, rfl⟩
  rw [← hxn] at hs10 ⊢
  have hxn180 : xn ≤ 180 := by rw [hxn]; rw [HV.out.1] at hLl; omega
  have HL := Lib.hid (And.intro hLc (And.intro hLf (And.intro hfin (And.intro hpw (And.intro hLok (And.intro hs10 (And.intro hB6 (And.intro hxn hf))))))))
  clear hLc hLe hLl hLr hLf hfin hpw hLok hs10 hB6 hb6 b5 hxn hf hq1 hq2
  go_wp2_with fail
  refine (tChVec _ _ K (ctm L) d true 8 _ (HCX.out _ HL.out.2.2.2.2.2.2.1) HL.out.2.2.2.2.2.1 hK HL.out.2.2.2.2.1.tok (by rw [ctm_len, ← HL.out.2.2.2.2.2.2.2.1]; omega) (by omega) ⟨fun _ c hc => HL.out.2.2.1 c (by rw [← HL.out.2.1]; rwa [prs_ctm] at hc), fun _ => rfl⟩).mono ?_
  rintro e w7 ⟨v12, rfl, hv12, hb7⟩
  have hvk : vecK K d (ctm L) true = vs := by
    unfold vecK
    rw [if_pos rfl, prs_ctm, HL.out.2.1, HL.out.2.2.2.2.2.2.2.2]
    exact zip_map HL.out.2.2.2.1 hlen
  rw [hvk] at hv12
  have b7 := Cx.keep hb7 b6
  have hB7 : Below W0.heap.size W0 w7 := HL.out.2.2.2.2.2.2.1.trans (hb7.mono HL.out.2.2.2.2.2.2.1.size)
  obtain ⟨v2a, v2n, v2c, rfl⟩ := sl_shape hv12
  have H7 := Lib.hid (And.intro hv12 (And.intro hb7 hB7))
  clear hvk hv12 hb7 hB7 b6
  go_upto_region 7 with fail
  go_cut [14, 15] from 45 to 59 (fun _ q wx => q = .bool false ∧ Hid (Below w7.heap.size w7 wx))
  case first =>
    rename_i J K2 hJ hK2
    have hB7 := H7.out.2.2
    have hk0 := HCX.out _ hB7
    have hbv := HX.out.2.2.2.1.keep hB7
    have hs9 : ∀ w', Below w7.heap.size w7 w' → Sl w' 2 (.slice va n n) (wvs vs) := fun w' h => sl_cap ((((HV.out.2.2.1.keep HB56.out).keep H7.out.2.1).keep h))
    have hv0 : ∀ x ∈ vs ++ [0], nb x ≤ 8 := fun x hx => by
      rcases List.mem_append.1 hx with hx | hx
      · exact nb5 (HV.out.2.1 x hx)
      · rw [List.mem_singleton.1 hx, nb_zero]; omega
    have hne : (idsOf K d).length ≠ (vs ++ [0]).length := by rw [hlen, List.length_append]; simp
    have hvc1 := hvc.1
    have hvc2 := hvc.2
    refine region_facts rfl (fun i v w => (([.cx K, .val (.int .i64 d), .val (.slice va n vc), .val (.slice va n vc), .val (.int .i64 (n : Nat)), .val (.slice va n vc), .val (.int .i64 (n : Nat)), .val (.slice va n n), .val (wv 0), .wd [0], .wd (vs ++ [0]), .val (.tuple #[.slice none 0 0, .bool false]), .val (.tuple #[.slice none 0 0, .bool false]), .val (.slice none 0 0), .val (.bool false), .val (.slice none 0 0), .val (.bool false)] : List Fk).getD i .any).holds v w) 112 rfl (by kernel_rfl) (by kernel_rfl) ?hF ?step ?done
    case hF => exact fun i v w w' h hb => Fk.keep h hb
    case step =>
      intro i o ho a w' hw hd hbase hsz
      have ht2 : (.int .i64 d : Value) = .int .i64 d := rfl
      have ht9 : (.slice va n vc : Value) = .slice va n vc := rfl
      have hp8 : (.pointer (some ⟨w2.heap.size, 0, none⟩) : Value) = .pointer (some ⟨w2.heap.size, 0, none⟩) := rfl
      match i, ho, hd with
      | 0, ho, hd =>
        obtain rfl := Option.some.inj ho
        exact ⟨rfl, stp_load _ _ rfl _ ((hbase 8 (noDst_spec (by kernel_rfl))).trans hp8) _ (ldK (hbv.keep hw)) (Fk.keep (k := .cx K) hk0 hw)⟩
      | 1, ho, hd =>
        obtain rfl := Option.some.inj ho
        exact ⟨rfl, stp_move _ (.inl rfl) ((hbase 2 (noDst_spec (by kernel_rfl))).trans ht2)⟩
      | 2, ho, hd =>
        obtain rfl := Option.some.inj ho
        exact ⟨rfl, stp_move _ (.inl rfl) ((hbase 9 (noDst_spec (by kernel_rfl))).trans ht9)⟩
      | 3, ho, hd =>
        obtain rfl := Option.some.inj ho
        exact ⟨rfl, stp_move _ (.inl rfl) ((hbase 9 (noDst_spec (by kernel_rfl))).trans ht9)⟩
      | 4, ho, hd =>
        obtain rfl := Option.some.inj ho
        have f0 : (Fk.val (.slice va n vc)).holds (a.tmps.getD 49 undef) w' := hd 3 _ _ rfl rfl (by kernel_rfl)
        exact ⟨rfl, stp_len _ rfl Tryz.underlying34 va n vc f0 rfl⟩
      | 5, ho, hd =>
        obtain rfl := Option.some.inj ho
        exact ⟨rfl, stp_move _ (.inl rfl) ((hbase 9 (noDst_spec (by kernel_rfl))).trans ht9)⟩
      | 6, ho, hd =>
        obtain rfl := Option.some.inj ho
        have f0 : (Fk.val (.slice va n vc)).holds (a.tmps.getD 51 undef) w' := hd 5 _ _ rfl rfl (by kernel_rfl)
        exact ⟨rfl, stp_len _ rfl Tryz.underlying34 va n vc f0 rfl⟩
      | 7, ho, hd =>
        obtain rfl := Option.some.inj ho
        have f0 : (Fk.val (.slice va n vc)).holds (a.tmps.getD 48 undef) w' := hd 2 _ _ rfl rfl (by kernel_rfl)
        have f1 : (Fk.val (.int .i64 (n : Nat))).holds (a.tmps.getD 50 undef) w' := hd 4 _ _ rfl rfl (by kernel_rfl)
        have f2 : (Fk.val (.int .i64 (n : Nat))).holds (a.tmps.getD 52 undef) w' := hd 6 _ _ rfl rfl (by kernel_rfl)
        exact ⟨rfl, stp_sl3 _ _ _ rfl va n vc f0 f1 f2 hvc1 hvc2 rfl⟩
      | 8, ho, hd =>
        obtain rfl := Option.some.inj ho
        exact ⟨rfl, stp_build _ _ rfl #[] (by simp) _ (run_buildW _) rfl⟩
      | 9, ho, hd =>
        obtain rfl := Option.some.inj ho
        have f0 : (Fk.val (wv 0)).holds (a.tmps.getD 54 undef) w' := hd 8 _ _ rfl rfl (by kernel_rfl)
        exact ⟨rfl, stp_slice _ 1 _ rfl #[(0, wv 0)] (by have h : a.tmps.getD 54 undef = wv 0 := f0; rw [Array.getD_eq_getD_getElem?] at h; simp [Act.eval, h]) _ _ (run_slice1 _ (decide ((0 : Int) < 0)) (mg 0)) (sl_one _ 0 _)⟩
      | 10, ho, hd =>
        obtain rfl := Option.some.inj ho
        have f0 : (Fk.val (.slice va n n)).holds (a.tmps.getD 53 undef) w' := hd 7 _ _ rfl rfl (by kernel_rfl)
        have f1 : (Fk.wd [0]).holds (a.tmps.getD 55 undef) w' := hd 9 _ _ rfl rfl (by kernel_rfl)
        exact ⟨rfl, stp_app1 (.tmp 53) (.tmp 55) rfl va n vs 0 _ f0 (hs9 _ hw) rfl f1 (by omega)⟩
      | 11, ho, hd =>
        obtain rfl := Option.some.inj ho
        have f0 : (Fk.cx K).holds (a.tmps.getD 46 undef) w' := hd 0 _ _ rfl rfl (by kernel_rfl)
        have f1 : (Fk.val (.int .i64 d)).holds (a.tmps.getD 47 undef) w' := hd 1 _ _ rfl rfl (by kernel_rfl)
        have f2 : (Fk.wd (vs ++ [0])).holds (a.tmps.getD 56 undef) w' := hd 10 _ _ rfl rfl (by kernel_rfl)
        exact ⟨rfl, stp_call _ _ _ rfl ef_chains_Of #[a.tmps.getD 46 undef, (.int .i64 d), a.tmps.getD 56 undef] (by simp [Act.eval, show a.tmps.getD 47 undef = (.int .i64 d) from f1]) (of_short _ _ K d (vs ++ [0]) _ f0 f2 hK (by omega) hv0 hne)⟩
      | 12, ho, hd =>
        obtain rfl := Option.some.inj ho
        have f0 : (Fk.val (.tuple #[.slice none 0 0, .bool false])).holds (a.tmps.getD 57 undef) w' := hd 11 _ _ rfl rfl (by kernel_rfl)
        exact ⟨rfl, stp_move _ (.inl rfl) f0⟩
      | 13, ho, hd =>
        obtain rfl := Option.some.inj ho
        have f0 : (Fk.val (.tuple #[.slice none 0 0, .bool false])).holds (a.tmps.getD 45 undef) w' := hd 12 _ _ rfl rfl (by kernel_rfl)
        exact ⟨rfl, stp_extract _ _ rfl _ f0 (.slice none 0 0) rfl rfl⟩
      | 14, ho, hd =>
        obtain rfl := Option.some.inj ho
        have f0 : (Fk.val (.tuple #[.slice none 0 0, .bool false])).holds (a.tmps.getD 45 undef) w' := hd 12 _ _ rfl rfl (by kernel_rfl)
        exact ⟨rfl, stp_extract _ _ rfl _ f0 (.bool false) rfl rfl⟩
      | 15, ho, hd =>
        obtain rfl := Option.some.inj ho
        have f0 : (Fk.val (.slice none 0 0)).holds (a.tmps.getD 58 undef) w' := hd 13 _ _ rfl rfl (by kernel_rfl)
        exact ⟨rfl, stp_move _ (.inr rfl) f0⟩
      | 16, ho, hd =>
        obtain rfl := Option.some.inj ho
        have f0 : (Fk.val (.bool false)).holds (a.tmps.getD 59 undef) w' := hd 14 _ _ rfl rfl (by kernel_rfl)
        exact ⟨rfl, stp_move _ (.inr rfl) f0⟩
      | i + 17, ho, hd =>
        have : i + 17 < 17 := (Array.getElem?_eq_some_iff.1 ho).1
        omega
    case done =>
      intro a w8 hsz hdf hf hbase hw
      have ht : a.tmps.getD 15 undef = .bool false := hf 16 _ _ rfl rfl
      refine hK2 _ _ (Met.intro (hJ _ _ ⟨a.tmps.getD 14 undef, a.tmps.getD 15 undef, a.tmps.getD 45 undef, a.tmps.getD 46 undef, a.tmps.getD 47 undef, a.tmps.getD 48 undef, a.tmps.getD 49 undef, a.tmps.getD 50 undef, a.tmps.getD 51 undef, a.tmps.getD 52 undef, a.tmps.getD 53 undef, a.tmps.getD 54 undef, a.tmps.getD 55 undef, a.tmps.getD 56 undef, a.tmps.getD 57 undef, a.tmps.getD 58 undef, a.tmps.getD 59 undef, ⟨ht, Lib.hid hw⟩, (act_lit hsz hdf hbase).trans ?_⟩))
      kernel_rfl
  case rest =>
    obtain ⟨rfl, hB8⟩ := hcut
    obtain ⟨w8, hw8⟩ : ∃ x : World, x = wc := ⟨_, rfl⟩
    subst hw8
    have hB08 : Below W0.heap.size W0 w8 := H7.out.2.2.trans (hB8.out.mono H7.out.2.2.size)
    have hv9 : ∀ w', Below w8.heap.size w8 w' → Sl w' 2 (.slice va n vc) (wvs vs) := fun w' h => (((HV.out.2.2.1.keep HB56.out).keep H7.out.2.1).keep hB8.out).keep h
    have hv10 : ∀ w', Below w8.heap.size w8 w' → Sl w' 3 (.slice xa xn xc) (tv (ctm L)) := fun w' h => ((HL.out.2.2.2.2.2.1.keep H7.out.2.1).keep hB8.out).keep h
    have hv12 : ∀ w', Below w8.heap.size w8 w' → Sl w' 2 (.slice v2a v2n v2c) (wvs vs) := fun w' h => (H7.out.1.keep hB8.out).keep h
    have hnv : ∀ x ∈ vs, nb x ≤ 1000 := fun x hx => Nat.le_trans (nb5 (HV.out.2.1 x hx)) (by decide)
    have H8 := Lib.hid (And.intro hB08 (And.intro hv9 (And.intro hv10 (And.intro hv12 hnv))))
    clear hB08 hv9 hv10 hv12 hnv b7
    go_wp2_with fail
    refine (refLists' _ _ vs _ (H8.out.2.1 _ (Below.refl _ _)) (H8.out.2.2.2.1 _ (Below.refl _ _)) H8.out.2.2.2.2).mono ?_
    rintro e w9 ⟨rb, rfl, hrb, hb9⟩
    obtain rfl : rb = .bool true := hrb
    have H9 := Lib.hid hb9
    clear hb9
    go_wp2_with fail
    refine (chCanon _ (ctm L) 8 _ (H8.out.2.2.1 _ H9.out) HL.out.2.2.2.2.1.tok (by rw [ctm_len, ← HL.out.2.2.2.2.2.2.2.1]; omega)).mono ?_
    rintro e w10 ⟨rcn, rfl, hcr⟩
    have hch : (Fk.ch L).holds rcn w10 := cres_ch hcr HL.out.1 fun c => by rw [prs_ctm]
    have hB10 : Below w8.heap.size w8 w10 := H9.out.trans (hcr.below.mono H9.out.size)
    obtain ⟨na, nn, nc, rfl⟩ := sl_shape hch
    have H10 := Lib.hid (And.intro hch hB10)
    clear hcr hch hB10
    go_wp2_with fail
    refine (svSame' _ _ L _ (H8.out.2.2.1 _ H10.out.2) H10.out.1).mono ?_
    rintro e w11 ⟨rb, rfl, hrb, hb11⟩
    obtain rfl : rb = .bool true := hrb
    have hB11 : Below w8.heap.size w8 w11 := H10.out.2.trans (hb11.mono H10.out.2.size)
    have hB011 : Below W0.heap.size W0 w11 := H8.out.1.trans (hB11.mono H8.out.1.size)
    have b11 := Cx.keep hB011 HX.out.2.2.2.1.1
    have H11 := Lib.hid (And.intro hB11 hB011)
    clear hb11 hB11 hB011
    go_wp2_with fail
    have hsg : ∀ x ∈ m, x.s.length ≤ 4 ∧ ∀ y ∈ x.s, y.g = 1 ∨ y.g = -1 := fun x hx => by
      have h1 : x.cl ∈ simpN l := by rw [← HX.out.2.2.2.2.2.2.2.2, ← HX.out.2.2.1]; exact List.mem_map.2 ⟨x, hx, rfl⟩
      exact simp_sgn l h1
    refine (mMatrix _ m d _ (HX.out.2.1.mono fun p u hc => Cx.keep H11.out.2 hc) hml (by rw [HX.out.2.2.1]; exact HX.out.2.2.2.2.2.1) (fun x hx => (hcok x hx).1.1) (fun x hx => (hsg x hx).1) (fun x hx => (hsg x hx).2) hd0.1 (by omega)).mono ?_
    rintro e w12 ⟨u, rfl, hu, hb12⟩
    rw [HX.out.2.2.1, HN.out.1] at hu ⊢
    obtain ⟨rr, hrr⟩ : ∃ x, x = (idsK K (d - 1)).length := ⟨_, rfl⟩
    rw [← hrr] at hu ⊢
    have hrr180 : rr ≤ 180 := by
      rw [hrr, ← HX.out.2.2.1]
      unfold idsK cellsK
      rw [List.length_map]
      refine Nat.le_trans (List.length_filter_le _ _) (Nat.le_trans (nub_len _ _ _) ?_)
      rw [ordK_len, List.length_map]; exact hml
    obtain ⟨A, hA⟩ : ∃ A, A = (List.range (rr * n)).map fun t => entK K d (t / n) (t % n) := ⟨_, rfl⟩
    rw [← hA] at hu
    have hAn : ∀ x ∈ A, nb x ≤ 8 := fun x hx => by
      rw [hA] at hx
      obtain ⟨t, _, rfl⟩ := List.mem_map.1 hx
      have := ent_small K d (fun x hx => by rw [HX.out.2.2.2.2.2.2.2.2] at hx; exact simp_sgn l hx) (t / n) (t % n)
      exact Nat.le_trans (nb_le _ 1 (by omega)) (by decide)
    have hB12 : Below w8.heap.size w8 w12 := H11.out.1.trans (hb12.mono H11.out.1.size)
    obtain ⟨ea, en, ec, rfl⟩ := sl_shape hu
    have H12 := Lib.hid (And.intro hA (And.intro hAn (And.intro hu (And.intro hB12 hrr))))
    clear hA hAn hu hb12 hB12 hrr hsg b11
    go_wp2_with fail
    refine (mApply rr n _ _ A vs _ H12.out.2.2.1 (H8.out.2.1 _ H12.out.2.2.2.1) (by rw [H12.out.1]; simp) HV.out.1 (by omega) (by omega) H12.out.2.1 (fun x hx => nb5 (HV.out.2.1 x hx))).mono ?_
    rintro e w13 ⟨vb, rfl, hvb, hb13⟩
    obtain ⟨G, hG⟩ : ∃ g : Int → Int, ∀ c, co (bdL (co (prs (ctm L))) (rawsK K)) c = g c := ⟨_, fun _ => rfl⟩
    obtain ⟨us, hus⟩ : ∃ us, us = (idsOf K (d - 1)).map G := ⟨_, rfl⟩
    have hbu : (List.range rr).map (fun i => dotp A vs n i n) = us := by
      rw [hus, ← HX.out.2.2.2.2.2.2.1 (d - 1)]
      refine List.ext_getElem? fun i => ?_
      rw [List.getElem?_map, List.getElem?_map]
      by_cases hi : i < rr
      · rw [List.getElem?_range hi]
        have hi' : i < (idsK K (d - 1)).length := by rw [← H12.out.2.2.2.2]; exact hi
        rw [List.getElem?_eq_getElem hi', Option.map_some, Option.map_some]
        congr 1
        have h1 := dot_bd HX.out.2.2.2.2.2.1 d vs (by rw [HN.out.1, HV.out.1]) i hi'
        rw [HN.out.1, ← H12.out.2.2.2.2, ← H12.out.1] at h1
        rw [h1, ← hG, prs_ctm, HL.out.2.1, HL.out.2.2.2.2.2.2.2.2, HX.out.2.2.2.2.2.2.1 d, List.getD_eq_getElem?_getD, List.getElem?_eq_getElem hi']
        rfl
      · rw [List.getElem?_eq_none (by simp; omega), List.getElem?_eq_none (by rw [← H12.out.2.2.2.2]; omega)]; rfl
    rw [hbu] at hvb
    have hun : ∀ x ∈ us, nb x ≤ 1000 := fun x hx => by
      rw [← hbu] at hx
      obtain ⟨i, _, rfl⟩ := List.mem_map.1 hx
      have := dotp_nb A vs n i H12.out.2.1 (fun x hx => nb5 (HV.out.2.1 x hx)) n
      omega
    have hGin : ∀ c, G c ≠ 0 → ∃ x ∈ K, x.id = c ∧ x.dim = d - 1 := fun c hc => by
      rw [← hG, prs_ctm, HL.out.2.1] at hc
      have h1 := HL.out.2.2.1
      rw [HX.out.2.2.2.2.2.2.2.2] at hc h1 ⊢
      exact bd_dim l d f h1 c hc
    have hB13 : Below w8.heap.size w8 w13 := H12.out.2.2.2.1.trans (hb13.mono H12.out.2.2.2.1.size)
    obtain ⟨ba, bn, bc, rfl⟩ := sl_shape hvb
    have H13 := Lib.hid (And.intro hG (And.intro hus (And.intro hvb (And.intro hun (And.intro hGin hB13)))))
    clear hG hus hvb hun hGin hB13 hbu hb13
    go_upto_region 11 with fail
    go_cut [18, 19] from 90 to 99 (fun p q wx => Hid ((Fk.wd us).holds p wx) ∧ q = .bool true ∧ Hid (Below w13.heap.size w13 wx))
    case first =>
      rename_i J K2 hJ hK2
      obtain ⟨hG, hus, hvb, hun, hGin, hB13⟩ := H13.out
      have hB013 : Below W0.heap.size W0 w13 := H8.out.1.trans (hB13.mono H8.out.1.size)
      have hk0 := HCX.out _ hB013
      have hbv := HX.out.2.2.2.1.keep hB013
      have hv10 : ∀ w', Below w13.heap.size w13 w' → Sl w' 3 (.slice xa xn xc) (tv (ctm L)) := fun w' h => (H8.out.2.2.1 _ hB13).keep h
      have qt := HL.out.2.2.2.2.1.tok
      have hN1 : (ctm L).length = xn := by rw [ctm_len, HL.out.2.2.2.2.2.2.2.1]
      have hR := HX.out.2.2.2.2.2.2.2.1
      have hd1 : d ≤ 1000 := by omega
      refine region_facts rfl (fun i v w => (([.cx K, .val (.int .i64 d), .val (.int .i64 (d - 1)), .cx K, .val (.slice xa xn xc), .cf G 720 1200, .tup us, .tup us, .wd us, .tt, .wd us, .tt] : List Fk).getD i .any).holds v w) 112 rfl (by kernel_rfl) (by kernel_rfl) ?hF2 ?step2 ?done2
      case hF2 => exact fun i v w w' h hb => Fk.keep h hb
      case step2 =>
        intro i o ho a w' hw hd hbase hsz
        have ht2 : (.int .i64 d : Value) = .int .i64 d := rfl
        have ht10 : (.slice xa xn xc : Value) = .slice xa xn xc := rfl
        have hp8 : (.pointer (some ⟨w2.heap.size, 0, none⟩) : Value) = .pointer (some ⟨w2.heap.size, 0, none⟩) := rfl
        match i, ho, hd with
        | 0, ho, hd =>
          obtain rfl := Option.some.inj ho
          exact ⟨rfl, stp_load _ _ rfl _ ((hbase 8 (noDst_spec (by kernel_rfl))).trans hp8) _ (ldK (hbv.keep hw)) (Fk.keep (k := .cx K) hk0 hw)⟩
        | 1, ho, hd =>
          obtain rfl := Option.some.inj ho
          exact ⟨rfl, stp_move _ (.inl rfl) ((hbase 2 (noDst_spec (by kernel_rfl))).trans ht2)⟩
        | 2, ho, hd =>
          obtain rfl := Option.some.inj ho
          have f0 : (Fk.val (.int .i64 d)).holds (a.tmps.getD 92 undef) w' := hd 1 _ _ rfl rfl (by kernel_rfl)
          exact ⟨rfl, stp_bin _ _ _ _ _ rfl _ _ f0 rfl _ (eg_sub _ _ _ _ _) (run_sub1 _ _ hd0.1 hd1) rfl⟩
        | 3, ho, hd =>
          obtain rfl := Option.some.inj ho
          exact ⟨rfl, stp_load _ _ rfl _ ((hbase 8 (noDst_spec (by kernel_rfl))).trans hp8) _ (ldK (hbv.keep hw)) (Fk.keep (k := .cx K) hk0 hw)⟩
        | 4, ho, hd =>
          obtain rfl := Option.some.inj ho
          exact ⟨rfl, stp_move _ (.inl rfl) ((hbase 10 (noDst_spec (by kernel_rfl))).trans ht10)⟩
        | 5, ho, hd =>
          obtain rfl := Option.some.inj ho
          have f0 : (Fk.cx K).holds (a.tmps.getD 94 undef) w' := hd 3 _ _ rfl rfl (by kernel_rfl)
          have f1 : (Fk.val (.slice xa xn xc)).holds (a.tmps.getD 95 undef) w' := hd 4 _ _ rfl rfl (by kernel_rfl)
          exact ⟨rfl, stp_call _ _ _ rfl ef_chains_Boundary #[a.tmps.getD 94 undef, (.slice xa xn xc)] (by simp [Act.eval, show a.tmps.getD 95 undef = (.slice xa xn xc) from f1]) (tBd _ _ K (ctm L) G xn 8 720 1200 _ f0 (hv10 _ hw) hK qt hN1 hR (by omega) (by omega) hG)⟩
        | 6, ho, hd =>
          obtain rfl := Option.some.inj ho
          have f0 : (Fk.cx K).holds (a.tmps.getD 91 undef) w' := hd 0 _ _ rfl rfl (by kernel_rfl)
          have f1 : (Fk.val (.int .i64 (d - 1))).holds (a.tmps.getD 93 undef) w' := hd 2 _ _ rfl rfl (by kernel_rfl)
          have f2 : (Fk.cf G 720 1200).holds (a.tmps.getD 96 undef) w' := hd 5 _ _ rfl rfl (by kernel_rfl)
          exact ⟨rfl, stp_call _ _ _ rfl ef_chains_Vector #[a.tmps.getD 91 undef, (.int .i64 (d - 1)), a.tmps.getD 96 undef] (by simp [Act.eval, show a.tmps.getD 93 undef = (.int .i64 (d - 1)) from f1]) (tup_vec _ _ K G 720 1200 (d - 1) us _ f0 f2 hK (by omega) (by omega) hGin hus.symm)⟩
        | 7, ho, hd =>
          obtain rfl := Option.some.inj ho
          have f0 : (Fk.tup us).holds (a.tmps.getD 97 undef) w' := hd 6 _ _ rfl rfl (by kernel_rfl)
          exact ⟨rfl, stp_move _ (.inl rfl) f0⟩
        | 8, ho, hd =>
          obtain rfl := Option.some.inj ho
          obtain ⟨r, h1, h2⟩ : (Fk.tup us).holds (a.tmps.getD 90 undef) w' := hd 7 _ _ rfl rfl (by kernel_rfl)
          exact ⟨rfl, stp_extract _ _ rfl _ h1 r rfl h2⟩
        | 9, ho, hd =>
          obtain rfl := Option.some.inj ho
          obtain ⟨r, h1, _⟩ : (Fk.tup us).holds (a.tmps.getD 90 undef) w' := hd 7 _ _ rfl rfl (by kernel_rfl)
          exact ⟨rfl, stp_extract _ _ rfl _ h1 (.bool true) rfl rfl⟩
        | 10, ho, hd =>
          obtain rfl := Option.some.inj ho
          have f0 : (Fk.wd us).holds (a.tmps.getD 98 undef) w' := hd 8 _ _ rfl rfl (by kernel_rfl)
          exact ⟨rfl, stp_move _ (.inr rfl) f0⟩
        | 11, ho, hd =>
          obtain rfl := Option.some.inj ho
          have f0 : (Fk.tt).holds (a.tmps.getD 99 undef) w' := hd 9 _ _ rfl rfl (by kernel_rfl)
          exact ⟨rfl, stp_move _ (.inr rfl) f0⟩
        | i + 12, ho, hd =>
          have : i + 12 < 12 := (Array.getElem?_eq_some_iff.1 ho).1
          omega
      case done2 =>
        intro a w14 hsz hdf hf hbase hw
        have ht : (Fk.wd us).holds (a.tmps.getD 18 undef) w14 := hf 10 _ _ rfl rfl
        have ht2 : a.tmps.getD 19 undef = .bool true := hf 11 _ _ rfl rfl
        refine hK2 _ _ (Met.intro (hJ _ _ ⟨a.tmps.getD 18 undef, a.tmps.getD 19 undef, a.tmps.getD 90 undef, a.tmps.getD 91 undef, a.tmps.getD 92 undef, a.tmps.getD 93 undef, a.tmps.getD 94 undef, a.tmps.getD 95 undef, a.tmps.getD 96 undef, a.tmps.getD 97 undef, a.tmps.getD 98 undef, a.tmps.getD 99 undef, ⟨Lib.hid ht, ht2, Lib.hid hw⟩, (act_lit hsz hdf hbase).trans ?_⟩))
        kernel_rfl
    case rest =>
      obtain ⟨hu, rfl, hB14⟩ := hcut
      go_wp2_with fail
      refine (refLists' _ _ us _ (H13.out.2.2.1.keep hB14.out) hu.out H13.out.2.2.2.1).mono ?_
      rintro e w15 ⟨rb, rfl, hrb, hb15⟩
      obtain rfl : rb = .bool true := hrb
      have hBf := HX.out.2.2.2.2.1.trans ((H8.out.1.trans ((H13.out.2.2.2.2.2.trans ((hB14.out.trans (hb15.mono hB14.out.size)).mono H13.out.2.2.2.2.2.size)).mono H8.out.1.size)).mono HX.out.2.2.2.2.1.size)
      have HBF := Lib.hid hBf
      clear hBf hb15
      go_wp2_with fail
      go_ret
      exact ⟨rfl, HBF.out⟩

end Go.Proofs.YtfcmpolhcpbliaaGreatDoor
