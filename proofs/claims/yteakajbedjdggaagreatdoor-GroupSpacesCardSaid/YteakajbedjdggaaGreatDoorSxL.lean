import Derived.Test.YteakajbedjdggaaGreatDoorSxK
/-
  A region whose operations come up in their order.
-/
namespace Go.Sx
open Go Go.RowKit
section
variable {P : Program} {hd : Hand} {ih : Run}

noncomputable def tmPut (tm : T V) (d : Option Tmp) (v : V) : T V := match d with
  | none => tm
  | some d => tm.put (I.of d) (some v)
theorem putD_eq {d : Option Tmp} {tm : T V} {v : V} {k : T V → Bool} : putD (d.map I.of) tm v k = k (tmPut tm d v) := by
  cases d with
  | none => rfl
  | some d => exact T.putK_eq _ _ _ _
theorem AR.put {e : Env} {n : Nat} {tm : T V} {df : List I} {a : Act} (r : AR e n tm df a) {d : Option Tmp} (hd : ∀ t, d = some t → t < n) {v : V} {x : Value} (hv : den e v = some x) : AR e n (tmPut tm d v) df (a.put d x) := by
  cases d with
  | none => exact r
  | some t =>
    refine ⟨?_, r.tm.put (by rw [r.size]; exact hd t rfl) hv, r.df⟩
    show (a.tmps.setIfInBounds t x).size = n
    simpa using r.size
theorem den_to_bool {e : Env} {v : V} {b : Bool} (h : den e v = some (.bool b)) : v = .bool b := by
  cases v <;> simp only [den, Option.map_eq_some_iff, Option.bind_eq_some_iff, Option.some.injEq] at h <;> first
    | (cases h; rfl)
    | (cases h; done)
    | (obtain ⟨_, _, hx⟩ := h; cases hx; done)
    | (obtain ⟨_, _, _, _, hx⟩ := h; cases hx; done)
theorem wantB_eq' {ops : Array Oper} {o : Oper} {e : Env} {tm : T V} {tmps : Array Value} (r : ∀ j w t, o.guard = some (j, w) → (ops[j]?).bind (·.dst) = some t → den e (tmV tm t) = some (tmps.getD t undef)) : wantB (gdOf ops o) tm = Region.wanted o (yielded ops tmps) := by
  unfold gdOf Region.wanted
  cases hg : o.guard with
  | none => rfl
  | some jw =>
    obtain ⟨j, w⟩ := jw
    simp only
    unfold yielded
    cases ht : (ops[j]?).bind (·.dst) with
    | none =>
      show false = _
      cases w <;> rfl
    | some t =>
      show evT (I.of t) tm (eqBv w) = _
      have hev : evT (I.of t) tm (eqBv w) = eqBv w (tmV tm t) := by
        unfold evT onTm tmV
        cases tm.get (I.of t) <;> rfl
      rw [hev]
      have hr := r j w t hg ht
      rw [Array.getD_eq_getD_getElem?] at hr
      simp only [Option.bind_some]
      have key : ∀ v x, den e v = some x → eqBv w v = ((match (some x : Option Value) with | some (.bool b) => some b | _ => none) == some w) := by
        intro v x hx
        cases x <;> first
          | (rename_i b; have := den_to_bool hx; subst this; cases w <;> cases b <;> rfl)
          | (cases v <;> first
              | (cases w <;> rfl)
              | (simp [den] at hx; done))
      cases hx : tmps[t]? with
      | some x =>
        rw [hx] at hr
        exact key _ _ hr
      | none =>
        rw [hx] at hr
        have := key _ _ hr
        rw [this]
        rfl
theorem wantB_eq {ops : Array Oper} {o : Oper} {e : Env} {tm : T V} {tmps : Array Value} (r : TmR e tm tmps) : wantB (gdOf ops o) tm = Region.wanted o (yielded ops tmps) := wantB_eq' fun _ _ t _ _ => r t
theorem dst_of {ops : Array Oper} {n : Nat} (h : dstOk n ops = true) {i : Nat} {o : Oper} (ho : ops[i]? = some o) : ∀ t, o.dst = some t → t < n := by
  intro t ht
  have hm : o ∈ ops.toList := by
    rw [← Array.getElem?_toList] at ho
    exact List.mem_of_getElem? ho
  have := List.all_eq_true.1 h o hm
  rw [ht] at this
  simpa using this
/-- one operation, as the walk of a region meets it -/
def OneS (P : Program) (o : Oper) (tm : T V) (h : H) (nx : I) (v : V) (h' : H) (nx' : I) : Prop :=
  nx.nat ≤ nx'.nat ∧ ∀ n0 e (a : Act) w, TmO o.op e tm a.tmps → Sat n0 e h w → Fresh nx nx' e → ∀ ro (K : Act → World → Prop) (Q : Exit → Act → World → Prop),
    (∀ e' x w', den e' v = some x → Stp n0 e h w nx e' h' w' nx' → K (a.put o.dst x) w') → o.wpIn (FW ro) 0 P a w K Q
theorem one_q {o : Oper} {tm : T V} {h : H} {nx : I} {v : V} (hq : QS P o.op tm h v) (hdf : ∀ c, o.op ≠ .defer c) : OneS P o tm h nx v h nx :=
  ⟨Nat.le_refl _, fun n0 e a w tr st _ ro K Q hK => by
    obtain ⟨x, hx, hr⟩ := hq n0 e a w o rfl tr st.rd
    exact wpIn_value hdf hr (hK e x w hx (Stp.refl st))⟩
theorem one_a {o : Oper} {tm : T V} {h : H} {nx : I} {v : V} {b : B} (ha : AS P o.op tm nx v b) (hdf : ∀ c, o.op ≠ .defer c) : OneS P o tm h nx v (h.put nx (some b)) nx.inc :=
  ⟨by rw [I.nat_inc]; omega, fun n0 e a w tr st fr ro K Q hK => by
    have hn : e nx = none := fr nx (Nat.le_refl _) (by rw [I.nat_inc]; omega)
    obtain ⟨q, x, w', hr, hq, hnew, hx, hb⟩ := ha e a w o rfl tr hn
    exact wpIn_value hdf hr (hK _ x w' hx (Stp.new st hn hnew hq hb))⟩
theorem one_e {o : Oper} {tm : T V} {h : H} {nx : I} {v : V} {h' : H} {nx' : I} (he : ES P o.op tm h nx v h' nx') : OneS P o tm h nx v h' nx' :=
  ⟨he.1, fun n0 e a w tr st fr ro K Q hK => he.2 n0 e a w o rfl tr st fr ro K Q hK⟩
theorem noDefQ {o : Op} {tm : T V} {h : H} {k : V → Bool} (hk : opQ o P tm h k = true) : ∀ c, o ≠ .defer c := fun c hh => by
  rw [hh] at hk; exact absurd hk Bool.false_ne_true
theorem noDefA {o : Op} {tm : T V} {nx : I} {k : V → B → Bool} (hk : opA o P tm nx k = true) : ∀ c, o ≠ .defer c := fun c hh => by
  rw [hh] at hk; exact absurd hk Bool.false_ne_true
/-- A PLAIN REGION -/
theorem seqO_ok (hih : IH P ih) (hho : HO P hd) {ops : Array Oper} {n : Nat} (hdst : dstOk n ops = true) : ∀ (l : List Oper) (k : Nat) {tm : T V} {h : H} {nx : I} {K : KT}, (∀ j, l[j]? = ops[k + j]?) → seqO (l.map (poOf P ops)) P hd ih tm h nx K = true →
    ∃ tm' h' nx', K tm' h' nx' = true ∧ nx.nat ≤ nx'.nat ∧ ∀ n0 e a w ro df, Sat n0 e h w → AR e n tm df a → Fresh nx nx' e → ∀ Q : Exit → Act → World → Prop,
      (∀ e' a' w', Stp n0 e h w nx e' h' w' nx' → AR e' n tm' df a' → Q .normal a' w') → wpOpsIn (FW ro) 0 P ops Q (List.range' k l.length) a w
  | [], k, tm, h, nx, K, _, hk => ⟨tm, h, nx, hk, Nat.le_refl _, fun n0 e a w ro df st ar _ Q hQ => hQ e a w (Stp.refl st) ar⟩
  | o :: l, k, tm, h, nx, K, hl, hk => by
    have h0 : ops[k]? = some o := by simpa using (hl 0).symm
    have hl' : ∀ j, l[j]? = ops[(k + 1) + j]? := fun j => by
      have := hl (j + 1)
      simpa [Nat.add_assoc, Nat.add_comm 1 j] using this
    have hd0 := dst_of hdst h0
    have hk : br (wantB (gdOf ops o) tm) (sDo (cls P o.op) (poOf P ops o) (seqO (l.map (poOf P ops))) P hd ih tm h nx K) (putD (o.dst.map I.of) tm V.un fun tm => seqO (l.map (poOf P ops)) P hd ih tm h nx K) = true := hk
    rcases br_cases hk with ⟨hw, hk⟩ | ⟨hw, hk⟩
    · -- it is wanted
      have step : ∃ v h1 nx1, OneS P o tm h nx v h1 nx1 ∧ seqO (l.map (poOf P ops)) P hd ih (tmPut tm o.dst v) h1 nx1 K = true := by
        cases hc : cls P o.op with
        | q =>
          rw [hc] at hk
          have hk : opQ o.op P tm h (fun v => putD (o.dst.map I.of) tm v fun tm => seqO (l.map (poOf P ops)) P hd ih tm h nx K) = true := hk
          obtain ⟨v, hk1, hq⟩ := opQ_ok hk
          rw [putD_eq] at hk1
          exact ⟨v, h, nx, one_q hq (noDefQ hk), hk1⟩
        | a =>
          rw [hc] at hk
          have hk : opA o.op P tm nx (fun v b => putD (o.dst.map I.of) tm v fun tm => h.putK nx (some b) fun h => seqO (l.map (poOf P ops)) P hd ih tm h nx.inc K) = true := hk
          obtain ⟨v, b, hk1, ha⟩ := opA_ok hk
          rw [putD_eq, T.putK_eq] at hk1
          exact ⟨v, _, _, one_a ha (noDefA hk), hk1⟩
        | e =>
          rw [hc] at hk
          have hk : opE o.op P hd ih tm h nx (fun v h nx => putD (o.dst.map I.of) tm v fun tm => seqO (l.map (poOf P ops)) P hd ih tm h nx K) = true := hk
          obtain ⟨v, h1, nx1, hk1, he⟩ := opE_ok hih hho hk
          rw [putD_eq] at hk1
          exact ⟨v, h1, nx1, one_e he, hk1⟩
      obtain ⟨v, h1, nx1, ⟨hn1, hone⟩, hk⟩ := step
      obtain ⟨tm', h', nx', hK, hn2, hf⟩ := seqO_ok hih hho hdst l (k + 1) hl' hk
      refine ⟨tm', h', nx', hK, Nat.le_trans hn1 hn2, fun n0 e a w ro df st ar fr Q hQ => ?_⟩
      rw [List.length_cons, List.range'_succ, wpOpsIn_cons]
      unfold wpOpIn
      rw [h0]
      have hwant : Region.wanted o (yielded ops a.tmps) = true := by rw [← wantB_eq ar.tm]; exact hw
      simp only [hwant, if_true]
      refine hone n0 e a w (ar.tm.op _) st (fr.left hn2) ro _ Q fun e1 x w1 hx st1 => ?_
      exact hf n0 e1 _ w1 ro df st1.sat ((ar.mono st1.le).put hd0 hx) (st1.fresh fr) Q fun e' a' w' st' ar' => hQ e' a' w' (st1.trans st') ar'
    · rw [putD_eq] at hk
      obtain ⟨tm', h', nx', hK, hn2, hf⟩ := seqO_ok hih hho hdst l (k + 1) hl' hk
      refine ⟨tm', h', nx', hK, hn2, fun n0 e a w ro df st ar fr Q hQ => ?_⟩
      rw [List.length_cons, List.range'_succ, wpOpsIn_cons]
      unfold wpOpIn
      rw [h0]
      have hwant : Region.wanted o (yielded ops a.tmps) = false := by rw [← wantB_eq ar.tm]; exact hw
      simp only [hwant, Bool.false_eq_true, if_false]
      exact ⟨fun _ _ => trivial, hf n0 e _ w ro df st (ar.put hd0 den_un) fr Q hQ⟩
end
end Go.Sx
