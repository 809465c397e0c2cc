import Derived.Maps.RangeRun
import Derived.Test.YteakajbedjdggaaGreatDoorSyA
/-
  Ranges over maps, in whatever order: a runner that follows every one.
-/
noncomputable section
namespace Go.Sx
open Go Go.RowKit

/-- an iterator over a map: its block, the map, where it stands -/
structure It where
  id : I
  m : I
  since : Nat
  seen : List Nat
  c0 : Nat
abbrev KN := X → T V → H → I → List I → Option It → Bool
abbrev RunN := Code → T V → H → I → List I → Option It → KN → Bool
abbrev KO := T V → H → I → Option It → Bool
def isMapT (P : Program) (t : TypeId) : Bool := match P.underlying t with
  | some (.map _ _) => true
  | _ => false
def memN (n : Nat) (l : List Nat) : Bool := List.rec (motive := fun _ => Bool) false (fun x _ ih => Bool.rec ih true (Nat.beq x n)) l
/-- births rise, and lie below c -/
def bornK (c : Nat) (es : List (V × V × Nat)) : Nat → Bool := List.rec (motive := fun _ => Nat → Bool) (fun _ => true) (fun x _ ih lo => gd (Nat.ble lo (brnK x)) (gd (Nat.blt (brnK x) c) (ih (Nat.succ (brnK x))))) es
def seenAll (seen : List Nat) (es : List (V × V × Nat)) : Bool := List.rec (motive := fun _ => Bool) true (fun x _ ih => gd (memN (brnK x) seen) ih) es
def leftAll (seen : List Nat) (es : List (V × V × Nat)) (f : V × V × Nat → Bool) : Bool := List.rec (motive := fun _ => Bool) true (fun x _ ih => gd (Bool.rec (f x) true (memN (brnK x) seen)) ih) es
def lastN (l : List Nat) : Option Nat := List.rec (motive := fun _ => Option Nat) none (fun x _ ih => Option.rec (some x) (fun y => some y) ih) l
def findB (b : Nat) (es : List (V × V × Nat)) : Option (V × V × Nat) := List.rec (motive := fun _ => Option (V × V × Nat)) none (fun x _ ih => Bool.rec ih (some x) (Nat.beq (brnK x) b)) es
def nRange (p : PO) (t : TypeId) (m : Operand) (P : Program) (tm : T V) (h : H) (nx : I) (k : KO) : Bool := gd (isMapT P t) (ev m tm fun v => onMap v fun r => onMp (h.get r) fun _ ck => putD p.dst tm (.ptr nx 0) fun tm => k tm h nx.inc (some ⟨nx, r, ck, [], ck⟩))
def nNext (p : PO) (x : Operand) (tm : T V) (h : H) (nx : I) (it : Option It) (k : KO) : Bool := ev x tm fun v => onPtr v fun i o => gd (Nat.beq o 0) (onS it fun t => gd (I.same i t.id) (onMp (h.get t.m) fun es ck => gd (bornK t.since es 0) (gd (Nat.ble t.since t.c0)
  (br (seenAll t.seen es) (putD p.dst tm (.tup [.bool false]) fun tm => k tm h nx it)
    (leftAll t.seen es fun e => putD p.dst tm (.tup [.bool true, fstK e, valK e]) fun tm => k tm h nx (some ⟨t.id, t.m, t.since, t.seen ++ [brnK e], ck⟩))))))
def nEntry (p : PO) (x : Operand) (tm : T V) (h : H) (nx : I) (it : Option It) (k : KO) : Bool := ev x tm fun v => onPtr v fun i o => gd (Nat.beq o 0) (onS it fun t => gd (I.same i t.id) (onMp (h.get t.m) fun es ck => gd (Nat.beq ck t.c0) (gd (bornK ck es 0) (onS (lastN t.seen) fun b => onS (findB b es) fun e =>
  putD p.dst tm (.tup [fstK e, valK e]) fun tm => k tm h nx it))))
def oneN (p : PO) (P : Program) (hd : Hand) (ih : Run) (tm : T V) (h : H) (nx : I) (it : Option It) (k : KO) : Bool := match p.op with
  | .range t m => nRange p t m P tm h nx k
  | .next x false => nNext p x tm h nx it k
  | .entry x => nEntry p x tm h nx it k
  | _ => sDo p.cl p (fun _ _ _ tm h nx k => k tm h nx) P hd ih tm h nx fun tm h nx => k tm h nx it
def seqN (P : Program) (hd : Hand) (ih : Run) : List PO → T V → H → I → Option It → KO → Bool
  | [], tm, h, nx, it, k => k tm h nx it
  | p :: l, tm, h, nx, it, k => br (wantB p.gd tm) (oneN p P hd ih tm h nx it fun tm h nx it => seqN P hd ih l tm h nx it k) (putD p.dst tm V.un fun tm => seqN P hd ih l tm h nx it k)
def stepN (P : Program) (hd : Hand) (ih : Run) (n : Nat) (rec : RunN) (c : Code) (tm : T V) (h : H) (nx : I) (df : List I) (it : Option It) (k : KN) : Bool := match c with
  | .skip => k .nrm tm h nx df it
  | .label _ => k .nrm tm h nx df it
  | .exit i => k (.exit i) tm h nx df it
  | .goto l => k (.goto l) tm h nx df it
  | .ret => k .ret tm h nx df it
  | .region _ ops d => gd (dstOk n ops) (br d (drawR P hd ih ops tm h nx fun tm h nx => k .nrm tm h nx df it) (seqN P hd ih (poL P ops) tm h nx it fun tm h nx it => k .nrm tm h nx df it))
  | .seq a b => rec a tm h nx df it fun x tm h nx df it => match x with
    | .nrm => rec b tm h nx df it k
    | .exit i => k (.exit i) tm h nx df it
    | .goto l => k (.goto l) tm h nx df it
    | .ret => k .ret tm h nx df it
  | .cond c a b => ev c tm fun v => onBool v fun t => br t (rec a tm h nx df it k) (rec b tm h nx df it k)
  | .block id b => rec b tm h nx df it fun x tm h nx df it => match x with
    | .nrm => k .nrm tm h nx df it
    | .exit i => br (Nat.beq i id) (k .nrm tm h nx df it) (k (.exit i) tm h nx df it)
    | .goto l => k (.goto l) tm h nx df it
    | .ret => k .ret tm h nx df it
  | .loop b => rec b tm h nx df it fun x tm h nx df it => match x with
    | .nrm => rec (.loop b) tm h nx df it k
    | .exit i => k (.exit i) tm h nx df it
    | .goto l => k (.goto l) tm h nx df it
    | .ret => k .ret tm h nx df it
  | _ => false
def runN (P : Program) (hd : Hand) (ih : Run) (n : Nat) : Nat → RunN
  | 0 => fun _ _ _ _ _ _ _ => false
  | f + 1 => stepN P hd ih n (runN P hd ih n f)
def callN (P : Program) (hd : Hand) (ih : Run) (fuel : Nat) (f : FuncId) (args : List V) (h : H) (nx : I) (k : KC) : Bool :=
  onS (fiOf P f) fun fi => gd (Nat.ble (lenL args) fi.n) (argK args .z .lf fun tm => runN P hd ih fi.n fuel fi.body tm h nx [] none fun x tm h nx df _ => match x with
    | .nrm => takeDf df h fun h => resK P fi.res tm h fun l => oneK l fun v => k v h nx
    | .ret => takeDf df h fun h => resK P fi.res tm h fun l => oneK l fun v => k v h nx
    | _ => false)

/-! meaning -/
def ItR (B : Nat) (e : Env) (h : H) (w : World) : Option It → Prop
  | none => True
  | some t => ∃ q m, e t.id = some q ∧ e t.m = some m ∧ B ≤ q.blk ∧ w.heap[q.blk]? = some (.mapIter (some m.blk) t.since t.seen.toArray t.c0) ∧ Out e h q.blk
structure GN (n0 : Nat) (e0 : Env) (h0 : H) (w0 : World) (nx0 : I) (e : Env) (h : H) (w : World) (nx : I) (it : Option It) : Prop where
  st : Stp n0 e0 h0 w0 nx0 e h w nx
  fa : ∀ b : I, nx.nat ≤ b.nat → e b = none
  it : ItR w0.heap.size e h w it
section
variable {n0 : Nat} {e0 : Env} {h0 : H} {w0 : World} {nx0 : I}
theorem lt_of_some {w : World} {b : Nat} {o : Obj} (h : w.heap[b]? = some o) : b < w.heap.size := (Array.getElem?_eq_some_iff.1 h).1
theorem GN.fresh {e : Env} {h : H} {w : World} {nx : I} {it : Option It} (g : GN n0 e0 h0 w0 nx0 e h w nx it) (nx' : I) : Fresh nx nx' e := fun b hb _ => g.fa b hb
theorem GN.det {e e1 : Env} {h h1 : H} {w w1 : World} {nx nx1 : I} {it : Option It} (g : GN n0 e0 h0 w0 nx0 e h w nx it) (s : Stp n0 e h w nx e1 h1 w1 nx1) : GN n0 e0 h0 w0 nx0 e1 h1 w1 nx1 it where
  st := g.st.trans s
  fa := fun b hb => by
    rw [s.out b (.inr hb)]
    exact g.fa b (Nat.le_trans s.nx hb)
  it := by
    cases it with
    | none => trivial
    | some t =>
      obtain ⟨q, m, h1, h2, h3, h4, h5⟩ := g.it
      have hl := lt_of_some h4
      exact ⟨q, m, s.le _ _ h1, s.le _ _ h2, h3, (s.fr.keep _ hl h5).trans h4, s.im _ hl h5⟩
/-- a new block that is not known -/
theorem Stp.ghost {e : Env} {h : H} {w : World} {nx : I} (s : Stp n0 e0 h0 w0 nx0 e h w nx) (hn : e nx = none) (o : Obj) : Stp n0 e0 h0 w0 nx0 (Env.upd e nx ⟨w.heap.size, 0⟩) h (w.alloc o) nx.inc where
  sat := by
    have hne : ∀ b x, h.get b = some x → b ≠ nx := fun b x hb hh => by
      obtain ⟨q, h1, _⟩ := s.sat.rd b x hb
      rw [hh, hn] at h1; cases h1
    refine ⟨fun b x hb => ?_, Nat.le_trans s.sat.base (by simp), fun b b' x x' q q' hb hb' h1 h2 h3 => ?_⟩
    · obtain ⟨q, h1, h2, h3⟩ := s.sat.rd b x hb
      exact ⟨q, by rw [Env.upd_ne (hne b x hb)]; exact h1, h2, (h3.world (Below.heap_alloc w o _ h3.lt)).mono (Env.le_upd hn)⟩
    · rw [Env.upd_ne (hne b x hb)] at h1
      rw [Env.upd_ne (hne b' x' hb')] at h2
      exact s.sat.inj b b' x x' q q' hb hb' h1 h2 h3
  le := Env.le_trans s.le (Env.le_upd hn)
  out := fun b hb => by
    have h1 := I.nat_inc nx
    have h2 := s.nx
    have hne : b ≠ nx := fun hh => by rw [hh] at hb; omega
    rw [Env.upd_ne hne]
    exact s.out b (by rcases hb with hb | hb; exact .inl hb; exact .inr (by omega))
  fr := ⟨s.fr.os, s.fr.tape, s.fr.output, Nat.le_trans s.fr.size (by simp), fun c hc ho => (Below.heap_alloc w o c (Nat.lt_of_lt_of_le hc s.fr.size)).trans (s.fr.keep c hc ho)⟩
  im := fun c hc ho b x q hb hq => by
    have hne : b ≠ nx := fun hh => by
      obtain ⟨q', h1, _⟩ := s.sat.rd b x hb
      rw [hh, hn] at h1; cases h1
    rw [Env.upd_ne hne] at hq
    exact s.im c hc ho b x q hb hq
  nx := by have h1 := I.nat_inc nx; have h2 := s.nx; omega
/-- a block that is not known, and is new, is written -/
theorem Stp.far {e : Env} {h : H} {w w' : World} {nx : I} {b : Nat} (s : Stp n0 e0 h0 w0 nx0 e h w nx) (ho : Out e h b) (hb : w0.heap.size ≤ b) (u : Upd w w' b) : Stp n0 e0 h0 w0 nx0 e h w' nx where
  sat := ⟨fun c z hc => by
    obtain ⟨q, h1, h2, h3⟩ := s.sat.rd c z hc
    exact ⟨q, h1, h2, h3.world (u.keep _ (ho c z q hc h1))⟩, by rw [u.size]; exact s.sat.base, s.sat.inj⟩
  le := s.le
  out := s.out
  fr := ⟨u.os.trans s.fr.os, u.tape.trans s.fr.tape, u.output.trans s.fr.output, by rw [u.size]; exact s.fr.size, fun c hc hoc => (u.keep c (by omega)).trans (s.fr.keep c hc hoc)⟩
  im := s.im
  nx := s.nx
end
end Go.Sx
namespace Go.Sx
open Go Go.RowKit
section
variable {P : Program} {hd : Hand} {ih : Run} {n0 : Nat} {e0 : Env} {h0 : H} {w0 : World} {nx0 : I}
/-- one operation, whatever comes out of it -/
def OneN (P : Program) (n0 : Nat) (e0 : Env) (h0 : H) (w0 : World) (nx0 : I) (n : Nat) (o : Oper) (tm : T V) (h : H) (nx : I) (it : Option It) (k : KO) : Prop :=
  ∀ e a w df, GN n0 e0 h0 w0 nx0 e h w nx it → AR e n tm df a → ∀ (K : Act → World → Prop) (Q : Exit → Act → World → Prop),
    (∀ tm' h' nx' it' e' a' w', k tm' h' nx' it' = true → GN n0 e0 h0 w0 nx0 e' h' w' nx' it' → AR e' n tm' df a' → K a' w') → o.wpIn (FW none) 0 P a w K Q
theorem oneN_det (hih : IH P ih) (hho : HO P hd) {ops : Array Oper} {o : Oper} {n : Nat} (hd0 : ∀ t, o.dst = some t → t < n) {tm : T V} {h : H} {nx : I} {it : Option It} {k : KO}
    (hk : sDo (cls P o.op) (poOf P ops o) (fun _ _ _ tm h nx k => k tm h nx) P hd ih tm h nx (fun tm h nx => k tm h nx it) = true) : OneN P n0 e0 h0 w0 nx0 n o tm h nx it k := by
  have step : ∃ v h1 nx1, OneS P o tm h nx v h1 nx1 ∧ k (tmPut tm o.dst v) h1 nx1 it = true := by
    cases hc : cls P o.op with
    | q =>
      rw [hc] at hk
      have hk : opQ o.op P tm h (fun v => putD (o.dst.map I.of) tm v fun tm => k tm h nx it) = true := hk
      obtain ⟨v, hk1, hq⟩ := opQ_ok hk
      rw [putD_eq] at hk1
      exact ⟨v, h, nx, one_q hq (noDefQ hk), hk1⟩
    | a =>
      rw [hc] at hk
      have hk : opA o.op P tm nx (fun v b => putD (o.dst.map I.of) tm v fun tm => h.putK nx (some b) fun h => k tm h nx.inc it) = true := hk
      obtain ⟨v, b, hk1, ha⟩ := opA_ok hk
      rw [putD_eq, T.putK_eq] at hk1
      exact ⟨v, _, _, one_a ha (noDefA hk), hk1⟩
    | e =>
      rw [hc] at hk
      have hk : opE o.op P hd ih tm h nx (fun v h nx => putD (o.dst.map I.of) tm v fun tm => k tm h nx it) = true := hk
      obtain ⟨v, h1, nx1, hk1, he⟩ := opE_ok hih hho hk
      rw [putD_eq] at hk1
      exact ⟨v, h1, nx1, one_e he, hk1⟩
  obtain ⟨v, h1, nx1, ⟨_, hone⟩, hk⟩ := step
  intro e a w df g ar K Q hK
  refine hone n0 e a w (ar.tm.op _) g.st.sat (g.fresh nx1) none K Q fun e1 x w1 hx st1 => ?_
  exact hK _ _ _ _ e1 _ w1 hk (g.det st1) ((ar.mono st1.le).put hd0 hx)
theorem nRange_ok {ops : Array Oper} {o : Oper} {n : Nat} (hd0 : ∀ t, o.dst = some t → t < n) {t : TypeId} {m : Operand} (ho : o.op = .range t m) {tm : T V} {h : H} {nx : I} {it : Option It} {k : KO}
    (hk : nRange (poOf P ops o) t m P tm h nx k = true) : OneN P n0 e0 h0 w0 nx0 n o tm h nx it k := by
  obtain ⟨ht, hk⟩ := gd_ok hk
  obtain ⟨v, hv, hk⟩ := ev_ok hk
  obtain ⟨r, rfl, hk⟩ := onMap_ok hk
  obtain ⟨es, ck, hr, hk⟩ := onMp_ok hk
  have hk : putD (o.dst.map I.of) tm (.ptr nx 0) (fun tm => k tm h nx.inc (some ⟨nx, r, ck, [], ck⟩)) = true := hk
  rw [putD_eq] at hk
  obtain ⟨kt, et, hT⟩ : ∃ kt et, P.underlying t = some (.map kt et) := by
    unfold isMapT at ht
    split at ht
    · exact ⟨_, _, by assumption⟩
    · cases ht
  intro e a w df g ar K Q hK
  have hm := hv e a (fun j _ => ar.tm j)
  obtain ⟨q, hq, hm⟩ := den_map hm
  obtain ⟨q', h1, _, os, h3, h4⟩ := g.st.sat.rd r _ hr
  rw [hq] at h1; cases h1
  have hn : e nx = none := g.fa nx (Nat.le_refl _)
  have hrun := run_range_map (P := P) w t kt et q.blk os ck hT h3
  refine wpIn_value (fun c hh => by rw [ho] at hh; cases hh) (x := .pointer (some ⟨w.heap.size, 0, none⟩)) (w' := w.alloc (.mapIter (some q.blk) ck #[] ck)) ?_ ?_
  · simp [execOp, ho, hm, hrun, Result.andThen]
  · have hle := Env.le_upd (q := ⟨w.heap.size, 0⟩) hn
    refine hK _ _ _ _ (Env.upd e nx ⟨w.heap.size, 0⟩) _ _ hk ⟨g.st.ghost hn _, fun b hb => ?_, ⟨w.heap.size, 0⟩, q, Env.upd_same _ _ _, hle _ _ hq, g.st.fr.size, heap_new _ _, fun b x q2 hb hq2 => ?_⟩ ((ar.mono hle).put hd0 ?_)
    · rw [I.nat_inc] at hb
      rw [Env.upd_ne (fun hh => by rw [hh] at hb; omega)]
      exact g.fa b (by omega)
    · obtain ⟨q3, k1, _, k3⟩ := g.st.sat.rd b x hb
      have hne : b ≠ nx := fun hh => by rw [hh, hn] at k1; cases k1
      rw [Env.upd_ne hne, k1] at hq2; cases hq2
      exact Nat.ne_of_lt k3.lt
    · simp [den, Env.upd_same]
theorem memN_eq (n : Nat) : ∀ l : List Nat, memN n l = l.contains n
  | [] => rfl
  | x :: l => by
    have h := memN_eq n l
    show (Bool.rec (memN n l) true (Nat.beq x n) : Bool) = _
    rw [h, List.contains_cons]
    cases hb : Nat.beq x n with
    | true =>
      have hb := Nat.eq_of_beq_eq_true hb
      simp [hb]
    | false =>
      have hb := Nat.ne_of_beq_eq_false hb
      have : (n == x) = false := by simpa using fun hh : n = x => hb hh.symm
      rw [this]; rfl
theorem bornK_ok {e : Env} {c : Nat} : ∀ {es : List (V × V × Nat)} {os : List MapEntry} {lo : Nat}, bornK c es lo = true → ER e es os → (∀ x ∈ os, lo ≤ x.born ∧ x.born < c) ∧ (os.map (·.born)).Pairwise (· < ·)
  | [], [], _, _, _ => ⟨fun _ h => (by cases h), List.Pairwise.nil⟩
  | x :: es, o :: os, lo, h, ⟨_, _, g3, g4⟩ => by
    obtain ⟨h1, h⟩ := gd_ok (show gd (Nat.ble lo x.2.2) (gd (Nat.blt x.2.2 c) (bornK c es (Nat.succ x.2.2))) = true from h)
    obtain ⟨h2, h⟩ := gd_ok h
    have h1 := Nat.le_of_ble_eq_true h1
    have h2 : x.2.2 < c := Nat.le_of_ble_eq_true h2
    obtain ⟨i1, i2⟩ := bornK_ok h g4
    refine ⟨fun y hy => ?_, ?_⟩
    · rcases List.mem_cons.1 hy with rfl | hy
      · rw [g3]; exact ⟨h1, h2⟩
      · have := i1 y hy
        omega
    · rw [List.map_cons]
      refine List.Pairwise.cons (fun b hb => ?_) i2
      obtain ⟨y, hy, rfl⟩ := List.mem_map.1 hb
      have := i1 y hy
      rw [g3]; omega
  | [], _ :: _, _, _, h => h.elim
  | _ :: _, [], _, _, h => h.elim
theorem er_all {e : Env} : ∀ {es : List (V × V × Nat)} {os : List MapEntry}, ER e es os → ∀ o ∈ os, ∃ x ∈ es, den e x.1 = some o.key ∧ den e x.2.1 = some o.val ∧ o.born = x.2.2
  | [], [], _ => fun _ h => (by cases h)
  | x :: es, o :: os, ⟨g1, g2, g3, g4⟩ => fun y hy => by
    rcases List.mem_cons.1 hy with rfl | hy
    · exact ⟨x, by simp, g1, g2, g3⟩
    · obtain ⟨z, hz, h⟩ := er_all g4 y hy
      exact ⟨z, by simp [hz], h⟩
  | [], _ :: _, h => h.elim
  | _ :: _, [], h => h.elim
theorem seenAll_ok {seen : List Nat} : ∀ {es : List (V × V × Nat)}, seenAll seen es = true → ∀ x ∈ es, seen.contains x.2.2 = true
  | [], _, _, hx => (by cases hx)
  | y :: es, h, x, hx => by
    obtain ⟨h1, h2⟩ := gd_ok (show gd (memN y.2.2 seen) (seenAll seen es) = true from h)
    rcases List.mem_cons.1 hx with rfl | hx
    · rw [memN_eq] at h1; exact h1
    · exact seenAll_ok h2 x hx
theorem seenAll_no {seen : List Nat} : ∀ {es : List (V × V × Nat)}, seenAll seen es = false → ∃ x ∈ es, seen.contains x.2.2 = false
  | [], h => (by cases h)
  | y :: es, h => by
    have h : gd (memN y.2.2 seen) (seenAll seen es) = false := h
    cases hm : memN y.2.2 seen with
    | false => exact ⟨y, by simp, by rw [memN_eq] at hm; exact hm⟩
    | true =>
      rw [hm] at h
      obtain ⟨x, hx, g⟩ := seenAll_no (es := es) h
      exact ⟨x, by simp [hx], g⟩
theorem leftAll_ok {seen : List Nat} {f : V × V × Nat → Bool} : ∀ {es : List (V × V × Nat)}, leftAll seen es f = true → ∀ x ∈ es, seen.contains x.2.2 = false → f x = true
  | [], _, _, hx, _ => (by cases hx)
  | y :: es, h, x, hx, hs => by
    obtain ⟨h1, h2⟩ := gd_ok (show gd (Bool.rec (f y) true (memN y.2.2 seen)) (leftAll seen es f) = true from h)
    rcases List.mem_cons.1 hx with rfl | hx
    · rw [memN_eq, hs] at h1; exact h1
    · exact leftAll_ok h2 x hx hs
theorem er_pos {e : Env} : ∀ {es : List (V × V × Nat)} {os : List MapEntry}, ER e es os → ∀ x ∈ es, ∃ o ∈ os, o.born = x.2.2
  | [], [], _ => fun _ h => (by cases h)
  | x :: es, o :: os, ⟨_, _, g3, g4⟩ => fun y hy => by
    rcases List.mem_cons.1 hy with rfl | hy
    · exact ⟨o, by simp, g3⟩
    · obtain ⟨z, hz, h⟩ := er_pos g4 y hy
      exact ⟨z, by simp [hz], h⟩
  | [], _ :: _, h => h.elim
  | _ :: _, [], h => h.elim
theorem nNext_ok {ops : Array Oper} {o : Oper} {n : Nat} (hd0 : ∀ t, o.dst = some t → t < n) {x : Operand} (ho : o.op = .next x false) {tm : T V} {h : H} {nx : I} {it : Option It} {k : KO}
    (hk : nNext (poOf P ops o) x tm h nx it k = true) : OneN P n0 e0 h0 w0 nx0 n o tm h nx it k := by
  obtain ⟨v, hv, hk⟩ := ev_ok hk
  obtain ⟨i, of, rfl, hk⟩ := onPtr_ok hk
  obtain ⟨hof, hk⟩ := gd_ok hk
  have hof := Nat.eq_of_beq_eq_true hof
  subst hof
  obtain ⟨t, rfl, hk⟩ := onS_ok hk
  obtain ⟨hi, hk2⟩ := gd_ok hk
  clear hk
  have hi := I.same_ok hi
  subst hi
  obtain ⟨es, ck, hr, hk⟩ := onMp_ok hk2
  clear hk2
  obtain ⟨hb, hk⟩ := gd_ok hk
  obtain ⟨hc, hk⟩ := gd_ok hk
  have hc := Nat.le_of_ble_eq_true hc
  intro e a w df g ar K Q hK
  obtain ⟨q, m, i1, i2, i3, i4, i5⟩ := g.it
  obtain ⟨q', h1, _, os, h3, h4⟩ := g.st.sat.rd t.m _ hr
  rw [i2] at h1; cases h1
  have hev := hv e a (fun j _ => ar.tm j)
  obtain ⟨q2, hq2, hev⟩ := den_ptr hev
  rw [i1] at hq2; cases hq2
  obtain ⟨hborn, _⟩ := bornK_ok hb h4
  rcases run_next_at (P := P) w o.type q.blk m.blk t.since t.c0 t.seen.toArray os ck i4 h3 (fun x hx => (hborn x hx).2) hc with ⟨hz, hrun⟩ | ⟨en, hen, w1, hw1, hrun⟩
  · refine wpIn_value (fun c hh => by rw [ho] at hh; cases hh) (x := .tuple #[.bool false]) (w' := w) (by simp [execOp, ho, hev, hrun, Result.andThen]) ?_
    have hall : ∀ y ∈ es, t.seen.contains y.2.2 = true := fun y hy => by
      obtain ⟨z, hz1, hz2⟩ := er_pos h4 y hy
      have hempty : leftOf os t.seen.toArray = #[] := Array.eq_empty_of_size_eq_zero hz
      unfold leftOf at hempty
      rw [Array.filter_eq_empty_iff] at hempty
      have := hempty z (by simpa using hz1)
      rw [hz2] at this
      simpa using this
    rcases br_ok hk with ⟨_, hk⟩ | ⟨hs, _⟩
    · have hk : putD (o.dst.map I.of) tm (.tup [.bool false]) (fun tm => k tm h nx (some t)) = true := hk
      rw [putD_eq] at hk
      exact hK _ _ _ _ e _ w hk g (ar.put hd0 (by simp [den, denL]))
    · obtain ⟨y, hy, hn⟩ := seenAll_no hs
      rw [hall y hy] at hn; cases hn
  · have hmem : en ∈ os.toList ∧ t.seen.contains en.born = false := by
      unfold leftOf at hen
      simp only [Array.toList_filter, List.mem_filter] at hen
      exact ⟨hen.1, by simpa using hen.2⟩
    refine wpIn_value (fun c hh => by rw [ho] at hh; cases hh) (x := .tuple #[.bool true, en.key, en.val]) (w' := ChangeMaps.setBlock w1 q.blk (.mapIter (some m.blk) t.since (t.seen.toArray.push en.born) ck)) (by simp [execOp, ho, hev, hrun, Result.andThen]) ?_
    obtain ⟨y, hy, g1, g2, g3⟩ := er_all h4 en hmem.1
    rcases br_ok hk with ⟨hs, _⟩ | ⟨_, hk⟩
    · have := seenAll_ok hs y hy
      rw [← g3, hmem.2] at this; cases this
    · have hk := leftAll_ok hk y hy (by rw [← g3]; exact hmem.2)
      have hk : putD (o.dst.map I.of) tm (.tup [.bool true, y.1, y.2.1]) (fun tm => k tm h nx (some ⟨t.id, t.m, t.since, t.seen ++ [y.2.2], ck⟩)) = true := hk
      rw [putD_eq] at hk
      have hw : w1.heap = w.heap ∧ w1.os = w.os ∧ w1.tape = w.tape ∧ w1.output = w.output := by rcases hw1 with rfl | rfl <;> exact ⟨rfl, rfl, rfl, rfl⟩
      have hset := MapKept.heap_set (w := w1) (o' := .mapIter (some m.blk) t.since (t.seen.toArray.push en.born) ck) (by rw [hw.1]; exact i4)
      have hu : Upd w (ChangeMaps.setBlock w1 q.blk (.mapIter (some m.blk) t.since (t.seen.toArray.push en.born) ck)) q.blk :=
        ⟨hw.2.1, hw.2.2.1, hw.2.2.2, by simp [ChangeMaps.setBlock, hw.1], fun c hc => (hset.2 c hc).trans (by rw [hw.1])⟩
      refine hK _ _ _ _ e _ _ hk ⟨g.st.far i5 i3 hu, g.fa, q, m, i1, i2, i3, ?_, i5⟩ (ar.put hd0 ?_)
      · refine hset.1.trans ?_
        simp [g3]
      · simp [den, denL, g1, g2]
theorem er_at {e : Env} : ∀ {es : List (V × V × Nat)} {os : List MapEntry}, ER e es os → ∀ x ∈ es, ∃ o ∈ os, den e x.1 = some o.key ∧ den e x.2.1 = some o.val ∧ o.born = x.2.2
  | [], [], _ => fun _ h => (by cases h)
  | x :: es, o :: os, ⟨g1, g2, g3, g4⟩ => fun y hy => by
    rcases List.mem_cons.1 hy with rfl | hy
    · exact ⟨o, by simp, g1, g2, g3⟩
    · obtain ⟨z, hz, h⟩ := er_at g4 y hy
      exact ⟨z, by simp [hz], h⟩
  | [], _ :: _, h => h.elim
  | _ :: _, [], h => h.elim
theorem lastN_ok : ∀ {l : List Nat} {b : Nat}, lastN l = some b → ∃ r, l = r ++ [b]
  | [], _, h => (by cases h)
  | x :: l, b, h => by
    cases hl : lastN l with
    | none =>
      have h : (Option.rec (some x) (fun y => some y) (lastN l) : Option Nat) = some b := h
      rw [hl] at h; cases h
      cases l with
      | nil => exact ⟨[], rfl⟩
      | cons y l =>
        exfalso
        have : lastN (y :: l) ≠ none := by
          show (Option.rec (some y) (fun z => some z) (lastN l) : Option Nat) ≠ none
          cases lastN l <;> simp
        exact this hl
    | some z =>
      have h : (Option.rec (some x) (fun y => some y) (lastN l) : Option Nat) = some b := h
      rw [hl] at h; cases h
      obtain ⟨r, rfl⟩ := lastN_ok hl
      exact ⟨x :: r, rfl⟩
theorem findB_ok {b : Nat} : ∀ {es : List (V × V × Nat)} {x : V × V × Nat}, findB b es = some x → x ∈ es ∧ x.2.2 = b
  | [], _, h => (by cases h)
  | y :: es, x, h => by
    have h : (Bool.rec (findB b es) (some y) (Nat.beq y.2.2 b) : Option (V × V × Nat)) = some x := h
    cases hb : Nat.beq y.2.2 b with
    | true =>
      rw [hb] at h; cases h
      exact ⟨by simp, Nat.eq_of_beq_eq_true hb⟩
    | false =>
      rw [hb] at h
      obtain ⟨h1, h2⟩ := findB_ok (es := es) h
      exact ⟨by simp [h1], h2⟩
theorem nEntry_ok {ops : Array Oper} {o : Oper} {n : Nat} (hd0 : ∀ t, o.dst = some t → t < n) {x : Operand} (ho : o.op = .entry x) {tm : T V} {h : H} {nx : I} {it : Option It} {k : KO}
    (hk : nEntry (poOf P ops o) x tm h nx it k = true) : OneN P n0 e0 h0 w0 nx0 n o tm h nx it k := by
  obtain ⟨v, hv, hk⟩ := ev_ok hk
  obtain ⟨i, of, rfl, hk⟩ := onPtr_ok hk
  obtain ⟨hof, hk⟩ := gd_ok hk
  have hof := Nat.eq_of_beq_eq_true hof
  subst hof
  obtain ⟨t, rfl, hk⟩ := onS_ok hk
  obtain ⟨hi, hk2⟩ := gd_ok hk
  clear hk
  have hi := I.same_ok hi
  subst hi
  obtain ⟨es, ck, hr, hk⟩ := onMp_ok hk2
  clear hk2
  obtain ⟨hc, hk⟩ := gd_ok hk
  obtain ⟨hb, hk⟩ := gd_ok hk
  obtain ⟨b, hl, hk⟩ := onS_ok hk
  obtain ⟨y, hf, hk⟩ := onS_ok hk
  have hk : putD (o.dst.map I.of) tm (.tup [y.1, y.2.1]) (fun tm => k tm h nx (some t)) = true := hk
  rw [putD_eq] at hk
  obtain ⟨r, hl⟩ := lastN_ok hl
  obtain ⟨hy, hyb⟩ := findB_ok hf
  have hc := Nat.eq_of_beq_eq_true hc
  intro e a w df g ar K Q hK
  obtain ⟨q, m, i1, i2, i3, i4, i5⟩ := g.it
  obtain ⟨q', h1, _, os, h3, h4⟩ := g.st.sat.rd t.m _ hr
  rw [i2] at h1; cases h1
  have hev := hv e a (fun j _ => ar.tm j)
  obtain ⟨q2, hq2, hev⟩ := den_ptr hev
  rw [i1] at hq2; cases hq2
  obtain ⟨_, hrise⟩ := bornK_ok hb h4
  have hpos : ∃ en ∈ os.toList, den e y.1 = some en.key ∧ den e y.2.1 = some en.val ∧ en.born = y.2.2 := er_at h4 y hy
  obtain ⟨en, hen, g1, g2, g3⟩ := hpos
  have i4' : w.heap[q.blk]? = some (.mapIter (some m.blk) t.since (r.toArray.push en.born) ck) := by
    rw [i4, hl, hc, g3, hyb]
    simp
  have hrun := run_entry_at (P := P) w q.blk m.blk t.since r.toArray os ck en i4' h3 hen (hrise.imp fun hab => Nat.ne_of_lt hab)
  refine wpIn_value (fun c hh => by rw [ho] at hh; cases hh) (x := .tuple #[en.key, en.val]) (w' := w) (by simp [execOp, ho, hev, hrun, Result.andThen]) ?_
  exact hK _ _ _ _ e _ w hk g (ar.put hd0 (by simp [den, denL, g1, g2]))
theorem oneN_ok (hih : IH P ih) (hho : HO P hd) {ops : Array Oper} {o : Oper} {n : Nat} (hd0 : ∀ t, o.dst = some t → t < n) {tm : T V} {h : H} {nx : I} {it : Option It} {k : KO}
    (hk : oneN (poOf P ops o) P hd ih tm h nx it k = true) : OneN P n0 e0 h0 w0 nx0 n o tm h nx it k := by
  unfold oneN at hk
  split at hk
  · rename_i t m ho
    exact nRange_ok hd0 ho hk
  · rename_i x ho
    exact nNext_ok hd0 ho hk
  · rename_i x ho
    exact nEntry_ok hd0 ho hk
  · exact oneN_det hih hho hd0 hk
/-- a plain region, whatever comes out -/
theorem seqN_ok (hih : IH P ih) (hho : HO P hd) {ops : Array Oper} {n : Nat} (hdst : dstOk n ops = true) : ∀ (l : List Oper) (k : Nat) {tm : T V} {h : H} {nx : I} {it : Option It} {K : KO}, (∀ j, l[j]? = ops[k + j]?) → seqN P hd ih (l.map (poOf P ops)) tm h nx it K = true →
    ∀ e a w df, GN n0 e0 h0 w0 nx0 e h w nx it → AR e n tm df a → ∀ Q : Exit → Act → World → Prop,
      (∀ tm' h' nx' it' e' a' w', K tm' h' nx' it' = true → GN n0 e0 h0 w0 nx0 e' h' w' nx' it' → AR e' n tm' df a' → Q .normal a' w') → wpOpsIn (FW none) 0 P ops Q (List.range' k l.length) a w
  | [], k, tm, h, nx, it, K, _, hk => fun e a w df g ar Q hQ => hQ _ _ _ _ e a w hk g ar
  | o :: l, k, tm, h, nx, it, K, hl, hk => by
    have h0' : ops[k]? = some o := by simpa using (hl 0).symm
    have hl' : ∀ j, l[j]? = ops[(k + 1) + j]? := fun j => by
      have := hl (j + 1)
      simpa [Nat.add_assoc, Nat.add_comm 1 j] using this
    have hd0 := dst_of hdst h0'
    have hk : br (wantB (gdOf ops o) tm) (oneN (poOf P ops o) P hd ih tm h nx it fun tm h nx it => seqN P hd ih (l.map (poOf P ops)) tm h nx it K) (putD (o.dst.map I.of) tm V.un fun tm => seqN P hd ih (l.map (poOf P ops)) tm h nx it K) = true := hk
    intro e a w df g ar Q hQ
    rw [List.length_cons, List.range'_succ, wpOpsIn_cons]
    unfold wpOpIn
    rw [h0']
    rcases br_cases hk with ⟨hw, hk⟩ | ⟨hw, hk⟩
    · have hwant : Region.wanted o (yielded ops a.tmps) = true := by rw [← wantB_eq ar.tm]; exact hw
      simp only [hwant, if_true]
      exact oneN_ok hih hho hd0 hk e a w df g ar _ Q fun tm' h' nx' it' e' a' w' hk' g' ar' => seqN_ok hih hho hdst l (k + 1) hl' hk' e' a' w' df g' ar' Q hQ
    · rw [putD_eq] at hk
      have hwant : Region.wanted o (yielded ops a.tmps) = false := by rw [← wantB_eq ar.tm]; exact hw
      simp only [hwant, Bool.false_eq_true, if_false]
      exact ⟨fun _ _ => trivial, seqN_ok hih hho hdst l (k + 1) hl' hk e _ w df g (ar.put hd0 den_un) Q hQ⟩
/-- code, whatever comes out -/
def IN (P : Program) (n0 : Nat) (e0 : Env) (h0 : H) (w0 : World) (nx0 : I) (n : Nat) (rec : RunN) : Prop :=
  ∀ c tm h nx df it k, rec c tm h nx df it k = true → ∀ e a w, GN n0 e0 h0 w0 nx0 e h w nx it → AR e n tm df a → ∀ Q : Exit → Act → World → Prop,
    (∀ (x : X) tm' h' nx' df' it' e' a' w', k x tm' h' nx' df' it' = true → GN n0 e0 h0 w0 nx0 e' h' w' nx' it' → AR e' n tm' df' a' → Q x.den a' w') → WPc none P c Q a w
theorem stepN_ok (hih : IH P ih) (hho : HO P hd) {n : Nat} {rec : RunN} (hrec : IN P n0 e0 h0 w0 nx0 n rec) : IN P n0 e0 h0 w0 nx0 n (stepN P hd ih n rec) := by
  intro c tm h nx df it k hk e a w g ar Q hQ
  cases c with
  | skip => exact wpIn_skip (hQ .nrm _ _ _ _ _ e a w hk g ar)
  | label l => exact wpIn_label (hQ .nrm _ _ _ _ _ e a w hk g ar)
  | exit i => exact wpIn_exit (hQ (.exit i) _ _ _ _ _ e a w hk g ar)
  | goto l => exact wpIn_goto (hQ (.goto l) _ _ _ _ _ e a w hk g ar)
  | ret => exact wpIn_ret (hQ .ret _ _ _ _ _ e a w hk g ar)
  | region id ops d =>
    obtain ⟨hdst, hk⟩ := gd_ok hk
    rcases br_cases hk with ⟨hd', hk⟩ | ⟨hd', hk⟩
    · subst hd'
      obtain ⟨tm', h', nx', hK, hn, hs⟩ := drawR_ok hih hho hdst hk
      exact hs n0 e a w none df g.st.sat ar (g.fresh nx') Q (fun e' a' w' st' ar' => hQ .nrm _ _ _ _ _ e' a' w' hK (g.det st') ar') id
    · subst hd'
      refine wpIn_region ?_
      have := seqN_ok hih hho hdst ops.toList 0 (fun j => by simp) hk e a w df g ar Q fun tm' h' nx' it' e' a' w' hk' g' ar' => hQ .nrm _ _ _ _ _ e' a' w' hk' g' ar'
      rw [List.range_eq_range']
      simpa using this
  | seq x y =>
    refine wpIn_seq (wpc_in (hrec _ _ _ _ _ _ _ hk e a w g ar _ fun z tm1 h1 nx1 df1 it1 e1 a1 w1 hk1 g1 ar1 => ?_))
    cases z with
    | nrm => exact wpc_in (hrec _ _ _ _ _ _ _ hk1 e1 a1 w1 g1 ar1 Q hQ)
    | exit i => exact hQ (.exit i) _ _ _ _ _ e1 a1 w1 hk1 g1 ar1
    | goto l => exact hQ (.goto l) _ _ _ _ _ e1 a1 w1 hk1 g1 ar1
    | ret => exact hQ .ret _ _ _ _ _ e1 a1 w1 hk1 g1 ar1
  | cond c x y =>
    obtain ⟨v, hv, hk⟩ := ev_ok hk
    obtain ⟨t, rfl, hk⟩ := onBool_val hk
    have hc : a.eval c = .bool t := by
      have := hv e a (fun j _ => ar.tm j)
      simp only [den, Option.some.injEq] at this
      exact this.symm
    rcases br_cases hk with ⟨ht, hk⟩ | ⟨ht, hk⟩
    · subst ht
      exact wpIn_cond_true hc (wpc_in (hrec _ _ _ _ _ _ _ hk e a w g ar Q hQ))
    · subst ht
      exact wpIn_cond_false hc (wpc_in (hrec _ _ _ _ _ _ _ hk e a w g ar Q hQ))
  | block id b =>
    refine wpIn_block (wpc_in (hrec _ _ _ _ _ _ _ hk e a w g ar _ fun z tm1 h1 nx1 df1 it1 e1 a1 w1 hk1 g1 ar1 => ?_))
    cases z with
    | nrm => exact hQ .nrm _ _ _ _ _ e1 a1 w1 hk1 g1 ar1
    | exit i =>
      rcases br_cases hk1 with ⟨ht, hk1⟩ | ⟨ht, hk1⟩
      · have hi := Nat.eq_of_beq_eq_true ht
        have := hQ .nrm _ _ _ _ _ e1 a1 w1 hk1 g1 ar1
        simp only [X.den, Exit.inBlock, hi, if_true]; exact this
      · have hi := Nat.ne_of_beq_eq_false ht
        have := hQ (.exit i) _ _ _ _ _ e1 a1 w1 hk1 g1 ar1
        simp only [X.den, Exit.inBlock, hi, if_false]; exact this
    | goto l => exact hQ (.goto l) _ _ _ _ _ e1 a1 w1 hk1 g1 ar1
    | ret => exact hQ .ret _ _ _ _ _ e1 a1 w1 hk1 g1 ar1
  | loop b =>
    refine loop_ok (wpc_in (hrec _ _ _ _ _ _ _ hk e a w g ar _ fun z tm1 h1 nx1 df1 it1 e1 a1 w1 hk1 g1 ar1 => ?_))
    cases z with
    | nrm => exact hrec _ _ _ _ _ _ _ hk1 e1 a1 w1 g1 ar1 Q hQ
    | exit i => exact hQ (.exit i) _ _ _ _ _ e1 a1 w1 hk1 g1 ar1
    | goto l => exact hQ (.goto l) _ _ _ _ _ e1 a1 w1 hk1 g1 ar1
    | ret => exact hQ .ret _ _ _ _ _ e1 a1 w1 hk1 g1 ar1
  | rangeFunc f ps x y => exact absurd hk Bool.false_ne_true
  | scope b => exact absurd hk Bool.false_ne_true
  | refuse => exact absurd hk Bool.false_ne_true
theorem runN_ok (hih : IH P ih) (hho : HO P hd) {n : Nat} : ∀ f, IN P n0 e0 h0 w0 nx0 n (runN P hd ih n f)
  | 0 => fun _ _ _ _ _ _ _ hk => absurd hk Bool.false_ne_true
  | f + 1 => stepN_ok hih hho (runN_ok hih hho f)
end
end Go.Sx
namespace Go.Sx
open Go Go.RowKit
section
variable {P : Program} {hd : Hand} {ih : Run}
/-- a call whose body ranges over maps, whatever comes out -/
theorem callN_ok (hih : IH P ih) (hho : HO P hd) {fuel : Nat} {f : FuncId} {args : List V} {h : H} {nx : I} {k : KC} (hk : callN P hd ih fuel f args h nx k = true) {n0 : Nat} {e : Env} {w : World} {vs : List Value} (st : Sat n0 e h w) (hd' : denL e args = some vs)
    (fa : ∀ b : I, nx.nat ≤ b.nat → e b = none) {R : Ending → World → Prop} (hR : ∀ v h' nx' e' x w', k v h' nx' = true → den e' v = some x → Stp n0 e h w nx e' h' w' nx' → R (.returned x) w') : Calls P f vs.toArray w R := by
  obtain ⟨fi, hfi, hk⟩ := onS_ok hk
  obtain ⟨fn, hfn, hname, hbody, hn, hres⟩ := fiOf_ok hfi
  obtain ⟨hle, hk⟩ := gd_ok hk
  rw [lenL_eq] at hle
  have hle : args.length ≤ fi.n := by simpa using hle
  obtain ⟨tm, hk, htm⟩ := argK_ok (n := 0) hk
  refine (callsIn_fw 0).1 (callsIn_of_wp_marks (F := FW none) (n := 0) hfn hbody trivial ?_)
  obtain ⟨hsz, htr⟩ := args_tm hd' hle htm
  refine wpc_in (runN_ok (n0 := n0) (e0 := e) (h0 := h) (w0 := w) (nx0 := nx) hih hho fuel _ _ _ _ _ _ _ hk e ⟨vs.toArray ++ Array.replicate (fn.ntmps - vs.toArray.size) undef, []⟩ w ⟨Stp.refl st, fa, trivial⟩ ⟨?_, ?_, trivial⟩ _ fun x tm' h1 nx1 df1 it1 e' a' w' hk1 g1 har => ?_)
  · rw [hn]; exact hsz
  · rw [hn]; exact htr
  have hx : (x = .nrm ∨ x = .ret) ∧ (takeDf df1 h1 fun h => resK P fi.res tm' h fun l => oneK l fun v => k v h nx1) = true := by
    cases x <;> first | exact absurd hk1 Bool.false_ne_true | exact ⟨.inl rfl, hk1⟩ | exact ⟨.inr rfl, hk1⟩
  obtain ⟨hx, hk1⟩ := hx
  obtain ⟨h2, hk2, htake⟩ := takeDf_ok (P := P) hk1
  obtain ⟨l, hk3, hres'⟩ := resK_ok hk2
  obtain ⟨v, hk4, hone⟩ := oneK_ok hk3
  have hleave : LeavesInM (FW none) 0 P fn a'.tmps R a'.defers .returning w' := by
    refine htake fn a'.tmps 0 n0 e' w' a'.defers nx1 R g1.st.sat har.df fun w'' hst' => ?_
    obtain ⟨vs', hv, hrun⟩ := hres' n0 e' w'' a'.tmps har.tm hst'.sat.rd
    rw [← hres] at hrun
    exact ⟨_, results_run hrun, hR _ _ _ e' _ w'' hk4 (hone e' vs' hv) (g1.st.trans hst')⟩
  rcases hx with rfl | rfl <;> exact hleave
def canonN (P : Program) (hd : Hand) (ih : Run) (fuel : Nat) (f : FuncId) (nx : I) (L : List PB) (a : List V) (La N : List PB) (vo : V) : Bool :=
  mkH L .lf fun h0 => domK (L ++ N) .lf fun D => callN P hd ih fuel f a h0 nx fun v h' _ => idS L .lf fun s => mV D vo v s fun s => mBs D h' (La ++ N) s fun s => disK s (La ++ N) .lf true
theorem canonN_ok (hih : IH P ih) (hho : HO P hd) {fuel : Nat} {f : FuncId} {nx : I} {L La N : List PB} {a : List V} {vo : V} (hlt : ltAll nx L = true) (h : canonN P hd ih fuel f nx L a La N vo = true) : CanonC P f L a La N vo := by
  obtain ⟨h0, h1, hm⟩ := mkH_ok L h
  obtain ⟨D, h2, _⟩ := domK_ok _ h1
  have hm' : ∀ p x, h0.get p = some x → ∃ b ∈ L, b.p = p ∧ b.x = x := fun p x hp => (hm p x hp).resolve_left (by rw [T.get_lf]; simp)
  intro n0 e w vs hL hbase hinj ha hdom R hR
  have hfa : ∀ b : I, nx.nat ≤ b.nat → e b = none := fun b h1 => by
    cases hb : e b with
    | none => rfl
    | some q =>
      obtain ⟨c, hc, rfl⟩ := hdom b q hb
      have := (List.all_eq_true.1 hlt) c hc
      simp only [decide_eq_true_eq] at this
      omega
  refine callN_ok hih hho h2 (n0 := n0) (e := e) (w := w) ⟨fun b x hbx => ?_, hbase, fun b b' x x' q q' g1 g2 g3 g4 g5 => ?_⟩ ha hfa fun v h' nx' e' x w' h3 hx st => ?_
  · obtain ⟨c, hc, rfl, rfl⟩ := hm' b x hbx
    exact hL c hc
  · obtain ⟨c, hc, rfl, _⟩ := hm' b x g1
    obtain ⟨c', hc', rfl, _⟩ := hm' b' x' g2
    exact hinj c hc c' hc' q q' g3 g4 g5
  · obtain ⟨s0, h4, _, hid⟩ := idS_ok L h3
    obtain ⟨s1, e1, rv, h5⟩ := mV_ok vo h4
    obtain ⟨s2, e2, hb, h6⟩ := mBs_ok _ h5
    obtain ⟨_, _, hdis⟩ := disK_ok _ h6
    have hids : ∀ b ∈ L, s2.get b.p = some b.p := fun b hb => e2.le _ _ (e1.le _ _ (hid b hb))
    have hgl : Gl s2 e' (fun p => match s2.get p with | some q => e' q | none => e p) := fun p q hp => by simp only [hp]
    have hblk : ∀ b ∈ La ++ N, ∃ q0 y q, s2.get b.p = some q0 ∧ h'.get q0 = some y ∧ e' q0 = some q ∧ (match s2.get b.p with | some q => e' q | none => e b.p) = some q ∧ n0 ≤ q.blk ∧ BR (fun p => match s2.get p with | some q => e' q | none => e p) w' q b.x := fun b hbm => by
      obtain ⟨q0, y, g1, g2, g3⟩ := hb b hbm
      obtain ⟨q, g4, g5, g6⟩ := st.sat.rd q0 y g2
      exact ⟨q0, y, q, g1, g2, g4, by simp only [g1]; exact g4, g5, (RB.den hgl g3).2 g6⟩
    refine hR (fun p => match s2.get p with | some q => e' q | none => e p) x w' ?_ (fun b hbm => ?_) (fun b hbm => ?_) (fun b hbm b' hbm' q q' g1 g2 g3 => ?_) st.fr.os st.fr.tape st.fr.output st.fr.size fun c hc ho => ?_
    · rw [(rv.ext e2) e' _ hgl]; exact hx
    · obtain ⟨q, g1, _⟩ := hL b hbm
      simp only [hids b hbm]
      rw [g1]; exact st.le _ _ g1
    · obtain ⟨q0, y, q, _, _, _, g4, g5, g6⟩ := hblk b hbm
      exact ⟨q, g4, g5, g6⟩
    · obtain ⟨p1, y1, r1, k1, k2, k3, k4, _⟩ := hblk b hbm
      obtain ⟨p2, y2, r2, m1, m2, m3, m4, _⟩ := hblk b' hbm'
      rw [k4] at g1; rw [m4] at g2
      cases g1; cases g2
      have := st.sat.inj p1 p2 y1 y2 _ _ k2 m2 k3 m3 g3
      subst this
      exact hdis b hbm b' hbm' p1 k1 m1
    · have hout : Out e h0 c := fun b x q hbx hq => by
        obtain ⟨d, hd, rfl, _⟩ := hm' b x hbx
        exact ho d hd q hq
      refine ⟨st.fr.keep c hc hout, fun b hbm q hq => ?_⟩
      obtain ⟨q0, y, r, k1, k2, k3, k4, _⟩ := hblk b hbm
      rw [k4] at hq; cases hq
      exact st.im c hc hout q0 y _ k2 k3
end
/-- a call whose body ranges over maps -/
def Pc.ckN (p : Pc) (P : Program) (hd : Hand) (n : Nat) (f : FuncId) : Bool := gd (ltAll p.nx p.L) (canonN P hd (run P hd n) n f p.nx p.L p.a p.La p.N p.vo)
theorem Pc.sndN {p : Pc} {P : Program} {hd : Hand} {n : Nat} {f : FuncId} (hho : HO P hd) (h : p.ckN P hd n f = true) : Snd P f p.hf := memoC2_snd fun _ _ _ _ hk =>
  memoC_ok (canonN_ok (run_ok hho n) hho (gd_ok h).1 (gd_ok h).2) hk
end Go.Sx
namespace Go.Sx
open Go Go.RowKit
/-! lists of patterns -/
def orG (g1 g2 : HF) : HF := fun a h nx k => Bool.rec (g2 a h nx k) true (g1 a h nx k)
theorem orG_ok {P : Program} {f : FuncId} {g1 g2 : HF} (h1 : Snd P f g1) (h2 : Snd P f g2) : Snd P f (orG g1 g2) := fun args h nx k hk => by
  have hk : (Bool.rec (g2 args h nx k) true (g1 args h nx k) : Bool) = true := hk
  cases hb : g1 args h nx k with
  | true => exact h1 args h nx k hb
  | false => rw [hb] at hk; exact h2 args h nx k hk
def Pk.all (l : List Pk) (P : Program) (hd : Hand) (n : Nat) (f : FuncId) : Bool := List.rec (motive := fun _ => Bool) true (fun p _ ih => gd (p.ck P hd n f) ih) l
def Pk.any (l : List Pk) : HF := List.rec (motive := fun _ => HF) (fun _ _ _ _ => false) (fun p _ ih => orG p.hf ih) l
def Pc.all (l : List Pc) (P : Program) (hd : Hand) (n : Nat) (f : FuncId) : Bool := List.rec (motive := fun _ => Bool) true (fun p _ ih => gd (p.ck P hd n f) ih) l
def Pc.allN (l : List Pc) (P : Program) (hd : Hand) (n : Nat) (f : FuncId) : Bool := List.rec (motive := fun _ => Bool) true (fun p _ ih => gd (p.ckN P hd n f) ih) l
def Pc.any (l : List Pc) : HF := List.rec (motive := fun _ => HF) (fun _ _ _ _ => false) (fun p _ ih => orG p.hf ih) l
theorem no_snd (P : Program) (f : FuncId) : Snd P f (fun _ _ _ _ => false) := fun _ _ _ _ h => absurd h Bool.false_ne_true
theorem Pk.allSnd {P : Program} {hd : Hand} {n : Nat} {f : FuncId} (hho : HO P hd) : ∀ {l : List Pk}, Pk.all l P hd n f = true → Snd P f (Pk.any l)
  | [], _ => no_snd P f
  | p :: l, h => by
    obtain ⟨h1, h2⟩ := gd_ok (show gd (p.ck P hd n f) (Pk.all l P hd n f) = true from h)
    exact orG_ok (Pk.snd hho h1) (Pk.allSnd hho h2)
theorem Pc.allSnd {P : Program} {hd : Hand} {n : Nat} {f : FuncId} (hho : HO P hd) : ∀ {l : List Pc}, Pc.all l P hd n f = true → Snd P f (Pc.any l)
  | [], _ => no_snd P f
  | p :: l, h => by
    obtain ⟨h1, h2⟩ := gd_ok (show gd (p.ck P hd n f) (Pc.all l P hd n f) = true from h)
    exact orG_ok (Pc.snd hho h1) (Pc.allSnd hho h2)
theorem Pc.allSndN {P : Program} {hd : Hand} {n : Nat} {f : FuncId} (hho : HO P hd) : ∀ {l : List Pc}, Pc.allN l P hd n f = true → Snd P f (Pc.any l)
  | [], _ => no_snd P f
  | p :: l, h => by
    obtain ⟨h1, h2⟩ := gd_ok (show gd (p.ckN P hd n f) (Pc.allN l P hd n f) = true from h)
    exact orG_ok (Pc.sndN hho h1) (Pc.allSndN hho h2)
end Go.Sx
