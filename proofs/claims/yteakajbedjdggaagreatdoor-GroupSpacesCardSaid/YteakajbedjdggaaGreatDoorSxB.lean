import Derived.Test.YteakajbedjdggaaGreatDoorSxA
/-
  What the symbolic executor's states mean: symbols for blocks, values, memory.
-/
namespace Go.Sx
open Go Go.RowKit

/-! ids -/
def I.nat : I → Nat
  | .z => 0
  | .l p => 2 * p.nat + 1
  | .r p => 2 * p.nat + 2
theorem I.nat_inc (p : I) : p.inc.nat = p.nat + 1 := by
  induction p with
  | z => rfl
  | l p ih => simp [I.inc, I.nat]
  | r p ih => simp only [I.inc, I.nat, ih]; omega
theorem I.nat_of (n : Nat) : (I.of n).nat = n := by
  induction n with
  | zero => rfl
  | succ n ih => rw [I.of, I.nat_inc, ih]
theorem I.nat_inj : ∀ {p q : I}, p.nat = q.nat → p = q
  | .z, .z, _ => rfl
  | .l p, .l q, h => by simp only [I.nat] at h; rw [I.nat_inj (p := p) (q := q) (by omega)]
  | .r p, .r q, h => by simp only [I.nat] at h; rw [I.nat_inj (p := p) (q := q) (by omega)]
  | .z, .l _, h | .z, .r _, h | .l _, .z, h | .r _, .z, h => by simp only [I.nat] at h; omega
  | .l _, .r _, h | .r _, .l _, h => by simp only [I.nat] at h; omega
theorem I.of_inj {m n : Nat} (h : I.of m = I.of n) : m = n := by
  have := congrArg I.nat h
  rwa [I.nat_of, I.nat_of] at this
instance : DecidableEq I := fun a b => if h : a.nat = b.nat then .isTrue (I.nat_inj h) else .isFalse fun e => h (e ▸ rfl)
theorem I.same_ok : ∀ {a b : I}, I.same a b = true → a = b
  | .z, .z, _ => rfl
  | .l p, .l q, h => by rw [I.same_ok (a := p) (b := q) h]
  | .r p, .r q, h => by rw [I.same_ok (a := p) (b := q) h]
  | .z, .l _, h | .z, .r _, h | .l _, .z, h | .r _, .z, h => absurd h Bool.false_ne_true
  | .l _, .r _, h | .r _, .l _, h => absurd h Bool.false_ne_true

/-! tries -/
namespace T
variable {α : Type}
theorem get_lf (p : I) : (T.lf : T α).get p = none := by cases p <;> rfl
theorem get_one_same (p : I) (v : Option α) : (T.one p v).get p = v := by
  induction p with
  | z => rfl
  | l p ih => exact ih
  | r p ih => exact ih
theorem get_one_ne : ∀ (p q : I) (v : Option α), p ≠ q → (T.one p v).get q = none
  | .z, .z, _, h => absurd rfl h
  | .z, .l q, _, _ | .z, .r q, _, _ => get_lf q
  | .l _p, .z, _, _ | .r _p, .z, _, _ => rfl
  | .l p, .l q, v, h => get_one_ne p q v fun e => h (e ▸ rfl)
  | .r p, .r q, v, h => get_one_ne p q v fun e => h (e ▸ rfl)
  | .l _, .r q, _, _ | .r _, .l q, _, _ => get_lf q
theorem get_put_same : ∀ (t : T α) (p : I) (v : Option α), (t.put p v).get p = v
  | .lf, p, v => get_one_same p v
  | .nd _ _ _, .z, _ => rfl
  | .nd l _ _, .l p, v => get_put_same l p v
  | .nd _ _ r, .r p, v => get_put_same r p v
theorem get_put_ne : ∀ (t : T α) (p q : I) (v : Option α), p ≠ q → (t.put p v).get q = t.get q
  | .lf, p, q, v, h => (get_one_ne p q v h).trans (get_lf q).symm
  | .nd _ _ _, .z, .z, _, h => absurd rfl h
  | .nd _ _ _, .z, .l _, _, _ | .nd _ _ _, .z, .r _, _, _ | .nd _ _ _, .l _, .z, _, _ | .nd _ _ _, .r _, .z, _, _ => rfl
  | .nd _ _ _, .l _, .r _, _, _ | .nd _ _ _, .r _, .l _, _, _ => rfl
  | .nd l _ _, .l p, .l q, v, h => get_put_ne l p q v fun e => h (e ▸ rfl)
  | .nd _ _ r, .r p, .r q, v, h => get_put_ne r p q v fun e => h (e ▸ rfl)
theorem get_put (t : T α) (p q : I) (v : Option α) : (p = q ∧ (t.put p v).get q = v) ∨ (p ≠ q ∧ (t.put p v).get q = t.get q) := by
  by_cases h : p = q
  · exact .inl ⟨h, by rw [← h, get_put_same]⟩
  · exact .inr ⟨h, get_put_ne _ _ _ _ h⟩
theorem putK_eq : ∀ (t : T α) (p : I) (v : Option α) (k : T α → Bool), t.putK p v k = k (t.put p v)
  | .lf, _, _, _ => rfl
  | .nd _ _ _, .z, _, _ => rfl
  | .nd l _ _, .l p, v, _ => putK_eq l p v _
  | .nd _ _ r, .r p, v, _ => putK_eq r p v _
end T

/-! what symbols stand for: a block, and how many elements more than known it has -/
structure Loc where
  blk : Nat
  ext : Nat
abbrev Env := I → Option Loc
def Env.le (e e' : Env) : Prop := ∀ b q, e b = some q → e' b = some q
theorem Env.le_refl (e : Env) : e.le e := fun _ _ h => h
theorem Env.le_trans {a b c : Env} (h : a.le b) (g : b.le c) : a.le c := fun i q hq => g i q (h i q hq)
def bts (l : List Nat) : ByteArray := ⟨(l.map UInt8.ofNat).toArray⟩
mutual
def den (e : Env) : V → Option Value
  | .bool b => some (.bool b)
  | .int k n => some (.int k n)
  | .str l => some (.string (bts l))
  | .ptr b o => (e b).map fun q => .pointer (some ⟨q.blk, o, none⟩)
  | .nptr => some (.pointer none)
  | .slice b o n c p => (e b).map fun q => .slice (some ⟨q.blk, o, none⟩) n (if p then c + q.ext else c)
  | .nslice => some (.slice none 0 0)
  | .esl b o o' => (e b).map fun q => .slice (some ⟨q.blk, if q.ext = 0 then o else o', none⟩) 0 q.ext
  | .map r => (e r).map fun q => .map (some q.blk)
  | .nmap => some (.map none)
  | .func f a c => (denL e a).bind fun a => (denL e c).map fun c => .func (.func f) a.toArray c.toArray
  | .yld l => (e l).map fun q => .func (.yield q.blk) #[] #[]
  | .nfunc => some .nilFunc
  | .nif => some .nilIface
  | .agg l => (denL e l).map fun l => .agg l.toArray
  | .tup l => (denL e l).map fun l => .tuple l.toArray
def denL (e : Env) : List V → Option (List Value)
  | [] => some []
  | v :: r => (den e v).bind fun x => (denL e r).map fun l => x :: l
end
theorem denL_cons {e : Env} {v : V} {r : List V} {xs : List Value} : denL e (v :: r) = some xs ↔ ∃ x l, den e v = some x ∧ denL e r = some l ∧ xs = x :: l := by
  simp only [denL, Option.bind_eq_some_iff, Option.map_eq_some_iff]
  constructor
  · rintro ⟨x, h1, l, h2, rfl⟩; exact ⟨x, l, h1, h2, rfl⟩
  · rintro ⟨x, l, h1, h2, rfl⟩; exact ⟨x, h1, l, h2, rfl⟩
theorem denL_nil {e : Env} {xs : List Value} : denL e [] = some xs ↔ xs = [] := by simp [denL, eq_comm]
mutual
theorem den_mono {e e' : Env} (h : e.le e') : ∀ (v : V) (x : Value), den e v = some x → den e' v = some x
  | .bool _, _, hv | .int _ _, _, hv | .str _, _, hv | .nptr, _, hv | .nslice, _, hv | .nmap, _, hv | .nfunc, _, hv | .nif, _, hv => by
    simp only [den] at hv ⊢; exact hv
  | .ptr _ _, _, hv | .slice _ _ _ _ _, _, hv | .esl _ _ _, _, hv | .map _, _, hv | .yld _, _, hv => by
    simp only [den, Option.map_eq_some_iff] at hv ⊢
    obtain ⟨q, hq, hx⟩ := hv
    exact ⟨q, h _ _ hq, hx⟩
  | .func f a c, x, hv => by
    simp only [den, Option.map_eq_some_iff, Option.bind_eq_some_iff] at hv ⊢
    obtain ⟨a', ha, c', hc, hx⟩ := hv
    exact ⟨a', denL_mono h a a' ha, c', denL_mono h c c' hc, hx⟩
  | .agg l, x, hv => by
    simp only [den, Option.map_eq_some_iff] at hv ⊢
    obtain ⟨a', ha, hx⟩ := hv
    exact ⟨a', denL_mono h l a' ha, hx⟩
  | .tup l, x, hv => by
    simp only [den, Option.map_eq_some_iff] at hv ⊢
    obtain ⟨a', ha, hx⟩ := hv
    exact ⟨a', denL_mono h l a' ha, hx⟩
theorem denL_mono {e e' : Env} (h : e.le e') : ∀ (l : List V) (xs : List Value), denL e l = some xs → denL e' l = some xs
  | [], xs, hv => by simpa [denL] using hv
  | v :: r, xs, hv => by
    rw [denL_cons] at hv ⊢
    obtain ⟨x, l, h1, h2, rfl⟩ := hv
    exact ⟨x, l, den_mono h v x h1, denL_mono h r l h2, rfl⟩
end
theorem denL_len {e : Env} : ∀ {l : List V} {xs : List Value}, denL e l = some xs → xs.length = l.length
  | [], xs, h => by rw [denL_nil.1 h]; rfl
  | v :: r, xs, h => by
    obtain ⟨x, l, _, h2, rfl⟩ := denL_cons.1 h
    simp [denL_len h2]
theorem denL_append {e : Env} : ∀ {a b : List V} {xs ys : List Value}, denL e a = some xs → denL e b = some ys → denL e (a ++ b) = some (xs ++ ys)
  | [], b, xs, ys, ha, hb => by rw [denL_nil.1 ha]; simpa using hb
  | v :: r, b, xs, ys, ha, hb => by
    obtain ⟨x, l, h1, h2, rfl⟩ := denL_cons.1 ha
    exact denL_cons.2 ⟨x, l ++ ys, h1, denL_append h2 hb, rfl⟩
theorem denL_drop {e : Env} : ∀ {a : List V} {xs : List Value} (n : Nat), denL e a = some xs → denL e (a.drop n) = some (xs.drop n)
  | _, _, 0, h => by simpa using h
  | [], xs, n + 1, h => by rw [denL_nil.1 h]; simpa using denL_nil.2 rfl
  | v :: r, xs, n + 1, h => by
    obtain ⟨x, l, h1, h2, rfl⟩ := denL_cons.1 h
    simpa using denL_drop n h2
theorem denL_take {e : Env} : ∀ {a : List V} {xs : List Value} (n : Nat), denL e a = some xs → denL e (a.take n) = some (xs.take n)
  | _, _, 0, h => by simpa using denL_nil.2 rfl
  | [], xs, n + 1, h => by rw [denL_nil.1 h]; simpa using denL_nil.2 rfl
  | v :: r, xs, n + 1, h => by
    obtain ⟨x, l, h1, h2, rfl⟩ := denL_cons.1 h
    simpa using denL_cons.2 ⟨x, l.take n, h1, denL_take n h2, rfl⟩
theorem denL_get {e : Env} : ∀ {a : List V} {xs : List Value} {n : Nat} {v : V}, denL e a = some xs → a[n]? = some v → ∃ x, den e v = some x ∧ xs[n]? = some x
  | [], _, _, _, _, hn => by simp at hn
  | u :: r, xs, 0, v, h, hn => by
    obtain ⟨x, l, h1, _, rfl⟩ := denL_cons.1 h
    simp only [List.getElem?_cons_zero, Option.some.injEq] at hn
    subst hn
    exact ⟨x, h1, by simp⟩
  | u :: r, xs, n + 1, v, h, hn => by
    obtain ⟨x, l, h1, h2, rfl⟩ := denL_cons.1 h
    simp only [List.getElem?_cons_succ] at hn
    obtain ⟨y, hy, hl⟩ := denL_get h2 hn
    exact ⟨y, hy, by simpa using hl⟩

/-! the shapes of what a value stands for -/
theorem den_bool {e : Env} {b : Bool} {x : Value} (h : den e (.bool b) = some x) : x = .bool b := by simpa [den, eq_comm] using h
theorem den_int {e : Env} {k : IntKind} {n : Int} {x : Value} (h : den e (.int k n) = some x) : x = .int k n := by simpa [den, eq_comm] using h
theorem den_str {e : Env} {l : List Nat} {x : Value} (h : den e (.str l) = some x) : x = .string (bts l) := by simpa [den, eq_comm] using h
theorem den_ptr {e : Env} {b : I} {o : Nat} {x : Value} (h : den e (.ptr b o) = some x) : ∃ q, e b = some q ∧ x = .pointer (some ⟨q.blk, o, none⟩) := by
  simp only [den, Option.map_eq_some_iff] at h
  obtain ⟨q, hq, hx⟩ := h
  exact ⟨q, hq, hx.symm⟩
theorem den_slice {e : Env} {b : I} {o n c : Nat} {p : Bool} {x : Value} (h : den e (.slice b o n c p) = some x) :
    ∃ q, e b = some q ∧ x = .slice (some ⟨q.blk, o, none⟩) n (if p then c + q.ext else c) := by
  simp only [den, Option.map_eq_some_iff] at h
  obtain ⟨q, hq, hx⟩ := h
  exact ⟨q, hq, hx.symm⟩
theorem den_esl {e : Env} {b : I} {o o' : Nat} {x : Value} (h : den e (.esl b o o') = some x) :
    ∃ q, e b = some q ∧ x = .slice (some ⟨q.blk, if q.ext = 0 then o else o', none⟩) 0 q.ext := by
  simp only [den, Option.map_eq_some_iff] at h
  obtain ⟨q, hq, hx⟩ := h
  exact ⟨q, hq, hx.symm⟩
theorem den_map {e : Env} {b : I} {x : Value} (h : den e (.map b) = some x) : ∃ q, e b = some q ∧ x = .map (some q.blk) := by
  simp only [den, Option.map_eq_some_iff] at h
  obtain ⟨q, hq, hx⟩ := h
  exact ⟨q, hq, hx.symm⟩
theorem den_agg {e : Env} {l : List V} {x : Value} (h : den e (.agg l) = some x) : ∃ xs, denL e l = some xs ∧ x = .agg xs.toArray := by
  simp only [den, Option.map_eq_some_iff] at h
  obtain ⟨q, hq, hx⟩ := h
  exact ⟨q, hq, hx.symm⟩
theorem den_tup {e : Env} {l : List V} {x : Value} (h : den e (.tup l) = some x) : ∃ xs, denL e l = some xs ∧ x = .tuple xs.toArray := by
  simp only [den, Option.map_eq_some_iff] at h
  obtain ⟨q, hq, hx⟩ := h
  exact ⟨q, hq, hx.symm⟩
theorem den_func {e : Env} {f : FuncId} {a c : List V} {x : Value} (h : den e (.func f a c) = some x) : ∃ xs ys, denL e a = some xs ∧ denL e c = some ys ∧ x = .func (.func f) xs.toArray ys.toArray := by
  simp only [den, Option.bind_eq_some_iff, Option.map_eq_some_iff] at h
  obtain ⟨q, hq, y, hy, hx⟩ := h
  exact ⟨q, y, hq, hy, hx.symm⟩
theorem den_un {e : Env} : den e V.un = some undef := by simp [V.un, den, denL, undef]

/-! temporaries -/
noncomputable def tmV (tm : T V) (t : Nat) : V := (tm.get (I.of t)).getD V.un
def TmR (e : Env) (tm : T V) (a : Array Value) : Prop := ∀ t : Nat, den e (tmV tm t) = some (a.getD t undef)
theorem TmR.mono {e e' : Env} (h : e.le e') {tm : T V} {a : Array Value} (r : TmR e tm a) : TmR e' tm a := fun t => den_mono h _ _ (r t)
theorem TmR.put {e : Env} {tm : T V} {a : Array Value} (r : TmR e tm a) {d : Nat} (hd : d < a.size) {v : V} {x : Value} (hv : den e v = some x) :
    TmR e (tm.put (I.of d) (some v)) (a.setIfInBounds d x) := by
  intro t
  rcases T.get_put tm (I.of d) (I.of t) (some v) with ⟨h, g⟩ | ⟨h, g⟩
  · have ht := I.of_inj h
    subst ht
    unfold tmV
    rw [g]
    simp [Array.getD_eq_getD_getElem?, hd, hv]
  · have ht : d ≠ t := fun e => h (e ▸ rfl)
    have := r t
    unfold tmV at this ⊢
    rw [g, this]
    simp [Array.getD_eq_getD_getElem?, Array.getElem?_setIfInBounds_ne ht]

/-! memory -/
def NF (fz : Nat × Nat) (n : Nat) : Prop := ∀ o, o < n → ¬ (fz.1 ≤ o ∧ o < fz.2)
def CR (sz ext : Nat) (vs cs : List Value) : Prop := (sz = 0 ∧ cs = vs) ∨ (0 < sz ∧ ∃ rest, cs = vs ++ rest ∧ rest.length = ext * sz)
def ER (e : Env) : List (V × V × Nat) → List MapEntry → Prop
  | [], [] => True
  | x :: l, m :: ms => den e x.1 = some m.key ∧ den e x.2.1 = some m.val ∧ m.born = x.2.2 ∧ ER e l ms
  | _, _ => False
def BR (e : Env) (w : World) (q : Loc) : B → Prop
  | .cells c t sz => ∃ cs fz vs, w.heap[q.blk]? = some (.cells cs t fz) ∧ NF fz cs.size ∧ denL e c = some vs ∧ CR sz q.ext vs cs.toList
  | .map es ck => ∃ os, w.heap[q.blk]? = some (.map os ck) ∧ ER e es os.toList
  | .loop st pd _ n tm ps as bd df => ∃ d tmps fn', e df = some d ∧ w.heap[q.blk]? = some (.loop { state := st, pending := pd, fn := fn', tmps, params := ps.toArray, assign := as, body := bd, defers := d.blk }) ∧
      tmps.size = n ∧ TmR e tm tmps
  | .defd => w.heap[q.blk]? = some (.deferred (some []))
theorem ER.mono {e e' : Env} (h : e.le e') : ∀ {l : List (V × V × Nat)} {m : List MapEntry}, ER e l m → ER e' l m
  | [], [], _ => trivial
  | _ :: _, _ :: _, ⟨a, b, c, d⟩ => ⟨den_mono h _ _ a, den_mono h _ _ b, c, ER.mono h d⟩
  | [], _ :: _, h => h.elim
  | _ :: _, [], h => h.elim
theorem BR.mono {e e' : Env} (h : e.le e') {w : World} {q : Loc} : ∀ {b : B}, BR e w q b → BR e' w q b
  | .cells _ _ _, ⟨cs, fz, vs, h1, h2, h3, h4⟩ => ⟨cs, fz, vs, h1, h2, denL_mono h _ _ h3, h4⟩
  | .map _ _, ⟨os, h1, h2⟩ => ⟨os, h1, h2.mono h⟩
  | .loop _ _ _ _ _ _ _ _ _, ⟨d, t, f, h0, h1, h2, h3⟩ => ⟨d, t, f, h _ _ h0, h1, h2, h3.mono h⟩
  | .defd, h1 => h1
theorem BR.world {e : Env} {w w' : World} {q : Loc} (h : w'.heap[q.blk]? = w.heap[q.blk]?) : ∀ {b : B}, BR e w q b → BR e w' q b
  | .cells _ _ _, ⟨cs, fz, vs, h1, h2⟩ => ⟨cs, fz, vs, h.trans h1, h2⟩
  | .map _ _, ⟨os, h1, h2⟩ => ⟨os, h.trans h1, h2⟩
  | .loop _ _ _ _ _ _ _ _ _, ⟨d, t, f, h0, h1, h2⟩ => ⟨d, t, f, h0, h.trans h1, h2⟩
  | .defd, h1 => h.trans h1
theorem BR.lt {e : Env} {w : World} {q : Loc} {b : B} (h : BR e w q b) : q.blk < w.heap.size := by
  have key : ∀ {o : Obj}, w.heap[q.blk]? = some o → q.blk < w.heap.size := fun ho => by
    rcases Nat.lt_or_ge q.blk w.heap.size with h | h
    · exact h
    · rw [Array.getElem?_eq_none h] at ho; cases ho
  cases b with
  | cells c t sz => obtain ⟨cs, fz, vs, h1, _⟩ := h; exact key h1
  | map es ck => obtain ⟨os, h1, _⟩ := h; exact key h1
  | loop => obtain ⟨d, t, _, _, h1, _⟩ := h; exact key h1
  | defd => exact key h
/-- reading: each known block lies in memory -/
def Rd (n0 : Nat) (e : Env) (h : H) (w : World) : Prop := ∀ b x, h.get b = some x → ∃ q, e b = some q ∧ n0 ≤ q.blk ∧ BR e w q x
structure Sat (n0 : Nat) (e : Env) (h : H) (w : World) : Prop where
  rd : Rd n0 e h w
  base : n0 ≤ w.heap.size
  inj : ∀ b b' x x' q q', h.get b = some x → h.get b' = some x' → e b = some q → e b' = some q' → q.blk = q'.blk → b = b'
/-- block c is none of those that h knows -/
def Out (e : Env) (h : H) (c : Nat) : Prop := ∀ b x q, h.get b = some x → e b = some q → q.blk ≠ c
structure Fr (e : Env) (h : H) (w w' : World) : Prop where
  os : w'.os = w.os
  tape : w'.tape = w.tape
  output : w'.output = w.output
  size : w.heap.size ≤ w'.heap.size
  keep : ∀ c, c < w.heap.size → Out e h c → w'.heap[c]? = w.heap[c]?
def Fresh (nx nx' : I) (e : Env) : Prop := ∀ b : I, nx.nat ≤ b.nat → b.nat < nx'.nat → e b = none
structure Stp (n0 : Nat) (e : Env) (h : H) (w : World) (nx : I) (e' : Env) (h' : H) (w' : World) (nx' : I) : Prop where
  sat : Sat n0 e' h' w'
  le : e.le e'
  out : ∀ b : I, (b.nat < nx.nat ∨ nx'.nat ≤ b.nat) → e' b = e b
  fr : Fr e h w w'
  im : ∀ c, c < w.heap.size → Out e h c → Out e' h' c
  nx : nx.nat ≤ nx'.nat
theorem Fr.refl (e : Env) (h : H) (w : World) : Fr e h w w := ⟨rfl, rfl, rfl, Nat.le_refl _, fun _ _ _ => rfl⟩
def Env.upd (e : Env) (b : I) (q : Loc) : Env := fun c => if c = b then some q else e c
theorem Env.upd_same (e : Env) (b : I) (q : Loc) : (e.upd b q) b = some q := by simp [Env.upd]
theorem Env.upd_ne {e : Env} {b c : I} {q : Loc} (h : c ≠ b) : (e.upd b q) c = e c := by simp [Env.upd, h]
theorem Env.le_upd {e : Env} {b : I} {q : Loc} (h : e b = none) : e.le (e.upd b q) := fun c r hc => by
  rw [Env.upd_ne (fun hb => by rw [hb, h] at hc; cases hc)]
  exact hc
/-- one new block at the end of memory -/
structure New (w w' : World) : Prop where
  os : w'.os = w.os
  tape : w'.tape = w.tape
  output : w'.output = w.output
  size : w'.heap.size = w.heap.size + 1
  keep : ∀ c, c < w.heap.size → w'.heap[c]? = w.heap[c]?
theorem Stp.new {n0 : Nat} {e : Env} {h : H} {w w' : World} {nx : I} (s : Sat n0 e h w) (hn : e nx = none) (n : New w w') {q : Loc} (hq : q.blk = w.heap.size) {x : B} (hx : BR (Env.upd e nx q) w' q x) :
    Stp n0 e h w nx (Env.upd e nx q) (h.put nx (some x)) w' nx.inc where
  sat := by
    have hget : ∀ b y, (h.put nx (some x)).get b = some y → (b = nx ∧ y = x) ∨ (b ≠ nx ∧ h.get b = some y) := fun b y hb => by
      rcases T.get_put h nx b (some x) with ⟨h1, h2⟩ | ⟨h1, h2⟩
      · rw [h2] at hb; exact .inl ⟨h1.symm, (Option.some.inj hb).symm⟩
      · rw [h2] at hb; exact .inr ⟨fun hh => h1 hh.symm, hb⟩
    have hold : ∀ b y q', h.get b = some y → e b = some q' → q'.blk < w.heap.size := fun b y q' hb hq' => by
      obtain ⟨q2, h1, _, h3⟩ := s.rd b y hb
      rw [hq'] at h1; cases h1
      exact h3.lt
    refine ⟨fun b y hb => ?_, by rw [n.size]; have := s.base; omega, fun b b' y y' q1 q2 hb hb' h1 h2 h3 => ?_⟩
    · rcases hget b y hb with ⟨e1, e2⟩ | ⟨hne, g1⟩
      · rw [e1, e2]
        exact ⟨q, Env.upd_same _ _ _, by rw [hq]; exact s.base, hx⟩
      · obtain ⟨q', h1, h2, h3⟩ := s.rd b y g1
        exact ⟨q', by rw [Env.upd_ne hne]; exact h1, h2, (h3.world (n.keep _ h3.lt)).mono (Env.le_upd hn)⟩
    · rcases hget b y hb with ⟨e1, _⟩ | ⟨hne, g1⟩ <;> rcases hget b' y' hb' with ⟨e2, _⟩ | ⟨hne', g2⟩
      · rw [e1, e2]
      · rw [e1, Env.upd_same] at h1
        rw [Env.upd_ne hne'] at h2
        cases h1
        have := hold b' y' q2 g2 h2
        omega
      · rw [e2, Env.upd_same] at h2
        rw [Env.upd_ne hne] at h1
        cases h2
        have := hold b y q1 g1 h1
        omega
      · rw [Env.upd_ne hne] at h1
        rw [Env.upd_ne hne'] at h2
        exact s.inj b b' y y' q1 q2 g1 g2 h1 h2 h3
  le := Env.le_upd hn
  out := fun b hb => Env.upd_ne (fun hh => by
    have := I.nat_inc nx
    rw [hh] at hb
    omega)
  fr := ⟨n.os, n.tape, n.output, by rw [n.size]; omega, fun c hc _ => n.keep c hc⟩
  im := fun c hc ho b y q' hb hq' => by
    rcases T.get_put h nx b (some x) with ⟨h1, h2⟩ | ⟨h1, h2⟩
    · rw [← h1, Env.upd_same] at hq'
      cases hq'
      omega
    · rw [h2] at hb
      rw [Env.upd_ne (fun hh => h1 hh.symm)] at hq'
      exact ho b y q' hb hq'
  nx := by rw [I.nat_inc]; omega
/-- one block is written: its new content -/
structure Upd (w w' : World) (b : Nat) : Prop where
  os : w'.os = w.os
  tape : w'.tape = w.tape
  output : w'.output = w.output
  size : w'.heap.size = w.heap.size
  keep : ∀ c, c ≠ b → w'.heap[c]? = w.heap[c]?
theorem Upd.refl (w : World) (b : Nat) : Upd w w b := ⟨rfl, rfl, rfl, rfl, fun _ _ => rfl⟩
theorem Stp.upd {n0 : Nat} {e : Env} {h : H} {w w' : World} {nx b : I} {y : B} {q : Loc} (s : Sat n0 e h w) (hb : h.get b = some y) (hq : e b = some q) (u : Upd w w' q.blk) {x : B} (hx : BR e w' q x) :
    Stp n0 e h w nx e (h.put b (some x)) w' nx where
  sat := by
    have hget : ∀ c z, (h.put b (some x)).get c = some z → (c = b ∧ z = x) ∨ (c ≠ b ∧ h.get c = some z) := fun c z hc => by
      rcases T.get_put h b c (some x) with ⟨h1, h2⟩ | ⟨h1, h2⟩
      · rw [h2] at hc; exact .inl ⟨h1.symm, (Option.some.inj hc).symm⟩
      · rw [h2] at hc; exact .inr ⟨fun hh => h1 hh.symm, hc⟩
    have hany : ∀ c z, (h.put b (some x)).get c = some z → ∃ z', h.get c = some z' := fun c z hc => by
      rcases hget c z hc with ⟨e1, _⟩ | ⟨_, h1⟩
      · exact ⟨y, by rw [e1]; exact hb⟩
      · exact ⟨_, h1⟩
    refine ⟨fun c z hc => ?_, by rw [u.size]; exact s.base, fun c c' z z' q1 q2 hc hc' h1 h2 h3 => ?_⟩
    · rcases hget c z hc with ⟨e1, e2⟩ | ⟨hne, hc⟩
      · obtain ⟨q', h1, h2, _⟩ := s.rd b y hb
        rw [hq] at h1; cases h1
        rw [e1, e2]
        exact ⟨q, hq, h2, hx⟩
      · obtain ⟨q', h1, h2, h3⟩ := s.rd c z hc
        refine ⟨q', h1, h2, h3.world (u.keep _ fun hh => hne ?_)⟩
        exact s.inj c b z y q' q hc hb h1 hq hh
    · obtain ⟨z1, hz1⟩ := hany c z hc
      obtain ⟨z2, hz2⟩ := hany c' z' hc'
      exact s.inj c c' z1 z2 q1 q2 hz1 hz2 h1 h2 h3
  le := Env.le_refl e
  out := fun _ _ => rfl
  fr := ⟨u.os, u.tape, u.output, Nat.le_of_eq u.size.symm, fun c _ ho => u.keep c fun hh => ho b y q hb hq hh.symm⟩
  im := fun c _ ho d z q' hd hq' => by
    rcases T.get_put h b d (some x) with ⟨h1, h2⟩ | ⟨h1, h2⟩
    · rw [← h1] at hq'
      exact ho b y q' hb hq'
    · rw [h2] at hd
      exact ho d z q' hd hq'
  nx := Nat.le_refl _
theorem get_del {h : H} {b c : I} {z : B} (hc : (h.put b none).get c = some z) : c ≠ b ∧ h.get c = some z := by
  rcases T.get_put h b c none with ⟨_, h2⟩ | ⟨h1, h2⟩
  · rw [h2] at hc; cases hc
  · rw [h2] at hc; exact ⟨fun hh => h1 hh.symm, hc⟩
theorem Sat.del {n0 : Nat} {e : Env} {h : H} {w : World} (s : Sat n0 e h w) (b : I) : Sat n0 e (h.put b none) w :=
  ⟨fun c z hc => s.rd c z (get_del hc).2, s.base, fun c c' z z' q q' hc hc' h1 h2 h3 => s.inj c c' z z' q q' (get_del hc).2 (get_del hc').2 h1 h2 h3⟩
theorem Stp.del {n0 : Nat} {e : Env} {h : H} {w : World} (s : Sat n0 e h w) (b nx : I) : Stp n0 e h w nx e (h.put b none) w nx :=
  ⟨s.del b, Env.le_refl e, fun _ _ => rfl, Fr.refl e h w, fun _ _ ho c z q hc hq => ho c z q (get_del hc).2 hq, Nat.le_refl _⟩
/-- a block is written over and forgotten -/
theorem Stp.kill {n0 : Nat} {e : Env} {h : H} {w w' : World} {b : I} {y : B} {q : Loc} (s : Sat n0 e h w) (hb : h.get b = some y) (hq : e b = some q) (u : Upd w w' q.blk) (nx : I) : Stp n0 e h w nx e (h.put b none) w' nx where
  sat := by
    refine ⟨fun c z hc => ?_, by rw [u.size]; exact s.base, fun c c' z z' q1 q2 hc hc' h1 h2 h3 => s.inj c c' z z' q1 q2 (get_del hc).2 (get_del hc').2 h1 h2 h3⟩
    obtain ⟨g1, g2⟩ := get_del hc
    obtain ⟨q2, k1, k2, k3⟩ := s.rd c z g2
    exact ⟨q2, k1, k2, k3.world (u.keep _ fun hh => g1 (s.inj c b z y q2 q g2 hb k1 hq hh))⟩
  le := Env.le_refl e
  out := fun _ _ => rfl
  fr := ⟨u.os, u.tape, u.output, Nat.le_of_eq u.size.symm, fun c _ ho => u.keep c fun hh => ho b y q hb hq hh.symm⟩
  im := fun _ _ ho c z q2 hc hq2 => ho c z q2 (get_del hc).2 hq2
  nx := Nat.le_refl _
/-- a block goes on under a new name, written over -/
theorem Stp.move {n0 : Nat} {e : Env} {h : H} {w w' : World} {nx b : I} {y : B} {q : Loc} (s : Sat n0 e h w) (hb : h.get b = some y) (hq : e b = some q) (hn : e nx = none) (u : Upd w w' q.blk) {q' : Loc} (hq' : q'.blk = q.blk) {x : B}
    (hx : BR (Env.upd e nx q') w' q' x) : Stp n0 e h w nx (Env.upd e nx q') ((h.put b none).put nx (some x)) w' nx.inc where
  sat := by
    have hget : ∀ c z, ((h.put b none).put nx (some x)).get c = some z → (c = nx ∧ z = x) ∨ (c ≠ nx ∧ c ≠ b ∧ h.get c = some z) := fun c z hc => by
      rcases T.get_put (h.put b none) nx c (some x) with ⟨h1, h2⟩ | ⟨h1, h2⟩
      · rw [h2] at hc; exact .inl ⟨h1.symm, (Option.some.inj hc).symm⟩
      · rw [h2] at hc; exact .inr ⟨fun hh => h1 hh.symm, get_del hc⟩
    have hne : ∀ c z q2, c ≠ b → h.get c = some z → e c = some q2 → q2.blk ≠ q.blk := fun c z q2 hcb hc h1 hh => hcb (s.inj c b z y q2 q hc hb h1 hq hh)
    refine ⟨fun c z hc => ?_, by rw [u.size]; exact s.base, fun c c' z z' q1 q2 hc hc' h1 h2 h3 => ?_⟩
    · rcases hget c z hc with ⟨e1, e2⟩ | ⟨g1, g2, g3⟩
      · rw [e1, e2]
        obtain ⟨q2, k1, k2, _⟩ := s.rd b y hb
        rw [hq] at k1; cases k1
        exact ⟨q', Env.upd_same _ _ _, by rw [hq']; exact k2, hx⟩
      · obtain ⟨q2, k1, k2, k3⟩ := s.rd c z g3
        exact ⟨q2, by rw [Env.upd_ne g1]; exact k1, k2, (k3.world (u.keep _ (hne c z q2 g2 g3 k1))).mono (Env.le_upd hn)⟩
    · rcases hget c z hc with ⟨e1, _⟩ | ⟨g1, g2, g3⟩ <;> rcases hget c' z' hc' with ⟨e2, _⟩ | ⟨g4, g5, g6⟩
      · rw [e1, e2]
      · rw [e1, Env.upd_same] at h1
        rw [Env.upd_ne g4] at h2
        cases h1
        exact absurd (h3.symm.trans hq') (hne c' z' q2 g5 g6 h2)
      · rw [e2, Env.upd_same] at h2
        rw [Env.upd_ne g1] at h1
        cases h2
        exact absurd (h3.trans hq') (hne c z q1 g2 g3 h1)
      · rw [Env.upd_ne g1] at h1
        rw [Env.upd_ne g4] at h2
        exact s.inj c c' z z' q1 q2 g3 g6 h1 h2 h3
  le := Env.le_upd hn
  out := fun c hc => Env.upd_ne (fun hh => by
    have := I.nat_inc nx
    rw [hh] at hc
    omega)
  fr := ⟨u.os, u.tape, u.output, Nat.le_of_eq u.size.symm, fun c _ ho => u.keep c fun hh => ho b y q hb hq hh.symm⟩
  im := fun c _ ho d z q2 hd hq2 => by
    rcases T.get_put (h.put b none) nx d (some x) with ⟨h1, h2⟩ | ⟨h1, h2⟩
    · rw [← h1, Env.upd_same] at hq2
      cases hq2
      rw [hq']
      exact ho b y q hb hq
    · rw [h2] at hd
      rw [Env.upd_ne (fun hh => h1 hh.symm)] at hq2
      exact ho d z q2 (get_del hd).2 hq2
  nx := by rw [I.nat_inc]; omega
theorem Stp.refl {n0 : Nat} {e : Env} {h : H} {w : World} {nx : I} (s : Sat n0 e h w) : Stp n0 e h w nx e h w nx :=
  ⟨s, Env.le_refl e, fun _ _ => rfl, ⟨rfl, rfl, rfl, Nat.le_refl _, fun _ _ _ => rfl⟩, fun _ _ ho => ho, Nat.le_refl _⟩
theorem Stp.trans {n0 : Nat} {e e1 e2 : Env} {h h1 h2 : H} {w w1 w2 : World} {nx n1 n2 : I} (a : Stp n0 e h w nx e1 h1 w1 n1) (b : Stp n0 e1 h1 w1 n1 e2 h2 w2 n2) :
    Stp n0 e h w nx e2 h2 w2 n2 where
  sat := b.sat
  le := Env.le_trans a.le b.le
  out := fun i hi => by
    have h1 := a.nx
    have h2 := b.nx
    rw [b.out i (by omega), a.out i (by omega)]
  fr := ⟨b.fr.os.trans a.fr.os, b.fr.tape.trans a.fr.tape, b.fr.output.trans a.fr.output, Nat.le_trans a.fr.size b.fr.size, fun c hc ho =>
    (b.fr.keep c (Nat.lt_of_lt_of_le hc a.fr.size) (a.im c hc ho)).trans (a.fr.keep c hc ho)⟩
  im := fun c hc ho => b.im c (Nat.lt_of_lt_of_le hc a.fr.size) (a.im c hc ho)
  nx := Nat.le_trans a.nx b.nx
theorem Fresh.left {nx n1 n2 : I} {e : Env} (f : Fresh nx n2 e) (h : n1.nat ≤ n2.nat) : Fresh nx n1 e := fun b h1 h2 => f b h1 (by omega)
theorem Stp.fresh {n0 : Nat} {e e1 : Env} {h h1 : H} {w w1 : World} {nx n1 n2 : I} (a : Stp n0 e h w nx e1 h1 w1 n1) (f : Fresh nx n2 e) : Fresh n1 n2 e1 := fun b h1 h2 => by
  rw [a.out b (.inr h1)]
  exact f b (Nat.le_trans a.nx h1) h2
end Go.Sx
