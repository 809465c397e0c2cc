/- What operations of the laws of chains yield, as kinds; calls by kinds. -/
import Derived.Great.BuildSlice
import Derived.Test.YtlhicnfeajejhaaGreatDoorKMl
set_option maxRecDepth 1000000
set_option maxHeartbeats 16000000
namespace Go.Proofs.YtlhicnfeajejhaaGreatDoor
open Go.RowKit Go.Cx
inductive Fk
 | any
 | tt
 | val (v : Value)
 | cx (K : List Cl)
 | ints (l : List (Int × Int))
 | ch (L : List (Int × Int))
 | cf (f : Int → Int) (N S : Nat)
 | wd (l : List Int)
 | tup (l : List Int)
 | own (b : Nat) (L : List (Int × Int))
def Fk.holds : Fk → Value → World → Prop
 | .any, _, _ => True
 | .tt, v, _ => v = .bool true
 | .val x, v, _ => v = x
 | .cx K, v, w => ∃ u l, v = .agg #[u] ∧ SlC w u l ∧ l.map Ce.cl = K
 | .ints l, v, w => Sl w 1 v (pv l)
 | .ch L, v, w => Sl w 3 v (tv (ctm L))
 | .cf f N S, v, w => ∃ L, Cn L ∧ (∀ c, co L c = f c) ∧ L.length ≤ N ∧ TOk S (ctm L) ∧ Sl w 3 v (tv (ctm L))
 | .wd l, v, w => Sl w 2 v (wvs l)
 | .own b L, v, w => b ≤ w.heap.size ∧ w.ownsRow b 71 3 v L.length (tv (ctm L))
 | .tup l, v, w => ∃ r, v = .tuple #[r, .bool true] ∧ Sl w 2 r (wvs l)
def Gives (k : Fk) (w : World) (e : Ending) (w' : World) : Prop := ∃ r, e = .returned r ∧ k.holds r w' ∧ Below w.heap.size w w'
theorem build_run {P : Program} (w : World) (t e : TypeId) (len : Nat) (parts : Array (Nat × Value)) (cells : Array Value) (z : Value) (s b : Nat) (hu : P.underlying t = some (.slice e))
  (hi : (P.info? e).map (fun i => (i.zero, i.size, i.bytes)) = some (some z, s, b)) (hsmall : ¬ len * s > 2 ^ 24) (hpos : ¬ len * s = 0)
  (hf : Instr.fill (fun i => some (i * s, s)) ((Array.range (len * s)).map (z.cells[· % z.cells.size]!)) parts.toList = some cells) :
  (Instr.buildSlice t len parts).run P w = .ok (.slice (some ⟨w.heap.size, 0, none⟩) len len) (w.alloc (.cells cells e)) := by
 cases hie : P.info? e with
 | none => rw [hie] at hi; simp at hi
 | some ie =>
  rw [hie] at hi
  simp only [Option.map_some, Option.some.injEq, Prod.mk.injEq] at hi
  obtain ⟨h1, h2, _⟩ := hi
  subst h2
  exact run_buildSlice w t e len parts cells ie z hu hie h1 hsmall hpos hf
theorem co_none {L : List (Int × Int)} {c : Int} (h : ∀ p ∈ L, p.1 ≠ c) : co L c = 0 := co_zero L c h
def rawsK (K : List Cl) : List (Int × Sd) := K.flatMap fun x => x.s.map fun y => (x.id, y)
theorem raws_cl (l : List Ce) : raws l = rawsK (l.map Ce.cl) := by
 induction l with
 | nil => rfl
 | cons x l ih => show _ ++ raws l = _; rw [ih]; rfl
def KOk (K : List Cl) : Prop := ∀ x ∈ K, (I64 x.id ∧ I64 x.dim) ∧ x.s.length ≤ 19 ∧ ∀ s ∈ x.s, I64 s.c ∧ I64 s.g
theorem KOk.cok {K : List Cl} {l : List Ce} (h : KOk K) (hl : l.map Ce.cl = K) : COk l := fun x hx => by
 have := h x.cl (by rw [← hl]; exact List.mem_map.2 ⟨x, hx, rfl⟩)
 exact this
def LOk (S : Nat) (L : List (Int × Int)) : Prop := ∀ p ∈ L, I64 p.1 ∧ nb p.2 ≤ S
theorem LOk.tok {S : Nat} {L : List (Int × Int)} (h : LOk S L) : TOk S (ctm L) := fun t ht => by
 obtain ⟨p, hp, rfl⟩ := List.mem_map.1 ht
 exact ⟨(h p hp).1.1, (h p hp).1.2, by show (mg p.2).size ≤ S; rw [mg_size]; exact (h p hp).2⟩
section
variable {P : Program} {Q : Exit → Act → World → Prop} {o : Oper} {a : Act} {w : World} {K : Act → World → Prop}
variable {k : Fk}
theorem wanted_tt {ops : Array Oper} (j d : Nat) (hg : o.guard = some (j, true)) (hj : (ops[j]?).bind (·.dst) = some d) (hs : d < a.tmps.size) (h : a.tmps.getD d undef = .bool true) : Region.wanted o (yielded ops a.tmps) = true := by
 have h1 : a.tmps[d]? = some (.bool true) := by
  rw [Array.getD_eq_getD_getElem?, Array.getElem?_eq_getElem hs] at h
  rw [Array.getElem?_eq_getElem hs]
  exact congrArg some h
 unfold Region.wanted
 rw [hg]
 show (yielded ops a.tmps j == some true) = true
 unfold yielded
 rw [hj]
 show ((match a.tmps[d]? with | some (.bool b) => some b | _ => none) == some true) = true
 rw [h1]; rfl
def noDst (ops : Array Oper) (s : Nat) : Bool := (List.range ops.size).all fun i => (ops[i]?).bind (·.dst) != some s
theorem noDst_spec {ops : Array Oper} {s : Nat} (h : noDst ops s = true) (i : Nat) (o : Oper) (ho : ops[i]? = some o) : o.dst ≠ some s := fun e => by
 have h1 := List.all_eq_true.1 h i (List.mem_range.2 (Array.getElem?_eq_some_iff.1 ho).1)
 rw [ho] at h1
 simp [e] at h1
end
theorem enter_fn {P : Program} {f : Nat} {fn : Func} (hf : P.funcs[f]? = some fn) (h1 : (fn.name == "runtime.NumGoroutine") = false) (h2 : fn.body.isNone = false) (args : Array Value) (w : World) : (callFunc f args).run P w = .ok (.enter f args) w := by
 have h3 : ¬ fn.name = "runtime.NumGoroutine" := by simpa using h1
 have h4 : ¬ fn.body = none := fun e => by rw [e] at h2; cases h2
 simp [callFunc, hf, h3, h4, go_sem]
theorem lok {L : List (Int × Int)} (h : ∀ p ∈ L, (0 ≤ p.1 ∧ p.1 ≤ 100) ∧ p.2.natAbs < 256) : LOk 100 L := fun p hp => ⟨by have := h p hp; unfold I64; omega, Nat.le_trans (nb_le p.2 1 (by have := (h p hp).2; omega)) (by omega)⟩
theorem ef_ref07_Same : ∀ args w, (callFunc 23 args).run Tryz.prog w = .ok (.enter 23 args) w := enter_fn Tryz.func23 (by kernel_rfl) (by kernel_rfl)
theorem ef_ref01_From : ∀ args w, (callFunc 29 args).run Tryz.prog w = .ok (.enter 29 args) w := enter_fn Tryz.func29 (by kernel_rfl) (by kernel_rfl)
theorem svSame' (v u : Value) (L : List (Int × Int)) (w : World) (h : (Fk.ch L).holds v w) (k : (Fk.ch L).holds u w) :
  Calls Tryz.prog 23 #[v, u] w (Gives .tt w) :=
 (svSame v u _ _ w h k).mono fun e w' ⟨q, he, hq, hb⟩ => ⟨_, he, by show Value.bool q = _; rw [hq.2 rfl], hb⟩
end Go.Proofs.YtlhicnfeajejhaaGreatDoor
