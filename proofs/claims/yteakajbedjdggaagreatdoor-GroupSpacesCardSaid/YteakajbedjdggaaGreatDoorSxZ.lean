import Derived.Test.YteakajbedjdggaaGreatDoorSxY
import Derived.Maps.Range
import Derived.Lib.SlKeysI
/-
  Maps with int keys: sorted keys, the greatest dimension; new blocks with others between.
-/
noncomputable section
namespace Go.Sx
open Go Go.RowKit Go.Maps

theorem Stp.below {n0 : Nat} {e : Env} {h : H} {w w' : World} (s : Sat n0 e h w) (nx : I) (b : Below w.heap.size w w') : Stp n0 e h w nx e h w' nx where
  sat := ⟨fun c z hc => by
      obtain ⟨q, h1, h2, h3⟩ := s.rd c z hc
      exact ⟨q, h1, h2, h3.world (b.block _ h3.lt)⟩, Nat.le_trans s.base b.size, s.inj⟩
  le := Env.le_refl e
  out := fun _ _ => rfl
  fr := ⟨b.os, b.tape, b.output, b.size, fun c hc _ => b.block c hc⟩
  im := fun _ _ ho => ho
  nx := Nat.le_refl _
theorem Stp.anew {n0 : Nat} {e : Env} {h : H} {w w' : World} {nx : I} (s : Sat n0 e h w) (hn : e nx = none) (n : Below w.heap.size w w') {q : Loc} (hq : w.heap.size ≤ q.blk) {x : B} (hx : BR (Env.upd e nx q) w' q x) :
    Stp n0 e h w nx (Env.upd e nx q) (h.put nx (some x)) w' nx.inc where
  sat := by
    have hget : ∀ b y, (h.put nx (some x)).get b = some y → (b = nx ∧ y = x) ∨ (b ≠ nx ∧ h.get b = some y) := fun b y hb => by
      rcases T.get_put h nx b (some x) with ⟨h1, h2⟩ | ⟨h1, h2⟩
      · rw [h2] at hb; exact .inl ⟨h1.symm, (Option.some.inj hb).symm⟩
      · rw [h2] at hb; exact .inr ⟨fun hh => h1 hh.symm, hb⟩
    have hold : ∀ b y q', h.get b = some y → e b = some q' → q'.blk < w.heap.size := fun b y q' hb hq' => by
      obtain ⟨q2, h1, _, h3⟩ := s.rd b y hb
      rw [hq'] at h1; cases h1
      exact h3.lt
    refine ⟨fun b y hb => ?_, Nat.le_trans s.base n.size, fun b b' y y' q1 q2 hb hb' h1 h2 h3 => ?_⟩
    · rcases hget b y hb with ⟨e1, e2⟩ | ⟨hne, g1⟩
      · rw [e1, e2]
        exact ⟨q, Env.upd_same _ _ _, Nat.le_trans s.base hq, hx⟩
      · obtain ⟨q', h1, h2, h3⟩ := s.rd b y g1
        exact ⟨q', by rw [Env.upd_ne hne]; exact h1, h2, (h3.world (n.block _ h3.lt)).mono (Env.le_upd hn)⟩
    · rcases hget b y hb with ⟨e1, _⟩ | ⟨hne, g1⟩ <;> rcases hget b' y' hb' with ⟨e2, _⟩ | ⟨hne', g2⟩
      · rw [e1, e2]
      · rw [e1, Env.upd_same] at h1
        rw [Env.upd_ne hne'] at h2
        cases h1
        have := hold b' y' q2 g2 h2
        omega
      · rw [e2, Env.upd_same] at h2
        rw [Env.upd_ne hne] at h1
        cases h2
        have := hold b y q1 g1 h1
        omega
      · rw [Env.upd_ne hne] at h1
        rw [Env.upd_ne hne'] at h2
        exact s.inj b b' y y' q1 q2 g1 g2 h1 h2 h3
  le := Env.le_upd hn
  out := fun b hb => Env.upd_ne (fun hh => by
    have := I.nat_inc nx
    rw [hh] at hb
    omega)
  fr := ⟨n.os, n.tape, n.output, n.size, fun c hc _ => n.block c hc⟩
  im := fun c hc ho b y q' hb hq' => by
    rcases T.get_put h nx b (some x) with ⟨h1, h2⟩ | ⟨h1, h2⟩
    · rw [← h1, Env.upd_same] at hq'
      cases hq'
      omega
    · rw [h2] at hb
      rw [Env.upd_ne (fun hh => h1 hh.symm)] at hq'
      exact ho b y q' hb hq'
  nx := by rw [I.nat_inc]; omega

/-! keys, put in order -/
def fstK (x : V × V × Nat) : V := Prod.rec (motive := fun _ => V) (fun v _ => v) x
def valK (x : V × V × Nat) : V := Prod.rec (motive := fun _ => V) (fun _ y => Prod.rec (motive := fun _ => V) (fun v _ => v) y) x
def brnK (x : V × V × Nat) : Nat := Prod.rec (motive := fun _ => Nat) (fun _ y => Prod.rec (motive := fun _ => Nat) (fun _ n => n) y) x
def insK (x : Int) (l : List Int) : (List Int → Bool) → Bool :=
  List.rec (motive := fun _ => (List Int → Bool) → Bool) (fun k => k [x]) (fun y r ih k => br (ltI x y) (k (x :: y :: r)) (ih fun r => k (y :: r))) l
def srtB (l : List Int) : Int → Bool := List.rec (motive := fun _ => Int → Bool) (fun _ => true) (fun x _ ih lo => gd (ltI lo x) (ih x)) l
def keysK (ck : Nat) (es : List (V × V × Nat)) : Nat → (List Int → Bool) → Bool :=
  List.rec (motive := fun _ => Nat → (List Int → Bool) → Bool) (fun _ k => k []) (fun x _ ih lo k => onInt (fstK x) fun kd n => onKind kd .i64 (gd (ltI n 9223372036854775808) (gd (Nat.ble lo (brnK x)) (gd (Nat.blt (brnK x) ck) (ih (Nat.succ (brnK x)) fun l => insK n l k))))) es
theorem br_ok {c x y : Bool} (h : br c x y = true) : (c = true ∧ x = true) ∨ (c = false ∧ y = true) := by
  cases c
  · exact .inr ⟨rfl, h⟩
  · exact .inl ⟨rfl, h⟩
theorem insK_ok {x : Int} : ∀ {l : List Int} {k : List Int → Bool}, insK x l k = true → ∃ r, r.Perm (x :: l) ∧ k r = true
  | [], k, h => ⟨[x], List.Perm.refl _, h⟩
  | y :: l, k, h => by
    rcases br_ok (show br (ltI x y) (k (x :: y :: l)) (insK x l fun r => k (y :: r)) = true from h) with ⟨_, h⟩ | ⟨_, h⟩
    · exact ⟨_, List.Perm.refl _, h⟩
    · obtain ⟨r, hr, h⟩ := insK_ok h
      exact ⟨y :: r, (List.Perm.cons y hr).trans (List.Perm.swap x y l), h⟩
theorem srtB_ok : ∀ {l : List Int} {lo : Int}, srtB l lo = true → l.Pairwise (· < ·) ∧ ∀ x ∈ l, lo < x
  | [], _, _ => ⟨List.Pairwise.nil, fun _ h => (by cases h)⟩
  | x :: l, lo, h => by
    obtain ⟨h1, h2⟩ := gd_ok (show gd (ltI lo x) (srtB l x) = true from h)
    rw [ltI_eq] at h1
    have h1 : lo < x := of_decide_eq_true h1
    obtain ⟨h3, h4⟩ := srtB_ok h2
    refine ⟨List.Pairwise.cons (fun y hy => h4 y hy) h3, fun y hy => ?_⟩
    rcases List.mem_cons.1 hy with rfl | hy
    · exact h1
    · exact Int.lt_trans h1 (h4 y hy)
/-- the entries' keys are numbers; births rise -/
def Keyz (ck : Nat) : Nat → List (V × V × Nat) → List Int → Prop
  | _, [], [] => True
  | lo, x :: es, n :: ns => x.1 = .int .i64 n ∧ n < 9223372036854775808 ∧ lo ≤ x.2.2 ∧ x.2.2 < ck ∧ Keyz ck (x.2.2 + 1) es ns
  | _, _, _ => False
theorem keysK_ok {ck : Nat} : ∀ {es : List (V × V × Nat)} {lo : Nat} {k : List Int → Bool}, keysK ck es lo k = true → ∃ ns l, Keyz ck lo es ns ∧ l.Perm ns ∧ k l = true
  | [], _, k, h => ⟨[], [], trivial, List.Perm.refl _, h⟩
  | (a, b, n) :: es, lo, k, h => by
    obtain ⟨kd, m, hx, h⟩ := onInt_ok (show onInt a (fun kd m => onKind kd .i64 (gd (ltI m 9223372036854775808) (gd (Nat.ble lo n) (gd (Nat.blt n ck) (keysK ck es (Nat.succ n) fun l => insK m l k))))) = true from h)
    obtain ⟨hk, h⟩ := onKind_ok h
    obtain ⟨h1, h⟩ := gd_ok h
    obtain ⟨h2, h⟩ := gd_ok h
    obtain ⟨h3, h⟩ := gd_ok h
    rw [ltI_eq] at h1
    obtain ⟨ns, l, h4, h5, h⟩ := keysK_ok h
    obtain ⟨r, h6, h⟩ := insK_ok h
    exact ⟨m :: ns, r, ⟨by rw [hx, hk], of_decide_eq_true h1, Nat.le_of_ble_eq_true h2, Nat.le_of_ble_eq_true h3, h4⟩, h6.trans (List.Perm.cons m h5), h⟩
/-- the same of the machine's entries -/
def KeyzM (ck : Nat) (os : List MapEntry) (ns : List Int) : Prop := os.map (·.key) = ns.map (Value.int .i64) ∧ (∀ x ∈ os, x.born < ck) ∧ (os.map (·.born)).Pairwise (· < ·)
theorem Keyz.er {e : Env} {ck : Nat} : ∀ {lo : Nat} {es : List (V × V × Nat)} {ns : List Int} {os : List MapEntry}, Keyz ck lo es ns → ER e es os → KeyzM ck os ns ∧ (∀ x ∈ os, lo ≤ x.born) ∧ ∀ n ∈ ns, n < 9223372036854775808
  | _, [], [], [], _, _ => ⟨⟨rfl, fun _ h => (by cases h), List.Pairwise.nil⟩, fun _ h => (by cases h), fun _ h => (by cases h)⟩
  | lo, x :: es, n :: ns, o :: os, ⟨h1, h2, h3, h4, h5⟩, ⟨g1, _, g3, g4⟩ => by
    obtain ⟨⟨i1, i2, i3⟩, i4, i5⟩ := Keyz.er h5 g4
    rw [h1] at g1
    have hk := den_int g1
    refine ⟨⟨by simp [i1, hk], fun y hy => ?_, ?_⟩, fun y hy => ?_, fun y hy => ?_⟩
    · rcases List.mem_cons.1 hy with rfl | hy
      · rw [g3]; exact h4
      · exact i2 y hy
    · rw [List.map_cons]
      refine List.Pairwise.cons (fun b hb => ?_) i3
      obtain ⟨y, hy, rfl⟩ := List.mem_map.1 hb
      have := i4 y hy
      rw [g3]; omega
    · rcases List.mem_cons.1 hy with rfl | hy
      · rw [g3]; exact h3
      · have := i4 y hy
        omega
    · rcases List.mem_cons.1 hy with rfl | hy
      · exact h2
      · exact i5 y hy
  | _, [], [], _ :: _, _, h => h.elim
  | _, _ :: _, _ :: _, [], _, h => h.elim
  | _, [], _ :: _, _, h, _ => h.elim
  | _, _ :: _, [], _, h, _ => h.elim

/-- an element reads as itself -/
def hld (v : Value) : Option (DataW Value × List MemPlace) := some (.held v, [])
theorem fit_of {P : Program} {k : TypeId} (hk : P.underlying k = some (.int .i64)) {os : Array MapEntry} {ck : Nat} {ns l : List Int} (h : KeyzM ck os.toList ns) (hl : l.Perm ns) (hs : l.Pairwise (· < ·)) (hr : ∀ x ∈ ns, -9223372036854775808 ≤ x ∧ x < 9223372036854775808) (hz : os.size ≤ maxLen) :
    Go.WideElems.Fit P k hld os ck := by
  obtain ⟨h1, h2, h3⟩ := h
  refine ⟨hz, ⟨h2, h3.imp fun hab => Nat.ne_of_lt hab, ?_⟩, fun x hx => ?_⟩
  · rw [h1]
    have hnd : ns.Nodup := hl.nodup_iff.1 (hs.imp fun hab => by omega)
    exact List.pairwise_map.2 (hnd.imp fun {a b} hab he => hab (by injection he))
  · have : x.key ∈ os.toList.map (·.key) := List.mem_map.2 ⟨x, hx, rfl⟩
    rw [h1] at this
    obtain ⟨n, hn, he⟩ := List.mem_map.1 this
    obtain ⟨r1, r2⟩ := hr n hn
    have hkey : keyOf P k x.key = some (.int .i64 n) := by
      rw [← he]
      exact keyOf_int_mk hk (by simp [Lit.wf, IntKind.min, IntKind.max, IntKind.bits, IntKind.signed]; omega)
    exact ⟨_, Go.WideElems.rd_mk (yv := (.held x.val, [])) hkey rfl⟩
end Go.Sx
namespace Go.Sx
open Go Go.RowKit Go.Maps

/-- the map of the entries, as the kit reads it -/
def mapD (P : Program) (k : TypeId) (os : Array MapEntry) : DataW Value := .map ((os.toList.map (Go.WideElems.rg P k hld)).foldr DataW.insert [])
theorem owns_of {P : Program} {k : TypeId} {w : World} {b ck : Nat} {os : Array MapEntry} (hb : w.heap[b]? = some (.map os ck)) (F : Go.WideElems.Fit P k hld os ck) : w.ownsMap P k hld b os.size (mapD P k os) :=
  ⟨os, ck, hb, F, Nat.le_refl _, rfl⟩
theorem entry_rg {P : Program} {k : TypeId} (hk : P.underlying k = some (.int .i64)) {x : MapEntry} {n : Int} (hx : x.key = .int .i64 n) (r1 : -9223372036854775808 ≤ n) (r2 : n < 9223372036854775808) :
    Go.WideElems.rg P k hld x = (.int .i64 n, .held x.val) := by
  refine Go.WideElems.rg_of ?_
  have hkey : keyOf P k x.key = some (.int .i64 n) := by
    rw [hx]
    exact keyOf_int_mk hk (by simp [Lit.wf, IntKind.min, IntKind.max, IntKind.bits, IntKind.signed]; omega)
  exact Go.WideElems.rd_mk (yv := (.held x.val, [])) hkey rfl
theorem keys_map {P : Program} {k : TypeId} (hk : P.underlying k = some (.int .i64)) : ∀ {os : List MapEntry} {ns : List Int}, os.map (·.key) = ns.map (Value.int .i64) → (∀ x ∈ ns, -9223372036854775808 ≤ x ∧ x < 9223372036854775808) →
    (os.map (Go.WideElems.rg P k hld)).map (fun p => intOf p.1) = ns
  | [], [], _, _ => rfl
  | o :: os, n :: ns, h, hr => by
    simp only [List.map_cons, List.cons.injEq] at h
    obtain ⟨r1, r2⟩ := hr n (by simp)
    rw [List.map_cons, List.map_cons, entry_rg hk h.1 r1 r2, keys_map hk h.2 (fun x hx => hr x (by simp [hx]))]
    rfl
  | [], _ :: _, h, _ => by simp at h
  | _ :: _, [], h, _ => by simp at h
theorem intKeys_perm {P : Program} {k : TypeId} (hk : P.underlying k = some (.int .i64)) {os : Array MapEntry} {ns : List Int} (h : os.toList.map (·.key) = ns.map (Value.int .i64)) (hr : ∀ x ∈ ns, -9223372036854775808 ≤ x ∧ x < 9223372036854775808) :
    (intKeys (mapD P k os)).Perm ns := by
  have h1 := (Go.WideShapes.sorted_perm (os.toList.map (Go.WideElems.rg P k hld))).map (fun p => intOf p.1)
  rw [keys_map hk h hr] at h1
  exact h1
theorem perm_lt : ∀ {a b : List Int}, a.Perm b → a.Pairwise (· ≤ ·) → b.Pairwise (· < ·) → a = b := fun {_a _b} h1 h2 h3 =>
  h1.eq_of_pairwise (le := (· ≤ ·)) (fun _x _y _ _ hx hy => Int.le_antisymm hx hy) h2 (h3.imp fun h => Int.le_of_lt h)
theorem sorted_eq {ss ns l : List Int} (h : ss.Perm ns) (hl : l.Perm ns) (hs : l.Pairwise (· < ·)) : ss.mergeSort (fun x y => decide (x ≤ y)) = l := by
  have h1 := List.pairwise_mergeSort (le := fun x y : Int => decide (x ≤ y)) (fun a b c h1 h2 => by simp at *; omega) (fun a b => by simp; omega) ss
  exact perm_lt ((List.mergeSort_perm ss _).trans (h.trans hl.symm)) (h1.imp fun hab => of_decide_eq_true hab) hs

/-- what slices.Sorted does with the keys of a map -/
def SrtC (P : Program) (f lit : FuncId) (t : TypeId) : Prop :=
  ∀ (w : World) (bm b n : Nat) (D : DataW Value), bm < w.heap.size → w.cell? ⟨bm, 0, none⟩ = some (.map (some b)) → w.ownsMap P t hld b n D → n ≤ 1099511627776 →
    Calls P f #[.func (.func lit) #[] #[.pointer (some ⟨bm, 0, none⟩)]] w fun e w' => ∃ v ss, e = .returned v ∧ ss.Perm (intKeys D) ∧
      w'.ownsRow w.heap.size t 1 v ss.length ((ss.mergeSort (fun x y => decide (x ≤ y))).map (Value.int .i64)) ∧ (v = .slice none 0 0 ↔ ss = []) ∧ Below w.heap.size w w'
def mapIK (l : List Int) : (List V → Nat → Bool) → Bool := List.rec (motive := fun _ => (List V → Nat → Bool) → Bool) (fun k => k [] 0) (fun x _ ih k => ih fun r n => k (.int .i64 x :: r) (Nat.succ n)) l
def outS (t : TypeId) (h : H) (nx : I) (k : KC) (vs : List V) (n : Nat) : Bool :=
  List.rec (motive := fun _ => Bool) (k .nslice h nx) (fun _ _ _ => h.putK nx (some (.cells vs t 1)) fun h => k (.slice nx 0 n n true) h nx.inc) vs
def hSrt2 (lit : FuncId) (t : TypeId) : HF := fun a h nx k => hd1 a fun v => onFnV v fun g a c => gd (Nat.beq g lit) (gd (Nat.beq (lenL a) 0) (hd1 c fun p => onPtr p fun b o => gd (Nat.beq o 0) (onCells (h.get b) fun cs _ _ => headK cs fun m => onMap m fun r => onMp (h.get r) fun es ck =>
  keysK ck es 0 fun l => gd (srtB l (-9223372036854775809)) (mapIK l fun vs n => gd (Nat.blt n 1000000) (outS t h nx k vs n)))))
theorem mapIK_eq : ∀ (l : List Int) (k : List V → Nat → Bool), mapIK l k = k (l.map (V.int .i64)) l.length
  | [], _ => rfl
  | x :: l, k => mapIK_eq l fun r n => k (.int .i64 x :: r) (Nat.succ n)
/-- the box and the map, as memory has them -/
theorem box_map {n0 : Nat} {e : Env} {h : H} {w : World} (s : Sat n0 e h w) {b r : I} {t z : Nat} {cs : List V} {es : List (V × V × Nat)} {ck : Nat} (hb : h.get b = some (.cells (.map r :: cs) t z)) (hr : h.get r = some (.map es ck)) :
    ∃ qb qr os, e b = some qb ∧ e r = some qr ∧ qb.blk < w.heap.size ∧ w.cell? ⟨qb.blk, 0, none⟩ = some (.map (some qr.blk)) ∧ w.heap[qr.blk]? = some (.map os ck) ∧ ER e es os.toList := by
  obtain ⟨qb, h1, _, h3⟩ := s.rd b _ hb
  obtain ⟨qr, g1, _, os, g3, g4⟩ := s.rd r _ hr
  have hlt := h3.lt
  obtain ⟨ar, fz, vs, k1, _, k3, k4⟩ := h3
  obtain ⟨x, l, m1, m2, rfl⟩ := denL_cons.1 k3
  obtain ⟨q, n1, rfl⟩ := den_map m1
  rw [g1] at n1; cases n1
  refine ⟨qb, qr, os, h1, g1, hlt, ?_, g3, g4⟩
  have := k4.get (j := 0) (x := .map (some qr.blk)) (by simp)
  simp only [World.cell?, k1]
  simpa using this
theorem er_len {e : Env} : ∀ {es : List (V × V × Nat)} {os : List MapEntry}, ER e es os → os.length = es.length
  | [], [], _ => rfl
  | _ :: _, _ :: _, ⟨_, _, _, h⟩ => by simp [er_len h]
  | [], _ :: _, h => h.elim
  | _ :: _, [], h => h.elim
theorem keyz_len {ck : Nat} : ∀ {lo : Nat} {es : List (V × V × Nat)} {ns : List Int}, Keyz ck lo es ns → ns.length = es.length
  | _, [], [], _ => rfl
  | _, _ :: _, _ :: _, ⟨_, _, _, _, h⟩ => by simp [keyz_len h]
  | _, [], _ :: _, h => h.elim
  | _, _ :: _, [], h => h.elim
theorem srt_snd {P : Program} {f lit : FuncId} {t : TypeId} (hk : P.underlying t = some (.int .i64)) (C : SrtC P f lit t) : Snd P f (hSrt2 lit t) := fun args h nx k hkk => by
  obtain ⟨v, rfl, hkk⟩ := hd1_ok hkk
  obtain ⟨g, a, c, rfl, hkk⟩ := onFnV_ok hkk
  obtain ⟨hg, hkk⟩ := gd_ok hkk
  obtain ⟨ha, hkk⟩ := gd_ok hkk
  obtain ⟨p, rfl, hkk⟩ := hd1_ok hkk
  obtain ⟨b, o, rfl, hkk⟩ := onPtr_ok hkk
  obtain ⟨ho, hkk⟩ := gd_ok hkk
  obtain ⟨cs, tb, z, hb, hkk⟩ := onCells_ok hkk
  obtain ⟨m, cs', rfl, hkk⟩ := headK_ok hkk
  obtain ⟨r, rfl, hkk⟩ := onMap_ok hkk
  obtain ⟨es, ck, hr, hkk⟩ := onMp_ok hkk
  obtain ⟨ns, l, hz, hp, hkk⟩ := keysK_ok hkk
  obtain ⟨hs, hkk⟩ := gd_ok hkk
  obtain ⟨hs1, hs2⟩ := srtB_ok hs
  rw [mapIK_eq] at hkk
  obtain ⟨hn, hkk⟩ := gd_ok hkk
  have hn : l.length < 1000000 := Nat.le_of_ble_eq_true hn
  have hg := Nat.eq_of_beq_eq_true hg
  have ho := Nat.eq_of_beq_eq_true ho
  have ha := Nat.eq_of_beq_eq_true ha
  rw [lenL_eq] at ha
  have ha := List.eq_nil_of_length_eq_zero ha
  subst hg ho ha
  have hll := hp.length_eq
  have run : ∀ n0 e w vs, Sat n0 e h w → denL e [.func g [] [.ptr b 0]] = some vs → ∀ R : Ending → World → Prop,
      (∀ x w', w'.ownsRow w.heap.size t 1 x l.length (l.map (Value.int .i64)) → (x = .slice none 0 0 ↔ l = []) → Below w.heap.size w w' → R (.returned x) w') → Calls P f vs.toArray w R := fun n0 e w vs st hvs R hR => by
    obtain ⟨qb, qr, os, e1, e2, e3, e4, e5, e6⟩ := box_map st hb hr
    obtain ⟨⟨m1, m2, m3⟩, _, m4⟩ := hz.er e6
    have hrg : ∀ x ∈ ns, -9223372036854775808 ≤ x ∧ x < 9223372036854775808 := fun x hx => by
      have := hs2 x (hp.mem_iff.2 hx)
      have := m4 x hx
      omega
    have hlen : os.size = l.length := by
      have h1 := er_len e6
      have h2 := keyz_len hz
      have h3 : os.toList.length = os.size := Array.length_toList
      omega
    have F := fit_of hk ⟨m1, m2, m3⟩ hp hs1 hrg (by unfold maxLen; omega)
    have hv : vs = [.func (.func g) #[] #[.pointer (some ⟨qb.blk, 0, none⟩)]] := by
      simp only [denL, den, e1, Option.map_some, Option.bind_some] at hvs
      simpa using hvs.symm
    subst hv
    refine (C w qb.blk qr.blk os.size _ e3 e4 (owns_of e5 F) (by omega)).mono ?_
    rintro en w' ⟨x, ss, rfl, h1, h2, h3, h4⟩
    have hss := h1.trans (intKeys_perm hk m1 hrg)
    have hl : ss.length = l.length := by rw [hss.length_eq, hll]
    rw [sorted_eq hss hp hs1, hl] at h2
    refine hR x w' h2 ?_ h4
    rw [h3]
    constructor
    · rintro rfl; exact List.eq_nil_of_length_eq_zero (by simpa using hl.symm)
    · rintro rfl; exact List.eq_nil_of_length_eq_zero (by simpa using hl)
  cases l with
  | nil =>
    have hkk : k .nslice h nx = true := hkk
    refine ⟨.nslice, h, nx, ⟨Nat.le_refl _, fun n0 e w vs st hvs fr R hR => ?_⟩, hkk⟩
    refine run n0 e w vs st hvs R fun x w' h1 h2 h3 => ?_
    rw [h2.2 rfl]
    exact hR e _ w' (by simp [den]) (Stp.below st nx h3)
  | cons y l =>
    have hkk : (h.putK nx (some (.cells ((y :: l).map (V.int .i64)) t 1)) fun h => k (.slice nx 0 (y :: l).length (y :: l).length true) h nx.inc) = true := hkk
    rw [T.putK_eq] at hkk
    refine ⟨_, _, _, ⟨by rw [I.nat_inc]; omega, fun n0 e w vs st hvs fr R hR => ?_⟩, hkk⟩
    refine run n0 e w vs st hvs R fun x w' h1 h2 h3 => ?_
    obtain ⟨hl, hx⟩ := h1
    rcases hx with ⟨rfl, hx⟩ | ⟨gb, cap, cur, rfl, g1, g2, g3, g4, g5, g6⟩
    · exact absurd hx (by simp)
    have hfn : e nx = none := fr nx (Nat.le_refl _) (by rw [I.nat_inc]; omega)
    refine hR (Env.upd e nx ⟨gb, cap - (y :: l).length⟩) _ w' ?_ (Stp.anew st hfn h3 (q := ⟨gb, cap - (y :: l).length⟩) g1 ?_)
    · simp only [den, Env.upd_same, Option.map_some, if_true]
      rw [Nat.add_sub_cancel' g3]
    · refine ⟨cur, (0, 0), _, g2, nf0 _, denL_ints _ _ (y :: l), .inr ⟨by decide, cur.toList.drop (y :: l).length, ?_, ?_⟩⟩
      · have := List.take_append_drop (y :: l).length cur.toList
        rw [Nat.mul_one] at g6
        rw [← g6]; exact this.symm
      · have : cur.toList.length = cur.size := Array.length_toList
        rw [List.length_drop]
        show _ = (cap - (y :: l).length) * 1
        omega
end Go.Sx
namespace Go.Sx
open Go Go.RowKit
/-- a law whose arguments hold no memory, run -/
theorem law_of_run {P : Program} {hd : Hand} (hho : HO P hd) {f : FuncId} {N : Nat} {args : List V} {vs : List Value} (h : callF P hd f (run P hd N) args .lf .z (fun v _ _ => eqBv true v) = true) (ha : denL (fun _ => none) args = some vs) (w : World) :
    Calls P f vs.toArray w fun en w' => en = .returned (.bool true) ∧ Below w.heap.size w w' := by
  obtain ⟨v, h', nx', ⟨hn, hs⟩, hk, _⟩ := callF_ok (run_ok hho N) hho h
  have hv := eqB_true hk
  subst hv
  have hget : ∀ b, (T.lf : H).get b = none := T.get_lf
  refine hs w.heap.size (fun _ => none) w vs ⟨fun b x hb => by rw [hget] at hb; exact absurd hb (by simp), Nat.le_refl _, fun b b' x x' q q' hb => by rw [hget] at hb; exact absurd hb (by simp)⟩ ha (fun _ _ _ => rfl) _ fun e' x w' hx st => ?_
  simp only [den, Option.some.injEq] at hx
  refine ⟨by rw [hx], ?_⟩
  have hout : ∀ c, Out (fun _ => none) (T.lf : H) c := fun c b x q hb => by rw [hget] at hb; exact absurd hb (by simp)
  exact ⟨st.fr.os, st.fr.tape, st.fr.output, st.fr.size, fun c hc => st.fr.keep c hc (hout c)⟩
/-- a call that is answered by a value without memory, whatever its arguments are -/
def hd3 (l : List V) : (V → V → V → Bool) → Bool := List.rec (motive := fun _ => (V → V → V → Bool) → Bool) (fun _ => false) (fun v r _ k => hd2 r (k v)) l
theorem hd3_ok {l : List V} {k : V → V → V → Bool} (h : hd3 l k = true) : ∃ a b c, l = [a, b, c] ∧ k a b c = true := by
  cases l with
  | nil => exact absurd h Bool.false_ne_true
  | cons a l => cases l with
    | nil => exact absurd h Bool.false_ne_true
    | cons b l =>
      obtain ⟨c, rfl, h⟩ := hd1_ok (show hd1 l (k a b) = true from h)
      exact ⟨a, b, c, rfl, h⟩
/-- 'has' of a nil coordinator, or of one without hands: false, whatever the numbers are -/
def hHas : HF := fun a h nx k => hd3 a fun p x y => onInt x fun kx _ => onInt y fun ky _ => onKind kx .i64 (onKind ky .i64 (br (Nat.beq (tagOf p) 4) (k (.bool false) h nx) (onPtr p fun b o => gd (Nat.beq o 0) (onCells (h.get b) fun cs _ _ => dropK 3 cs fun l => headK l fun v => gd (Nat.beq (tagOf v) 6) (k (.bool false) h nx)))))
theorem cell_of {n0 : Nat} {e : Env} {h : H} {w : World} (s : Sat n0 e h w) {b : I} {t z : Nat} {cs : List V} (hb : h.get b = some (.cells cs t z)) {j : Nat} {v : V} (hj : cs[j]? = some v) :
    ∃ qb x, e b = some qb ∧ den e v = some x ∧ w.cell? ⟨qb.blk, j, none⟩ = some x := by
  obtain ⟨qb, h1, _, h3⟩ := s.rd b _ hb
  obtain ⟨ar, fz, vs, k1, _, k3, k4⟩ := h3
  obtain ⟨x, m1, m2⟩ := denL_get k3 hj
  refine ⟨qb, x, h1, m1, ?_⟩
  have := k4.get m2
  simp only [World.cell?, k1]
  simpa using this
theorem has_snd {P : Program} {f : FuncId} (C0 : ∀ w n m, Calls P f #[.pointer none, .int .i64 n, .int .i64 m] w fun e w' => e = .returned (.bool false) ∧ w' = w)
    (C1 : ∀ w n m b, w.cell? ⟨b, 3, none⟩ = some (.slice none 0 0) → Calls P f #[.pointer (some ⟨b, 0, none⟩), .int .i64 n, .int .i64 m] w fun e w' => e = .returned (.bool false) ∧ w' = w) : Snd P f hHas := fun args h nx k hkk => by
  obtain ⟨p, x, y, rfl, hkk⟩ := hd3_ok hkk
  obtain ⟨kx, n, rfl, hkk⟩ := onInt_ok hkk
  obtain ⟨ky, m, rfl, hkk⟩ := onInt_ok hkk
  obtain ⟨rfl, hkk⟩ := onKind_ok hkk
  obtain ⟨rfl, hkk⟩ := onKind_ok hkk
  rcases br_ok hkk with ⟨hp, hkk⟩ | ⟨_, hkk⟩
  · rw [tag4 hp]
    refine ⟨_, _, _, ⟨Nat.le_refl _, fun n0 e w vs st hvs fr R hR => ?_⟩, hkk⟩
    simp only [denL, den, Option.bind_some, Option.map_some, Option.some.injEq] at hvs
    subst hvs
    refine (C0 w n m).mono ?_
    rintro en w' ⟨rfl, rfl⟩
    exact hR e _ _ (by simp [den]) (Stp.below st nx (Below.refl _ _))
  · obtain ⟨b, o, rfl, hk2⟩ := onPtr_ok hkk
    clear hkk
    obtain ⟨ho, hkk⟩ := gd_ok hk2
    clear hk2
    obtain ⟨cs, t, z, hb, hkk⟩ := onCells_ok hkk
    obtain ⟨_, hkk⟩ := dropK_ok _ _ _ hkk
    obtain ⟨v, r, hv, hkk⟩ := headK_ok hkk
    obtain ⟨hv6, hfin⟩ := gd_ok hkk
    have ho := Nat.eq_of_beq_eq_true ho
    subst ho
    rw [tag6 hv6] at hv
    have hj : cs[3]? = some .nslice := by
      have := congrArg (·[0]?) hv
      simpa [List.getElem?_drop] using this
    refine ⟨_, _, _, ⟨Nat.le_refl _, fun n0 e w vs st hvs fr R hR => ?_⟩, hfin⟩
    obtain ⟨qb, x, h1, h2, h3⟩ := cell_of st hb hj
    simp only [denL, den, h1, Option.bind_some, Option.map_some, Option.some.injEq] at hvs h2
    subst hvs h2
    refine (C1 w n m qb.blk h3).mono ?_
    rintro en w' ⟨rfl, rfl⟩
    exact hR e _ _ (by simp [den]) (Stp.below st nx (Below.refl _ _))
def slB (c : V) : Bool := br (Nat.beq (tagOf c) 6) true (onSl c fun _ _ _ _ _ => true)
theorem slB_ok {c : V} (h : slB c = true) {e : Env} {v : Value} (hv : den e c = some v) : ∃ p n cp, v = .slice p n cp := by
  rcases br_ok h with ⟨h, _⟩ | ⟨_, h⟩
  · rw [tag6 h] at hv
    simp only [den, Option.some.injEq] at hv
    exact ⟨_, _, _, hv.symm⟩
  · obtain ⟨_, _, _, _, _, hc, _⟩ := onSl_ok h
    rw [hc] at hv
    obtain ⟨q, _, hq⟩ := den_slice hv
    exact ⟨_, _, _, hq⟩
/-- the greatest field 1 of a map's values -/
def mxK2 (es : List (V × V × Nat)) : Int → (Int → Bool) → Bool :=
  List.rec (motive := fun _ => Int → (Int → Bool) → Bool) (fun m k => k m) (fun x _ ih m k => onAgg (valK x) fun l => hd3 l fun a d c => onInt a fun ka _ => onKind ka .i64 (gd (slB c) (onInt d fun kd n => onKind kd .i64 (gd (ltI (-9223372036854775809) n) (gd (ltI n 9223372036854775808) (br (ltI m n) (ih n k) (ih m k))))))) es
def hDim2 (of : HF) : HF := fun a h nx k => hd1 a fun x => onAgg x fun l => hd1 l fun _ => of a h nx fun v h nx => onPtr v fun b o => gd (Nat.beq o 0) (onCells (h.get b) fun cs _ _ => headK cs fun m => onMap m fun r => onMp (h.get r) fun es ck =>
  keysK ck es 0 fun l => gd (srtB l (-9223372036854775809)) (gd (Nat.blt (lenL l) 1000000) (mxK2 es (-1) fun n => k (.int .i64 n) h nx)))
/-- the entries' field 1: at most mx, and mx is one of them, or lo -/
def DimV (es : List (V × V × Nat)) (lo mx : Int) : Prop := lo ≤ mx ∧ (lo < 9223372036854775808 → mx < 9223372036854775808) ∧
    (∀ x ∈ es, ∃ a d c, slB c = true ∧ x.2.1 = .agg [.int .i64 a, .int .i64 d, c] ∧ d ≤ mx ∧ -9223372036854775808 ≤ d) ∧ (mx = lo ∨ ∃ x ∈ es, ∃ a c, slB c = true ∧ x.2.1 = .agg [.int .i64 a, .int .i64 mx, c])
theorem mxK2_ok : ∀ {es : List (V × V × Nat)} {lo : Int} {k : Int → Bool}, mxK2 es lo k = true → ∃ mx, k mx = true ∧ DimV es lo mx
  | [], lo, k, h => ⟨lo, h, Int.le_refl _, id, fun _ h => (by cases h), .inl rfl⟩
  | (k0, v0, b0) :: es, lo, k, h => by
    obtain ⟨l, hv, h⟩ := onAgg_ok (show onAgg v0 (fun l => hd3 l fun a d c => onInt a fun ka _ => onKind ka .i64 (gd (slB c) (onInt d fun kd n => onKind kd .i64 (gd (ltI (-9223372036854775809) n) (gd (ltI n 9223372036854775808) (br (ltI lo n) (mxK2 es n k) (mxK2 es lo k))))))) = true from h)
    obtain ⟨a, d, c, rfl, h⟩ := hd3_ok h
    obtain ⟨ka, a, rfl, h⟩ := onInt_ok h
    obtain ⟨rfl, h⟩ := onKind_ok h
    obtain ⟨hc, h⟩ := gd_ok h
    obtain ⟨kd, n, rfl, h⟩ := onInt_ok h
    obtain ⟨rfl, h⟩ := onKind_ok h
    obtain ⟨r1, h⟩ := gd_ok h
    obtain ⟨r2, h⟩ := gd_ok h
    rw [ltI_eq] at r1 r2
    have r1 := of_decide_eq_true r1
    have r2 := of_decide_eq_true r2
    rcases br_ok h with ⟨h1, h⟩ | ⟨h1, h⟩
    · rw [ltI_eq] at h1
      have h1 := of_decide_eq_true h1
      obtain ⟨mx, k1, k2, k3, k4, k5⟩ := mxK2_ok h
      refine ⟨mx, k1, by omega, fun _ => k3 r2, fun x hx => ?_, ?_⟩
      · rcases List.mem_cons.1 hx with rfl | hx
        · exact ⟨a, n, c, hc, hv, k2, by omega⟩
        · exact k4 x hx
      · rcases k5 with rfl | ⟨x, hx, k5⟩
        · exact .inr ⟨(k0, v0, b0), by simp, a, c, hc, hv⟩
        · exact .inr ⟨x, by simp [hx], k5⟩
    · rw [ltI_eq] at h1
      have h1 := of_decide_eq_false h1
      obtain ⟨mx, k1, k2, k3, k4, k5⟩ := mxK2_ok h
      refine ⟨mx, k1, k2, k3, fun x hx => ?_, ?_⟩
      · rcases List.mem_cons.1 hx with rfl | hx
        · exact ⟨a, n, c, hc, hv, by omega, by omega⟩
        · exact k4 x hx
      · rcases k5 with rfl | ⟨x, hx, k5⟩
        · exact .inl rfl
        · exact .inr ⟨x, by simp [hx], k5⟩
theorem er_mem {e : Env} : ∀ {es : List (V × V × Nat)} {os : List MapEntry}, ER e es os → (∀ o ∈ os, ∃ x ∈ es, den e x.2.1 = some o.val) ∧ ∀ x ∈ es, ∃ o ∈ os, den e x.2.1 = some o.val
  | [], [], _ => ⟨fun _ h => (by cases h), fun _ h => (by cases h)⟩
  | x :: es, o :: os, ⟨_, g2, _, g4⟩ => by
    obtain ⟨h1, h2⟩ := er_mem g4
    refine ⟨fun y hy => ?_, fun y hy => ?_⟩
    · rcases List.mem_cons.1 hy with rfl | hy
      · exact ⟨x, by simp, g2⟩
      · obtain ⟨z, hz, h⟩ := h1 y hy
        exact ⟨z, by simp [hz], h⟩
    · rcases List.mem_cons.1 hy with rfl | hy
      · exact ⟨o, by simp, g2⟩
      · obtain ⟨z, hz, h⟩ := h2 y hy
        exact ⟨z, by simp [hz], h⟩
  | [], _ :: _, h => h.elim
  | _ :: _, [], h => h.elim
theorem den3 {e : Env} {c : V} {a d : Int} {v : Value} (hc : slB c = true) (h : den e (.agg [.int .i64 a, .int .i64 d, c]) = some v) : ∃ p n cp, v = .agg #[.int .i64 a, .int .i64 d, .slice p n cp] := by
  obtain ⟨xs, h1, h2⟩ := den_agg h
  obtain ⟨xa, l1, h0, h3, rfl⟩ := denL_cons.1 h1
  obtain ⟨xd, l2, h4, h5, rfl⟩ := denL_cons.1 h3
  obtain ⟨xc, l3, h7, h6, rfl⟩ := denL_cons.1 h5
  rw [denL_nil.1 h6] at h2
  rw [den_int h4, den_int h0] at h2
  obtain ⟨p, n, cp, rfl⟩ := slB_ok hc h7
  exact ⟨p, n, cp, h2⟩
/-- the map of a complex, whose greatest dimension is mx -/
structure DimM (P : Program) (t : TypeId) (os : Array MapEntry) (ck : Nat) (mx : Int) : Prop where
  fit : Go.WideElems.Fit P t hld os ck
  key : ∀ x ∈ os.toList, ∃ n, x.key = .int .i64 n
  val : ∀ x ∈ os.toList, ∃ a d p n cp, x.val = .agg #[.int .i64 a, .int .i64 d, .slice p n cp] ∧ d ≤ mx ∧ -9223372036854775808 ≤ d
  top : mx = -1 ∨ ∃ x ∈ os.toList, ∃ a p n cp, x.val = .agg #[.int .i64 a, .int .i64 mx, .slice p n cp]
  lo : -1 ≤ mx
  hi : mx < 9223372036854775808
  size : os.size < 1000000
/-- what cells.Dim does once 'of' has made the map -/
def DimC (P : Program) (f g : FuncId) (t tc : TypeId) : Prop :=
  ∀ (s : Value) (w : World) (mx : Int) (X : World → Prop),
    Calls P g #[.agg #[s]] (w.alloc (.cells #[s] tc)) (fun e w1 => ∃ b m os ck, e = .returned (.pointer (some ⟨b, 0, none⟩)) ∧ w1.cell? ⟨b, 0, none⟩ = some (.map (some m)) ∧ w1.heap[m]? = some (.map os ck) ∧ DimM P t os ck mx ∧ X w1) →
    Calls P f #[.agg #[s]] w fun e w' => ∃ w1, X w1 ∧ e = .returned (.int .i64 mx) ∧ Below w1.heap.size w1 w'
theorem dim_snd {P : Program} {f g : FuncId} {t tc : TypeId} (hk : P.underlying t = some (.int .i64)) (C : DimC P f g t tc) {of : HF} (ho : Snd P g of) : Snd P f (hDim2 of) := fun args h nx k hkk => by
  obtain ⟨x, rfl, hkk⟩ := hd1_ok hkk
  obtain ⟨l, rfl, hk2⟩ := onAgg_ok hkk
  clear hkk
  obtain ⟨s, rfl, hkk⟩ := hd1_ok hk2
  clear hk2
  obtain ⟨v, h1, nx1, ⟨hle, hsem⟩, hkk⟩ := ho _ _ _ _ hkk
  obtain ⟨b, o, rfl, hk2⟩ := onPtr_ok hkk
  clear hkk
  obtain ⟨hz, hkk⟩ := gd_ok hk2
  clear hk2
  have hz := Nat.eq_of_beq_eq_true hz
  subst hz
  obtain ⟨cs, tb, z, hb, hkk⟩ := onCells_ok hkk
  obtain ⟨m, cs', rfl, hkk⟩ := headK_ok hkk
  obtain ⟨r, rfl, hkk⟩ := onMap_ok hkk
  obtain ⟨es, ck, hr, hkk⟩ := onMp_ok hkk
  obtain ⟨ns, l, hz, hp, hkk⟩ := keysK_ok hkk
  obtain ⟨hs, hkk⟩ := gd_ok hkk
  obtain ⟨hs1, hs2⟩ := srtB_ok hs
  obtain ⟨hn, hkk⟩ := gd_ok hkk
  have hn : lenL l < 1000000 := Nat.le_of_ble_eq_true hn
  rw [lenL_eq] at hn
  obtain ⟨mx, hkk, d1, d2, d3, d4⟩ := mxK2_ok hkk
  have hll := hp.length_eq
  refine ⟨_, _, _, ⟨hle, fun n0 e w vs st hvs fr R hR => ?_⟩, hkk⟩
  obtain ⟨y, ys, hy, hys, rfl⟩ := denL_cons.1 hvs
  rw [denL_nil.1 hys] at hvs ⊢
  obtain ⟨zs, hzs, rfl⟩ := den_agg hy
  obtain ⟨u, us, hu, hus, rfl⟩ := denL_cons.1 hzs
  rw [denL_nil.1 hus] at hvs hy ⊢
  have hB0 : Below w.heap.size w (w.alloc (.cells #[u] tc)) := (Below.refl _ w).alloc (Nat.le_refl _) _
  have st0 := Stp.below st nx hB0
  refine (C u w mx (fun w1 => ∃ e', Stp n0 e h (w.alloc (.cells #[u] tc)) nx e' h1 w1 nx1) ?_).mono ?_
  · refine hsem n0 e _ _ st0.sat hvs fr _ fun e' x w1 hx st1 => ?_
    obtain ⟨qb, qr, os, e1, e2, e3, e4, e5, e6⟩ := box_map st1.sat hb hr
    obtain ⟨⟨m1, m2, m3⟩, _, m4⟩ := hz.er e6
    have hrg : ∀ x ∈ ns, -9223372036854775808 ≤ x ∧ x < 9223372036854775808 := fun x hx => by
      have := hs2 x (hp.mem_iff.2 hx)
      have := m4 x hx
      omega
    have hlen : os.size = l.length := by
      have h1 := er_len e6
      have h2 := keyz_len hz
      have h3 : os.toList.length = os.size := Array.length_toList
      omega
    obtain ⟨p1, p2⟩ := er_mem e6
    have hpt : x = .pointer (some ⟨qb.blk, 0, none⟩) := by
      obtain ⟨q, hq, rfl⟩ := den_ptr hx
      rw [e1] at hq; cases hq; rfl
    refine ⟨qb.blk, qr.blk, os, ck, by rw [hpt], e4, e5, ⟨fit_of hk ⟨m1, m2, m3⟩ hp hs1 hrg (by unfold maxLen; omega), fun x hx => ?_, fun x hx => ?_, ?_, d1, d2 (by omega), by omega⟩, e', st1⟩
    · have : x.key ∈ os.toList.map (·.key) := List.mem_map.2 ⟨x, hx, rfl⟩
      rw [m1] at this
      obtain ⟨n, _, hn⟩ := List.mem_map.1 this
      exact ⟨n, hn.symm⟩
    · obtain ⟨y, hy, g⟩ := p1 x hx
      obtain ⟨a, d, c, g0, g1, g2, g3⟩ := d3 y hy
      rw [g1] at g
      obtain ⟨p, n, cp, g4⟩ := den3 g0 g
      exact ⟨a, d, p, n, cp, g4, g2, g3⟩
    · rcases d4 with g | ⟨y, hy, a, c, g0, g1⟩
      · exact .inl g
      · obtain ⟨x, hx, g⟩ := p2 y hy
        rw [g1] at g
        obtain ⟨p, n, cp, g4⟩ := den3 g0 g
        exact .inr ⟨x, hx, a, p, n, cp, g4⟩
  · rintro en w' ⟨w1, ⟨e', st1⟩, rfl, hb1⟩
    exact hR e' _ _ (by simp [den]) ((st0.trans st1).trans (Stp.below st1.sat nx1 hb1))
/-- a function's own code, run -/
def runH (P : Program) (hd : Hand) (n : Nat) (f : FuncId) : HF := fun a h nx k => callF P hd f (run P hd n) a h nx k
theorem run_snd {P : Program} {hd : Hand} (hho : HO P hd) (n : Nat) (f : FuncId) : Snd P f (runH P hd n f) := fun _ _ _ _ hk => by
  obtain ⟨v, h', nx', hs, hk, _⟩ := callF_ok (run_ok hho n) hho hk
  exact ⟨v, h', nx', hs, hk⟩
end Go.Sx
