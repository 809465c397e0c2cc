/- chains: Vector. A range over a map, in whose rounds the element at a key that is there is stored anew. chains: Scale. chains.sides: what it visits. -/
import Derived.Maps.RangeWalk
import Derived.Test.YtfcmpolhcpbliaaGreatDoorMi
import Derived.Test.YtfcmpolhcpbliaaGreatDoorMe
import Derived.Test.YtfcmpolhcpbliaaGreatDoorMd

namespace Go.Cx
open Go.RowKit

/-- Numbers as cells of Wides. -/
def wvs (l : List Int) : List Value := l.flatMap fun x => [.bool (decide (x < 0)), .string (mg x)]
theorem wvs_append (l m : List Int) : wvs (l ++ m) = wvs l ++ wvs m := by simp [wvs]
theorem wvs_one (x : Int) : wvs [x] = [.bool (decide (x < 0)), .string (mg x)] := by simp [wvs]
theorem wvs_len (l : List Int) : (wvs l).length = l.length * 2 := by
  induction l with
  | nil => rfl
  | cons x l ih => show (wvs ([x] ++ l)).length = _; rw [wvs_append, List.length_append, ih, wvs_one]; simp; omega
theorem wvs_get (l : List Int) (i : Nat) (x : Int) (h : l[i]? = some x) : (wvs l)[i * 2]? = some (.bool (decide (x < 0))) ∧ (wvs l)[i * 2 + 1]? = some (.string (mg x)) := by
  induction l generalizing i with
  | nil => simp at h
  | cons u l ih =>
    have e : wvs (u :: l) = .bool (decide (u < 0)) :: .string (mg u) :: wvs l := rfl
    rw [e]
    cases i with
    | zero => simp at h; subst h; simp
    | succ i =>
      have := ih i (by simpa using h)
      rw [show (i + 1) * 2 = i * 2 + 1 + 1 by omega, show i * 2 + 1 + 1 + 1 = (i * 2 + 1) + 1 + 1 by omega]
      simpa using this

end Go.Cx
namespace Go.Proofs.YtfcmpolhcpbliaaGreatDoor
open Go.RowKit Go.Cx
attribute [local go_sem ↓] Go.wp_at_zero Go.wp_at_succ

set_option maxRecDepth 100000 in
theorem Tryz.infoW2 : (Tryz.prog.info? 46).map (fun i => (i.zero, i.size, i.bytes)) = some (some (.agg #[.bool false, .string ⟨#[]⟩]), 2, 24) := by kernel_rfl
theorem oneW (x : Int) : ∀ u ∈ [Value.bool (decide (x < 0)), .string (mg x)], u.oneCell' = true := by
  intro u hu; simp at hu; rcases hu with rfl | rfl <;> rfl

theorem idsOf_I64 {l : List Ce} (hok : COk l) (dim : Int) : ∀ c ∈ idsOf (l.map Ce.cl) dim, I64 c := by
  intro c hc
  obtain ⟨X, hX, rfl⟩ := List.mem_map.1 hc
  have h1 := firsts_mem (List.mem_filter.1 hX).1
  obtain ⟨y, hy, rfl⟩ := List.mem_map.1 h1
  obtain ⟨z, hz, rfl⟩ := List.mem_map.1 ((stb_mem _ y).1 hy)
  exact (hok z hz).1.1
theorem idsOf_len (l : List Ce) (dim : Int) : (idsOf (l.map Ce.cl) dim).length ≤ l.length := by
  unfold idsOf cellsOf
  rw [List.length_map]
  refine Nat.le_trans (List.length_filter_le _ _) (Nat.le_trans (firsts_len _) ?_)
  rw [canon_len, List.length_map]; exact Nat.le_refl _

set_option maxRecDepth 100000 in
set_option maxHeartbeats 2000000 in
theorem chVector (v : Value) (l : List Ce) (dim : Int) (u : Value) (t : List Tm) (S : Nat) (w : World) (h : SlC w v l) (hl : l.length ≤ 1099511627776) (hok : COk l) (k : Sl w 3 u (tv t)) (hS : TOk S t) (hb : S + t.length ≤ 1099511627775) :
    Calls Tryz.prog 16 #[.agg #[v], .int .i64 dim, u] w fun e w' => ∃ (r : Value) (q : Bool), e = .returned (.tuple #[r, .bool q]) ∧ (q = true ↔ ∀ c, co (prs t) c ≠ 0 → ∃ x ∈ l, x.id = c ∧ x.dim = dim) ∧
      (q = true → w'.ownsRow w.heap.size 46 2 r (idsOf (l.map Ce.cl) dim).length (wvs ((idsOf (l.map Ce.cl) dim).map (co (prs t))))) ∧ (q = false → r = .slice none 0 0) ∧ Below w.heap.size w w' := by
  obtain ⟨a, len, cap, rfl⟩ := sl_shape h.1
  obtain ⟨a2, n2, cap2, rfl⟩ := sl_shape k
  have HH := Lib.hid h
  have HOK := Lib.hid hok
  have HK := Lib.hid k
  clear h k
  have hBa : Below w.heap.size w (w.alloc (.cells #[.slice a len cap] 27)) := (Below.refl _ w).alloc (Nat.le_refl _) _
  go_enter Tryz.func16, Tryz.ntmps16
  go_wp2_with fail
  refine (chIn _ l dim _ t S _ (HH.out.alloc _) hl HOK.out (HK.out.alloc _) hS hb).mono ?_
  rintro e w1 ⟨q, rfl, hq, hb1⟩
  have HQ := Lib.hid hq
  clear hq
  rw [World.size_alloc] at hb1
  have hB1 : Below w.heap.size w w1 := hBa.trans (hb1.mono (by omega))
  have x1 : w1.cell? ⟨w.heap.size, 0, none⟩ = some (.slice a len cap) := keepB hb1 (by simp) (cell_new w #[.slice a len cap] 27 (0, 0) 0)
  cases q with
  | false =>
    go_wp2
    go_ret2
    exact ⟨_, false, rfl, by simpa using HQ.out, (fun e => absurd e (by simp)), (fun _ => rfl), hB1⟩
  | true =>
    have hk1 := (HK.out.keep hB1)
    have hz1 : w.heap.size < w1.heap.size := by have := hb1.size; simp at this; omega
    go_wp2_with fail
    have hc := chOf (.slice (some ⟨w1.heap.size, 0, none⟩) 1 1) [t] S (w1.alloc (.cells #[.slice a2 n2 cap2] 30)) (SlL.one hk1 _) (by simpa using hS) (by simpa using hb)
    refine hc.mono ?_
    rintro e w2 ⟨rfl, ⟨g, hm, hg⟩, hb2⟩
    simp only [List.flatten_cons, List.flatten_nil, List.append_nil, World.size_alloc] at hm hg hb2
    simp only [World.size_alloc]
    clear hc
    have hB12 : Below w1.heap.size w1 w2 := ((Below.refl _ w1).alloc (Nat.le_refl _) _).trans (hb2.mono (by omega))
    have hB2 := hB1.trans (hB12.mono hB1.size)
    have x2 := Cx.keep hB12 x1
    have HG := Lib.hid hg; clear hg
    go_wp2_with fail
    refine (ceIds _ l dim _ (HH.out.mono fun p u hc => Cx.keep hB2 hc) hl HOK.out).mono ?_
    rintro e w3 ⟨ri, rfl, hri, hb3⟩
    have hB3 := hB2.trans (hb3.mono hB2.size)
    have hm3 := hm.keep hb3
    have hii := idsOf_I64 HOK.out dim
    have hil := idsOf_len l dim
    obtain ⟨ids, hids⟩ : ∃ ids, ids = idsOf (l.map Ce.cl) dim := ⟨_, rfl⟩
    rw [← hids] at hri hii hil
    have HIDS := Lib.hid hids; clear hids
    have HII := Lib.hid hii; clear hii
    obtain ⟨a3, cap3, rfl⟩ := ownsRow_len hri
    obtain ⟨len3, hlen3⟩ : ∃ n, n = ids.length := ⟨_, rfl⟩
    rw [← hlen3] at hri hil ⊢
    have HRI := Lib.hid (Sl.of_ownsRow hri)
    have HL := Lib.hid hlen3
    clear hri hlen3 hm
    obtain ⟨hbm1, hbm2⟩ : w1.heap.size + 1 < w3.heap.size ∧ w3.heap.size = w3.heap.size := ⟨hm3.lt, rfl⟩
    clear hbm2
    have HM3 := Lib.hid hm3; clear hm3
    go_wp2
    go_loopw [9, 11, 24] (fun o _ i wr => ∃ k : Nat, i = .int .i64 k ∧ k ≤ len3 ∧ wr.ownsRow w3.heap.size 46 2 o k (wvs ((ids.take k).map (co (prs t)))) ∧ Below w3.heap.size w3 wr) (fun _ _ i _ => len3 - (vI i).toNat)
    case atStart => exact ⟨0, rfl, Nat.zero_le _, World.ownsRow_nil _ _ _ _, Below.refl _ _⟩
    case round =>
      obtain ⟨k, rfl, hk, hown, hB⟩ := hrel
      by_cases hlt : k < len3
      · obtain ⟨c, hc⟩ : ∃ c, ids[k]? = some c := ⟨_, List.getElem?_eq_getElem (by rw [← HL.out]; exact hlt)⟩
        obtain ⟨h2, h3, h4, h5, h6⟩ := HRI.out.open
        obtain ⟨ad, rfl⟩ : ∃ ad, a3 = some ad := by
          cases a3 with
          | none => have := h5 rfl; omega
          | some ad => exact ⟨ad, rfl⟩
        have d0 : wr.cell? (ad.add k) = some (.int .i64 c) := Cx.keep hB (h6 ad rfl k _ (by simp [ints, hc]))
        have hci := HII.out c (List.mem_of_getElem? hc)
        have hkey := key_int (P := Tryz.prog) (k := 3) Tryz.underlying3 hci.1 hci.2
        have htk : (ids.take (k + 1)).map (co (prs t)) = (ids.take k).map (co (prs t)) ++ [co (prs t) c] := by rw [List.take_add_one, hc]; simp
        have HTK := Lib.hid htk
        have hmr := HM3.out.keep hB
        have hst : w3.heap.size ≤ wr.heap.size := hB.size
        have hgc := HG.out c
        have HGC := Lib.hid hgc
        clear h2 h3 h4 h5 h6 hc htk hci hgc
        go_wp2_with (first
          | (at_lookup; refine mp_look rfl _ _ 81 rfl hmr Tryz.underlying3 Tryz.underlying81 (zeroWide _) c rfl rfl hkey ?_; rw [HGC.out])
          | (at_builtin; refine wpList_app1 (W := w3) rfl _ _ 34 rfl w3.heap.size 46 Tryz.infoW2 Tryz.underlying34 rfl (by decide) (by decide) _ _ _ rfl hown [.bool (decide (co (prs t) c < 0)), .string (mg (co (prs t) c))] rfl rfl (oneW _) ?bp2 hB hst ?_))
        case bp2 => omega
        intro v4 w4 hr4 hg4 hB4
        go_wp2
        go_roundw
        case measure => simp [vI]; omega
        case rel => exact ⟨k + 1, i64_eq (by omega), by omega, by rw [HTK.out, wvs_append, List.map_take, wvs_one]; exact hr4, hB4⟩
      · have hkl : k = len3 := by omega
        have hmt : ids.take k = ids := List.take_of_length_le (by rw [← HL.out]; omega)
        have HMT := Lib.hid hmt; clear hmt
        have HKL := Lib.hid hkl; clear hkl
        go_wp2
        go_ret2
        refine ⟨_, true, rfl, by simpa using HQ.out, fun _ => ?_, (fun e => absurd e (by simp)), hB3.trans (hB.mono hB3.size)⟩
        rw [← HIDS.out, ← HL.out]
        rw [HMT.out, HKL.out] at hown
        exact ownsRow_mono hown hB3.size

end Go.Proofs.YtfcmpolhcpbliaaGreatDoor

namespace Go.Cx
open Go.RowKit Go.Maps Go.WideElems Go.WideShapes
open Go.ChangeMaps (setBlock modify_eq_set heap_setBlock_same heap_setBlock_other)
variable {P : Program} {k t e : TypeId} {w : World} {b r n : Nat} {D : DataW Value} {left : Lit → Bool} {cnt : Nat}

theorem setBlock_inj {w : World} {b : Nat} {es : Array MapEntry} {clock : Nat} {o1 o2 : Obj} (hb : w.heap[b]? = some (.map es clock)) (h : setBlock w b o1 = setBlock w b o2) : o1 = o2 := by
  have h1 := heap_setBlock_same hb o1
  have h2 := heap_setBlock_same hb o2
  rw [h, h2] at h1
  exact (Option.some.inj h1).symm

theorem ranges_put (h : w.ranges P k hld b r n D left cnt) (K : Keyed P k) (ht : P.underlying t = some (.map k e)) (hn : n < maxLen) {key : Value} {kl : Lit} (hkey : keyOf P k key = some kl) (hh : has D kl = true) (val : Value) :
    ∃ w', (Instr.mapUpdate t (.map (some b)) key val).run P w = .ok () w' ∧ w'.ranges P k hld b r n (D.put kl (.held val)) left cnt ∧ w.grownBy w' (some b) := by
  have hne := h.ne
  obtain ⟨es, clock, since, seen, c0, hb, F, hs, rfl, hr, hold, rfl, hl1, hl2, hsc, hsk⟩ := h
  obtain ⟨es', clock', hrun, F', hput, _, _, hwho⟩ := Maps.fit_store (R' := hld) K ht hb F (Nat.lt_of_le_of_lt hs hn) (fun _ _ _ _ hz => hz) hkey (yv := (.held val, [])) rfl
  rcases K.find w hkey es.toList F.keys with ⟨h1, h2⟩ | ⟨j, e0, h1, h2, h3⟩
  · exfalso
    obtain ⟨p, hp, hpk⟩ := List.any_eq_true.1 hh
    obtain ⟨x, hx, rfl⟩ := List.mem_map.1 (mem_sorted.1 hp)
    obtain ⟨y, hy⟩ := F.reads x hx
    have e1 := WideAt.sameKey_eq hpk
    rw [rg_of hy] at e1
    exact h2 x hx (K.inj (e1 ▸ rd_key hy) hkey)
  · have hj : es[j]? = some e0 := by simpa using h2
    have hlist : (es.modify j (fun e' => { e' with key := key, val := val })).toList = es.toList.set j { e0 with key := key, val := val } := by rw [Array.toList_modify, modify_eq_set _ _ _ _ h2]
    have hrun2 : (Instr.mapUpdate t (.map (some b)) key val).run P w = .ok () (setBlock w b (.map (es.modify j (fun e' => { e' with key := key, val := val })) clock)) := by
      simp [Instr.mapUpdate, run_underlying ht, MapKept.run_getObj_map hb, K.check w false hkey, h1, hj, h3, K.stays w hkey, MapKept.run_setObj_map _ hb, Result.andThen, setBlock]
    rw [hrun] at hrun2
    have hobj : Obj.map es' clock' = .map (es.modify j (fun e' => { e' with key := key, val := val })) clock := setBlock_inj hb (by injection hrun2)
    injection hobj with he' hc'
    rw [← he'] at hlist
    subst hc'
    have hborn : es'.toList.map (·.born) = es.toList.map (·.born) := by
      rw [hlist]
      apply List.ext_getElem?
      intro i
      rw [List.getElem?_map, List.getElem?_map, List.getElem?_set]
      by_cases hij : j = i
      · subst hij
        rw [h2, if_pos rfl]
        rw [if_pos (List.getElem?_eq_some_iff.1 h2).1]; rfl
      · rw [if_neg hij]
    have hmemb : ∀ x ∈ es'.toList, ∃ y ∈ es.toList, y.born = x.born ∧ (rg P k hld y).1 = (rg P k hld x).1 := fun x hx => by
      rw [hlist] at hx
      obtain ⟨i, hi, ex⟩ := List.getElem_of_mem hx
      rw [List.getElem_set] at ex
      split at ex
      · refine ⟨e0, List.mem_of_getElem? h2, by rw [← ex], ?_⟩
        obtain ⟨y, hy⟩ := F.reads e0 (List.mem_of_getElem? h2)
        have hx' : x ∈ es'.toList := by rw [hlist]; exact hx
        obtain ⟨z, hz⟩ := F'.reads x hx'
        rw [rg_of hy, rg_of hz]
        have k1 := rd_key hy
        have k2 := rd_key hz
        rw [h3] at k1
        have : x.key = key := by rw [← ex]
        rw [this] at k2
        exact Option.some.inj (k1.symm.trans k2)
      · have hi' : i < es.toList.length := by simpa using hi
        exact ⟨x, ex ▸ List.getElem_mem hi', rfl, rfl⟩
    refine ⟨_, hrun, ⟨es', clock', since, seen, c0, heap_setBlock_same hb _, F', ?_, by rw [DataW.put_eq, hput], (heap_setBlock_other hb _ hne).trans hr, ?_, ?_, ?_, ?_, hsc, hsk⟩, ⟨rfl, rfl, rfl, by simp [setBlock], fun i _ hi => heap_setBlock_other hb _ (fun e => hi (by rw [e]))⟩⟩
    · have := congrArg List.length hborn
      simp at this; omega
    · intro x hx
      obtain ⟨y, hy, hby, _⟩ := hmemb x hx
      rw [← hby]; exact hold y hy
    · have e1 : ∀ a : Array MapEntry, (leftOf a seen).size = ((a.toList.map (·.born)).filter fun z => !seen.contains z).length := fun a => by
        unfold leftOf
        rw [← Array.length_toList, Array.toList_filter, List.filter_map, List.length_map]; rfl
      rw [e1, e1, hborn]
    · intro x hx
      obtain ⟨y, hy, hby, hky⟩ := hmemb x hx
      rw [← hky, ← hby]; exact hl1 y hy
    · intro kl' hkl'
      obtain ⟨x, hx, rfl⟩ := hl2 kl' hkl'
      obtain ⟨i, hi⟩ := List.getElem?_of_mem hx
      by_cases hij : j = i
      · subst hij
        rw [h2] at hi; injection hi with hi; subst hi
        have hm : ({ e0 with key := key, val := val } : MapEntry) ∈ es'.toList := by
          rw [hlist]; exact List.mem_of_getElem? (by rw [List.getElem?_set, if_pos rfl, if_pos (List.getElem?_eq_some_iff.1 h2).1])
        refine ⟨_, hm, ?_⟩
        obtain ⟨y, hy⟩ := F.reads e0 hx
        obtain ⟨z, hz⟩ := F'.reads _ hm
        rw [rg_of hy, rg_of hz]
        have k1 := rd_key hy
        have k2 := rd_key hz
        rw [h3] at k1
        exact (Option.some.inj (k1.symm.trans k2)).symm
      · exact ⟨x, by rw [hlist]; exact List.mem_of_getElem? (by rw [List.getElem?_set, if_neg hij]; exact hi), rfl⟩

theorem rg_set {ops : Array Oper} {rest : List Oper} {o : Oper} {a : Act} {Q : Exit → Act → World → Prop} (hg : o.guard = none) (m x v : Operand) (t : TypeId) (hop : o.op = Op.mapUpdate t m x v)
    (h : w.ranges P k hld b r n D left cnt) (K : Keyed P k) (ht : P.underlying t = some (.map k e)) (hn : n < maxLen) (key : Value) (kl : Lit) (u : Value) (hm : a.eval m = .map (some b)) (hx : a.eval x = key) (hv : a.eval v = u) (hkey : keyOf P k key = some kl) (hh : has D kl = true)
    (hK : ∀ w', w'.ranges P k hld b r n (D.put kl (.held u)) left cnt → w.grownBy w' (some b) → wpList P ops Q rest (a.put o.dst undef) w') : wpList P ops Q (o :: rest) a w := by
  refine wpList_plain hg fun K' hK' => ?_
  obtain ⟨w', hr, h1, h2⟩ := ranges_put h K ht hn hkey hh u
  unfold Oper.wp
  simp [execOp, hop, hm, hx, hv, hr, Result.andThen]
  exact hK' _ _ (hK w' h1 h2)

/-- A map holds g. -/
def Hg (D : DataW Value) (g : Int → Option Value) : Prop := ∀ x, has D (.int .i64 x) = (g x).isSome ∧ ∀ v, g x = some v → ∀ z, D.atKey (.int .i64 x) z = .held v
theorem Hg.of_at {D : DataW Value} {g : Int → Option Value} (h : Hg D g) {x : Int} {c : Value} (hat : ∀ z, D.atKey (.int .i64 x) z = .held c) : g x = some c := by
  cases hg : g x with
  | some v =>
    have h1 := (h x).2 v hg .nil
    rw [hat] at h1; injection h1 with h1; rw [h1]
  | none =>
    have h1 := (h x).1
    rw [hg] at h1
    have h2 := hat .nil
    rw [atKey_of_not_has (by simpa using h1)] at h2
    cases h2

end Go.Cx

namespace Go.Proofs.YtfcmpolhcpbliaaGreatDoor
open Go.RowKit Go.Cx Go.Maps
attribute [local go_sem ↓] Go.wp_at_zero Go.wp_at_succ

/-- What the map holds when the keys outside 'left' have been multiplied. -/
def scG (g0 : Int → Option Value) (f : Int → Int) (x : Int) (left : Lit → Bool) : Int → Option Value := fun c => (g0 c).map fun v => if left (.int .i64 c) then v else wv (x * f c)

theorem holdsMap_put {D : DataW Value} {g : Int → Option Value} (hD : IsMap D) (h2 : ∀ x, has D (.int .i64 x) = (g x).isSome ∧ ∀ v, g x = some v → ∀ z, D.atKey (.int .i64 x) z = .held v) (x : Int) (v : Value) :
    ∀ y, has (D.put (.int .i64 x) (.held v)) (.int .i64 y) = (mpPut g x v y).isSome ∧ ∀ u, mpPut g x v y = some u → ∀ z, (D.put (.int .i64 x) (.held v)).atKey (.int .i64 y) z = .held u := mp_put hD h2 x v

set_option maxRecDepth 100000 in
set_option maxHeartbeats 4000000 in
theorem chScale (b : Bool) (s : ByteArray) (v : Value) (l : List Tm) (S : Nat) (w : World) (h : Sl w 3 v (tv l)) (hS : TOk S l) (hs : s.size ≤ S) (hb : 2 * S + l.length ≤ 1099511627774) :
    Calls Tryz.prog 43 #[.agg #[.bool b, .string s], v] w fun e w' => ∃ r, e = .returned r ∧ CRes w w' r (fun c => iv b s * co (prs l) c) l.length := by
  obtain ⟨a, n, cap, rfl⟩ := sl_shape h
  have HH := Lib.hid h; clear h
  have hB0 : Below w.heap.size w (w.alloc (.cells #[.bool b, .string s] 46)) := (Below.refl _ w).alloc (Nat.le_refl _) _
  have hBx : Bx (w.alloc (.cells #[.bool b, .string s] 46)) w.heap.size b s := Bx.new w b s 46
  go_enter Tryz.func43, Tryz.ntmps43
  go_wp2_with fail
  have hc := chOf (.slice (some ⟨(w.alloc (.cells #[.bool b, .string s] 46)).heap.size, 0, none⟩) 1 1) [l] S ((w.alloc (.cells #[.bool b, .string s] 46)).alloc (.cells #[.slice a n cap] 30)) (SlL.one (HH.out.keep hB0) _) (by simpa using hS) (by simp; omega)
  rw [World.size_alloc] at hc
  refine hc.mono ?_
  rintro e w1 ⟨rfl, ⟨g, hm, hg⟩, hb1⟩
  simp only [List.flatten_cons, List.flatten_nil, List.append_nil, World.size_alloc] at hm hg hb1
  simp only [World.size_alloc]
  clear hc
  have hB1 : Below w.heap.size w w1 := (hB0.alloc (by simp) _).trans (hb1.mono (by omega))
  have b1 : Bx w1 w.heap.size b s := (hBx.alloc (by simp) _).keep hb1 (by omega)
  have hz1 : w.heap.size + 2 ≤ w1.heap.size := by have := hb1.size; simpa using this
  obtain ⟨B, hB⟩ : ∃ B, B = w.heap.size + 2 := ⟨_, rfl⟩
  have hBB : B = w.heap.size + 1 + 1 := by omega
  rw [← hBB] at hm ⊢
  have hBle : w.heap.size < B := by omega
  have HBB := Lib.hid (And.intro hB hBB)
  clear hB hBB
  obtain ⟨D, hown, hD⟩ := hm
  have hKd := int_keyed (P := Tryz.prog) (k := 3) Tryz.underlying3
  have hfb : ∀ c, nb (co (prs l) c) ≤ S + l.length := fun c => by
    have := nb_co S (prs l) (nb_prs hS) c
    rwa [prs_len] at this
  have HFB := Lib.hid hfb; clear hfb
  have HG := Lib.hid hg; clear hg
  have hBl := hown.lt
  go_wp2_with (first
    | (at_range; refine wpList_range_own _ rfl _ 81 rfl 3 46 hKd Tryz.underlying81 hld B l.length D rfl hown ?_; intro w0 hrg0 hg0 hs0)
    | go_in)
  go_frame
  obtain ⟨r, hr⟩ : ∃ r, r = w1.heap.size := ⟨_, rfl⟩
  rw [← hr] at hrg0 ⊢
  have hbr : B < r := by omega
  have HRr := Lib.hid hr; clear hr
  have HD0 : Hid (Hg D (scG g (co (prs l)) (iv b s) (has D))) := fun c => by
    have h1 := hD c
    unfold scG
    rw [h1.1]
    cases hgc : g c with
    | none => rw [hgc] at h1; exact ⟨rfl, fun v hv => by cases hv⟩
    | some u => rw [hgc] at h1; exact ⟨rfl, fun v hv => by simp at hv; subst hv; exact h1.2 u rfl⟩
  have hB00 : Below w.heap.size w w0 := hB1.grown hg0 hB1.size (fun k e => by cases e)
  have b00 := b1.keep (B := w1.heap.size) ⟨hg0.os, hg0.tape, hg0.output, hg0.size, fun k hk => hg0.block k hk (by simp)⟩ (by omega)
  go_loopw [6, 7] (fun _ _ wr => ∃ (left : Lit → Bool) (cnt : Nat) (D' : DataW Value), wr.ranges Tryz.prog 3 hld B r l.length D' left cnt ∧ Hid (Hg D' (scG g (co (prs l)) (iv b s) left)) ∧ Bx wr w.heap.size b s ∧ Below w.heap.size w wr) (fun _ _ wr => wr.rangeLeft B r)
  case atStart => exact ⟨_, _, D, hrg0, HD0, b00, hB00⟩
  case round =>
    clear b00
    obtain ⟨left, cnt, D', hrg, HD, hbx, hB⟩ := hrel
    have HRG := Lib.hid hrg
    obtain ⟨p0, p1, p2, p3⟩ := hbx
    go_wp2_with (first
      | (at_next; refine wpList_next_ranges _ rfl _ rfl 3 hKd hld (Value.int .i64) (fun v : Value => v) (fun key kl hkey => by obtain ⟨x, rfl, _⟩ := Maps.keyOf_int_inv Tryz.underlying3 hkey; exact ⟨x, rfl⟩) (fun v y _ => ⟨v, rfl⟩) B r l.length D' left cnt rfl hrg ?_ ?_)
      | go_in)
    · intro hc0 hl0
      have hmp : Mp Tryz.prog 3 wr B l.length (scG g (co (prs l)) (iv b s) left) := ⟨D', hrg.owns, HD.out⟩
      have hsum : SumG (scG g (co (prs l)) (iv b s) left) (fun c => iv b s * co (prs l) c) := fun c => by
        have h1 := HG.out c
        unfold scG
        cases hgc : g c with
        | none =>
          rw [hgc] at h1
          have h2 : wv 0 = wv (co (prs l) c) := h1
          have h3 : decide ((0 : Int) < 0) = decide (co (prs l) c < 0) ∧ mg 0 = mg (co (prs l) c) := by simpa using h2
          have h4 : co (prs l) c = 0 := (wv_inj h3.1 h3.2).symm
          show wv 0 = wv (iv b s * co (prs l) c)
          rw [h4, Int.mul_zero]
        | some u =>
          show (some (if left (.int .i64 c) then u else wv (iv b s * co (prs l) c))).getD (wv 0) = _
          rw [hl0]; rfl
      have hcall := chTerms B l.length _ _ wr hmp hsum (by omega) (fun c => by
        have h1 := nb_mul (iv b s) (co (prs l) c)
        have h2 := iv_nb b s
        have h3 := HFB.out c
        omega)
      have HC := Lib.hid hcall
      clear hcall hmp hsum hrg hc0 hl0
      go_wp2_with fail
      refine HC.out.mono ?_
      rintro e w2 ⟨r2, rfl, L, h1, h2, h3, h4, hb2⟩
      go_wp2
      go_ret
      exact ⟨_, rfl, ⟨L, h1, h2, h3, ownsRow_mono h4 hB.size⟩, hB.trans (hb2.mono hB.size)⟩
    · intro x c kl y1 y2 w2 cnt' hkey hlk hv hat hrg1 hlt hg1 hs1 hen
      obtain ⟨x', hxe, rfl, hxw⟩ := Maps.keyOf_int_inv Tryz.underlying3 hkey
      have hxx : x = x' := by injection hxe
      subst hxx
      have hv2 : y1 = .held c := by
        have : hld c = some (.held c, []) := rfl
        rw [this] at hv; injection hv with hv; injection hv with hv _; exact hv.symm
      subst hv2
      have hgx := HD.out.of_at hat
      have hg0x : g x = some c := by
        unfold scG at hgx
        cases hgc : g x with
        | none => rw [hgc] at hgx; cases hgx
        | some u => rw [hgc] at hgx; rw [hlk] at hgx; simpa using hgx
      have hcv : c = wv (co (prs l) x) := by have := HG.out x; rw [hg0x] at this; exact this
      subst hcv
      have hen2 : (Instr.entry (.pointer (some ⟨r, 0, none⟩))).run Tryz.prog w2 = .ok (.tuple #[.int .i64 x, .agg #[.bool (decide (co (prs l) x < 0)), .string (mg (co (prs l) x))]]) w2 := hen
      have hhas : has D' (.int .i64 x) = true := by rw [(HD.out x).1, hgx]; rfl
      have HH2 := Lib.hid (And.intro hlk (And.intro hgx (And.intro hg0x hhas)))
      have hbx2 : Bx w2 w.heap.size b s := by
        refine ⟨grown_keep hg1 p0 (fun k e => by cases e; show w.heap.size ≠ r; omega), grown_keep hg1 p1 (fun k e => by cases e; show w.heap.size ≠ r; omega), ?_, ?_⟩
        · exact (hg1.frozen_far _ (World.block_lt_of_cell? _ _ p0) (by simp; omega)).trans p2
        · exact (hg1.frozen_far _ (World.block_lt_of_cell? _ _ p1) (by simp; omega)).trans p3
      obtain ⟨t0, t1, t2, t3⟩ := hbx2
      have s0 := keepAl t0 (.cells #[.bool (decide (co (prs l) x < 0)), .string (mg (co (prs l) x))] 46)
      have s1 := keepAl t1 (.cells #[.bool (decide (co (prs l) x < 0)), .string (mg (co (prs l) x))] 46)
      have hB2 : Below w.heap.size w w2 := hB.grown hg1 hB.size (fun k e => by cases e; omega)
      have hfx := HFB.out x
      have HR1 := Lib.hid (And.intro hrg1 hlt)
      clear hen hkey hlk hv hat hrg1 hlt hgx hg0x hhas hxe hrg p0 p1 p2 p3
      go_wp2_with fail
      refine (wMulW _ _ _ _ _ (by omega) (by rw [mg_size]; omega)).mono ?_
      rintro e w3 ⟨rfl, hb3⟩
      rw [iv_mg]
      have hBa : Below w2.heap.size w2 (w2.alloc (.cells #[.bool (decide (co (prs l) x < 0)), .string (mg (co (prs l) x))] 46)) := (Below.refl _ w2).alloc (Nat.le_refl _) _
      rw [World.size_alloc] at hb3
      have hB3 : Below w2.heap.size w2 w3 := hBa.trans (hb3.mono (by omega))
      have hrl : r < w2.heap.size := HR1.out.1.lt
      have hbl : B < w2.heap.size := HR1.out.1.owns.lt
      have hr3 : w3.ranges Tryz.prog 3 hld B r l.length D' (fun z => left z && !z.sameKey (.int .i64 x)) cnt' :=
        HR1.out.1.kept (row := none) ⟨hB3.os, hB3.tape, hB3.output, hB3.size, fun k hk _ => hB3.block k hk⟩ (by simp) (by simp)
      have bx3 : Bx w3 w.heap.size b s := Bx.keep (B := w2.heap.size) ⟨t0, t1, t2, t3⟩ hB3 (World.block_lt_of_cell? _ _ t0)
      have HX3 := Lib.hid bx3
      clear bx3 t0 t1 t2 t3 s0 s1
      go_wp2_with (first
        | (at_mapUpdate; refine rg_set rfl _ _ _ 81 rfl hr3 hKd Tryz.underlying81 (by unfold maxLen; omega) _ (.int .i64 x) _ rfl rfl rfl (key_int Tryz.underlying3 (by simp [Lit.wf, IntKind.min, IntKind.max, IntKind.bits, IntKind.signed] at hxw; omega) (by simp [Lit.wf, IntKind.min, IntKind.max, IntKind.bits, IntKind.signed] at hxw; omega)) HH2.out.2.2.2 ?_)
        | fail)
      intro w4 hr4 hg4
      go_wp2
      go_roundw
      case measure => rw [hr4.left_eq, HRG.out.left_eq]; exact HR1.out.2
      case rel =>
        obtain ⟨z0, z1, z2, z3⟩ := HX3.out
        refine ⟨_, _, _, hr4, (show Hid _ from ?_), ⟨grown_keep hg4 z0 (fun k e => by cases e; show w.heap.size ≠ B; omega), grown_keep hg4 z1 (fun k e => by cases e; show w.heap.size ≠ B; omega), (hg4.frozen_far _ (World.block_lt_of_cell? _ _ z0) (by simp; omega)).trans z2, (hg4.frozen_far _ (World.block_lt_of_cell? _ _ z1) (by simp; omega)).trans z3⟩, ?_⟩
        · have h1 := holdsMap_put (D := D') HR1.out.1.owns.isMap HD.out x (wv (iv b s * co (prs l) x))
          have h2 : mpPut (scG g (co (prs l)) (iv b s) left) x (wv (iv b s * co (prs l) x)) = scG g (co (prs l)) (iv b s) (fun z => left z && !z.sameKey (.int .i64 x)) := by
            funext c
            unfold mpPut scG
            by_cases hc : c = x
            · subst hc
              rw [if_pos rfl, HH2.out.2.2.1]
              simp [Lit.sameKey]
            · rw [if_neg hc]
              have : (Lit.int .i64 c).sameKey (.int .i64 x) = false := by simp [Lit.sameKey, hc]
              simp [this]
          rw [h2] at h1
          exact h1
        · exact (hB2.trans (hB3.mono hB2.size)).grown hg4 (by have := hB2.size; have := hB3.size; omega) (fun k e => by cases e; omega)

end Go.Proofs.YtfcmpolhcpbliaaGreatDoor

namespace Go.Proofs.YtfcmpolhcpbliaaGreatDoor
open Go.RowKit Go.Cx Go.Shelf
attribute [local go_sem] Oper.semAt_some

/-- What a round is given: a cell's number and a side. -/
structure Pr where
  i : Int
  y : Sd
  hi : I64 i
  hc : I64 y.c
  hg : I64 y.g
def Pr.raw (p : Pr) : Int × Sd := (p.i, p.y)
def Pr.vs (p : Pr) : Array Value := #[.int .i64 p.i, .agg #[.int .i64 p.y.c, .int .i64 p.y.g]]
/-- All of them. -/
def raws (L : List Ce) : List (Int × Sd) := L.flatMap fun x => x.s.map fun y => (x.id, y)
theorem raws_append (L M : List Ce) : raws (L ++ M) = raws L ++ raws M := by simp [raws]
theorem raws_len (L : List Ce) : (raws L).length = (L.flatMap Ce.s).length := by
  induction L with
  | nil => rfl
  | cons x L ih => show ((x.s.map fun y => (x.id, y)) ++ raws L).length = (x.s ++ L.flatMap Ce.s).length; rw [List.length_append, List.length_append, ih, List.length_map]

/-- What was a cell reads as it did. -/
def KeepC (W W' : World) : Prop := ∀ p u, W.cell? p = some u → W'.cell? p = some u
theorem KeepC.refl (W : World) : KeepC W W := fun _ _ h => h
theorem KeepC.trans {A B C : World} (h : KeepC A B) (k : KeepC B C) : KeepC A C := fun p u hu => k p u (h p u hu)
theorem KeepC.put (W : World) (l : Nat) (o o' : Obj) (hl : W.heap[l]? = some o) (ho : o.isCells = false) : KeepC W (W.putObj l o') := fun p u hu => by
  have hne : p.block ≠ l := by
    intro e
    obtain ⟨o2, h1, h2⟩ := cells_of_cell hu
    rw [e, hl] at h1
    injection h1 with h1
    rw [h1] at ho; rw [ho] at h2; cases h2
  exact (World.cell?_of_block (w := W) (World.putObj_heap_other hne)).trans hu

set_option maxRecDepth 100000 in
set_option maxHeartbeats 4000000 in
/-- The closure of chains.sides. -/
theorem chSides1 (n : Nat) (hn : 1 ≤ n) (l Bs : Nat) (v : Value) (L : List Ce) (W : World) (hS : SlC W v L) (hok : COk L)
    (J Jx : List Pr → World → Prop)
    (hY : ∀ pre x W, J pre W → pre.length < (raws L).length → YieldAt Fence.wide (n - 1) Tryz.prog l (Pr.vs x) W fun e W' =>
      (e = .returned (.bool true) ∧ J (pre ++ [x]) W' ∧ KeepC W W') ∨ (e = .returned (.bool false) ∧ Jx (pre ++ [x]) W'))
    (hBs : W.cell? ⟨Bs, 0, none⟩ = some v) (hJ : ∀ pre W W', J pre W → True → W.grownBy W' none → J pre W') (h0 : J [] W) :
    CallsIn Fence.wide n Tryz.prog 87 #[.func (.yield l) #[] #[], .pointer (some ⟨Bs, 0, none⟩)] W fun e W' => (∃ v, e = .returned v) ∧
      ((∃ ys, ys.map Pr.raw = raws L ∧ J ys W') ∨ (∃ pre : List Pr, Jx pre W')) := by
  obtain ⟨a, len, cap, rfl⟩ := sl_shape hS.1
  have HS := Lib.hid hS
  have HOK := Lib.hid hok
  have HY := Lib.hid hY
  have HJ := Lib.hid hJ
  have hll : L.length = len := by
    obtain ⟨_, _, h3, _⟩ := hS.1.open
    rw [cat_len Ce.enc_len] at h3; omega
  have HL := Lib.hid hll
  have hcm : len ≤ maxLen := by obtain ⟨h1, h2, _⟩ := hS.1.open; omega
  unfold maxLen at hcm
  clear hS hok hY hJ hll
  refine callsIn_of_wp Tryz.func87 rfl trivial ?_ rfl
  simp only [Tryz.ntmps87, List.size_toArray, List.length_cons, List.length_nil, Nat.reduceAdd, Nat.reduceSub, Array.replicate_succ, Array.replicate_zero, List.push_toArray, List.append_toArray, List.nil_append, List.cons_append]
  gi_wp2
  gi_loopw [10] (fun i wr => ∃ (k : Nat) (pre : List Pr), i = .int .i64 k ∧ k ≤ len ∧ Hid (pre.map Pr.raw = raws (L.take k)) ∧ J pre wr ∧ KeepC W wr)
    (fun i _ => len - (vI i).toNat)
  case atStart => exact ⟨0, [], rfl, Nat.zero_le _, (show Hid _ from rfl), h0, KeepC.refl _⟩
  case round =>
    obtain ⟨k, pre, rfl, hk, HP, hj, hkc⟩ := hrel
    by_cases hlt : k < len
    · obtain ⟨x, hx⟩ : ∃ x, L[k]? = some x := ⟨_, List.getElem?_eq_getElem (by rw [HL.out]; exact hlt)⟩
      obtain ⟨h2, h3, h4, h5, h6⟩ := HS.out.1.open
      obtain ⟨ad, rfl⟩ : ∃ ad, a = some ad := by
        cases a with
        | none => have := h5 rfl; omega
        | some ad => exact ⟨ad, rfl⟩
      obtain ⟨e0, e1, e2⟩ := ce_get L k x hx
      have d0 : wr.cell? (ad.add (k * 3)) = some (.int .i64 x.id) := hkc _ _ (h6 ad rfl _ _ e0)
      have d1 : wr.cell? ⟨(ad.add (k * 3)).block, (ad.add (k * 3)).off + 1, none⟩ = some (.int .i64 x.dim) := by rw [add_part _ _ _ (by omega)]; exact hkc _ _ (h6 ad rfl _ _ e1)
      have d2 : wr.cell? ⟨(ad.add (k * 3)).block, (ad.add (k * 3)).off + 2, none⟩ = some (.slice x.a x.n x.c) := by rw [add_part _ _ _ (by omega)]; exact hkc _ _ (h6 ad rfl _ _ e2)
      have hxm := List.mem_of_getElem? hx
      have hsx := HS.out.2 x hxm
      obtain ⟨⟨hxi, -⟩, -, hsd⟩ := HOK.out x hxm
      obtain ⟨g2, g3, g4, g5, g6⟩ := hsx.open
      unfold maxLen at g3
      have hsl : x.s.length = x.n := by rw [cat_len Sd.enc_len] at g4; omega
      have G2 := Lib.hid g2
      have hxn : x.n ≤ 9223372036854775807 := Nat.le_trans g2 g3
      have htk : raws (L.take (k + 1)) = raws (L.take k) ++ x.s.map (fun y => (x.id, y)) := by
        rw [List.take_add_one, hx, raws_append]; simp [raws]
      have hrl : (raws (L.take k)).length + x.s.length ≤ (raws L).length := by
        have e3 : raws L = raws (L.take (k + 1)) ++ raws (L.drop (k + 1)) := by rw [← raws_append, List.take_append_drop]
        have := congrArg List.length e3
        rw [htk, List.length_append, List.length_append, List.length_map] at this
        omega
      have HTK := Lib.hid (And.intro htk hrl)
      have HSD := Lib.hid (And.intro hxi hsd)
      have G5 := Lib.hid g5
      have G6 := Lib.hid g6
      have HSL := Lib.hid hsl
      clear h2 h3 h4 h5 h6 e0 e1 e2 hx hxm hsx hxi hsd g2 g4 g5 g6 hsl htk hrl
      obtain ⟨wo, hwo⟩ : ∃ wo : World, wo = wr := ⟨_, rfl⟩
      subst hwo
      obtain ⟨W1, hW1⟩ : ∃ W1, W1 = wo.alloc (.cells #[.int .i64 x.id, .int .i64 x.dim, .slice x.a x.n x.c] 93) := ⟨_, rfl⟩
      have y0 : W1.cell? ⟨wo.heap.size, 0, none⟩ = some (.int .i64 x.id) := by rw [hW1]; exact cell_new wo #[.int .i64 x.id, .int .i64 x.dim, .slice x.a x.n x.c] 93 (0, 0) 0
      have y2 : W1.cell? ⟨wo.heap.size, 2, none⟩ = some (.slice x.a x.n x.c) := by rw [hW1]; exact cell_new wo #[.int .i64 x.id, .int .i64 x.dim, .slice x.a x.n x.c] 93 (0, 0) 2
      have hj1 : J pre W1 := by rw [hW1]; exact HJ.out pre wo _ hj trivial (World.grownBy_alloc wo _ none)
      have hk1 : KeepC W W1 := by rw [hW1]; exact hkc.trans (fun p u hu => keepAl hu _)
      have HW1 := Lib.hid hW1; clear hW1
      gi_wp2
      rw [← HW1.out]
      gi_loopw [17] (fun i wr => ∃ (j : Nat) (pre : List Pr), i = .int .i64 j ∧ j ≤ x.n ∧ Hid (pre.map Pr.raw = raws (L.take k) ++ (x.s.take j).map (fun y => (x.id, y))) ∧ J pre wr ∧ KeepC W1 wr)
        (fun i _ => x.n - (vI i).toNat)
      case atStart => exact ⟨0, pre, rfl, Nat.zero_le _, (show Hid _ from by show _ = _; rw [HP.out]; simp), hj1, KeepC.refl _⟩
      case round =>
        clear hj
        obtain ⟨j, pre, rfl, hjn, HP2, hj, hkc2⟩ := hrel
        by_cases hlt2 : j < x.n
        · obtain ⟨y, hy⟩ : ∃ y, x.s[j]? = some y := ⟨_, List.getElem?_eq_getElem (by rw [HSL.out]; exact hlt2)⟩
          obtain ⟨bd, hbd⟩ : ∃ ad, x.a = some ad := by
            cases hxa : x.a with
            | none => have := G5.out hxa; have := G2.out; omega
            | some ad => exact ⟨ad, rfl⟩
          rw [hbd]
          obtain ⟨f0, f1⟩ := sd_get x.s j y hy
          have z0 : wr.cell? (bd.add (j * 2)) = some (.int .i64 y.c) := hkc2 _ _ (hk1 _ _ (G6.out bd hbd _ _ f0))
          have z1 : wr.cell? ⟨(bd.add (j * 2)).block, (bd.add (j * 2)).off + 1, none⟩ = some (.int .i64 y.g) := by rw [add_part _ _ _ (by omega)]; exact hkc2 _ _ (hk1 _ _ (G6.out bd hbd _ _ f1))
          have z2 : wr.cell? ⟨wo.heap.size, 0, none⟩ = some (.int .i64 x.id) := hkc2 _ _ y0
          have z3 := keepAl z2 (.cells #[.int .i64 y.c, .int .i64 y.g] 88)
          have hym := HSD.out.2 y (List.mem_of_getElem? hy)
          have htk : (x.s.take (j + 1)).map (fun y => (x.id, y)) = (x.s.take j).map (fun y => (x.id, y)) ++ [(x.id, y)] := by rw [List.take_add_one, hy]; simp
          have HTK2 := Lib.hid htk
          have hpl : pre.length < (raws L).length := by
            have h1 := congrArg List.length HP2.out
            rw [List.length_map, List.length_append, List.length_map, List.length_take] at h1
            have := HTK.out.2; have := HSL.out; omega
          obtain ⟨pr, hpr1, hpr2⟩ : ∃ pr : Pr, Pr.raw pr = (x.id, y) ∧ Pr.vs pr = #[.int .i64 x.id, .agg #[.int .i64 y.c, .int .i64 y.g]] := ⟨⟨x.id, y, HSD.out.1, hym.1, hym.2⟩, rfl, rfl⟩
          have hj3 : J pre (wr.alloc (.cells #[.int .i64 y.c, .int .i64 y.g] 88)) := HJ.out pre wr _ hj trivial (World.grownBy_alloc wr _ none)
          obtain ⟨fn, tmps, assign, body, hyd, hR⟩ := HY.out pre pr _ hj3 hpl
          rw [hpr2] at hyd
          have HPR := Lib.hid hpr1
          clear f0 f1 hy hym htk hpl hpr1 hpr2 hj hj3
          gi_wp2
          refine hR.mono ?_
          rintro e W3 (⟨rfl, hJ3, hk3⟩ | ⟨rfl, hJx3⟩)
          · gi_wp2
            go_roundw
            case rel => exact ⟨j + 1, pre ++ [pr], i64_eq (by omega), by omega, (show Hid _ from by show _ = _; rw [List.map_append, HP2.out, HTK2.out, ← List.append_assoc]; simp [HPR.out]), hJ3, hkc2.trans (fun p u hu => hk3 p u (keepAl hu _))⟩
            case measure => simp [vI]; omega
          · gi_wp2
            refine bodyPost_ret (results_none rfl _ _ _) rfl ?_
            exact ⟨⟨_, rfl⟩, .inr ⟨_, hJx3⟩⟩
        · have hjx : j = x.n := by omega
          have HJX := Lib.hid hjx; clear hjx
          gi_wp2
          go_roundw
          case rel => exact ⟨k + 1, pre, i64_eq (by omega), by omega, (show Hid _ from by show _ = _; rw [HP2.out, HTK.out.1, HJX.out, List.take_of_length_le (l := x.s) (by have := HSL.out; omega)]), hj, hk1.trans hkc2⟩
          case measure => simp [vI]; omega
    · have hkl : k = len := by omega
      have HKL := Lib.hid hkl; clear hkl
      gi_wp2
      go_end0
      refine ⟨⟨_, rfl⟩, .inl ⟨pre, ?_, hj⟩⟩
      rw [HP.out, HKL.out, List.take_of_length_le (by rw [HL.out]; exact Nat.le_refl _)]

end Go.Proofs.YtfcmpolhcpbliaaGreatDoor
