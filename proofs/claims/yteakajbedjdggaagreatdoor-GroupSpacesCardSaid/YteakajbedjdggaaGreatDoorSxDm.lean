/- cells.Dim: the greatest dimension of the cells of a complex, once 'of' has made its map. -/
import Derived.Maps.RangeWalk
import Derived.WalkKit
import Derived.WalkSpells
import Derived.WalkLawsBesides
import Derived.Lib.Hide
import Derived.Lib.MinMax
import Derived.Test.YteakajbedjdggaaGreatDoorProg
import Derived.Test.YteakajbedjdggaaGreatDoorSxZ
namespace Go.Proofs.YteakajbedjdggaaGreatDoor
open Go.RowKit Go.Maps Go.Sx

theorem mapD_at {P : Program} {k : TypeId} (hk : P.underlying k = some (.int .i64)) {os : Array MapEntry} {ck : Nat} (F : Go.WideElems.Fit P k hld os ck) {n : Int} {c : Value} (h : ∀ z, (mapD P k os).atKey (.int .i64 n) z = .held c) : ∃ x ∈ os.toList, x.val = c ∧ x.key = .int .i64 n := by
  have h0 := h .nil
  unfold mapD at h0
  simp only [DataW.atKey] at h0
  cases hf : List.find? (fun p => p.1.sameKey (.int .i64 n)) ((os.toList.map (Go.WideElems.rg P k hld)).foldr DataW.insert []) with
  | none => rw [hf] at h0; cases h0
  | some p =>
    rw [hf] at h0
    have hm := List.mem_of_find?_eq_some hf
    have hs := List.find?_some hf
    obtain ⟨x, hx, rfl⟩ := List.mem_map.1 (mem_sorted.1 hm)
    obtain ⟨y, hy⟩ := F.reads x hx
    have e1 := WideAt.sameKey_eq hs
    rw [Go.WideElems.rg_of hy] at e1 h0
    have k1 := Go.WideElems.rd_key hy
    rw [e1] at k1
    obtain ⟨m, hm1, hm2, _⟩ := Maps.keyOf_int_inv hk k1
    injection hm2 with _ hm2
    obtain ⟨z, hz1, hz2⟩ := Go.WideElems.rd_val hy
    have : z = (.held x.val, []) := (Option.some.inj hz1).symm
    have h0 : y.2 = .held c := h0
    rw [hz2, this] at h0
    injection h0 with h0
    exact ⟨x, hx, h0, by rw [hm1, hm2]⟩

theorem mapD_has {P : Program} {k : TypeId} (hk : P.underlying k = some (.int .i64)) {os : Array MapEntry} {ck : Nat} (F : Go.WideElems.Fit P k hld os ck) {x : MapEntry} (hx : x ∈ os.toList) {n : Int} (hn : x.key = .int .i64 n) : has (mapD P k os) (.int .i64 n) = true := by
  show List.any _ _ = true
  rw [List.any_eq_true]
  obtain ⟨y, hy⟩ := F.reads x hx
  have k1 := Go.WideElems.rd_key hy
  rw [hn] at k1
  obtain ⟨m, hm1, hm2, _⟩ := Maps.keyOf_int_inv hk k1
  injection hm1 with _ hm1
  refine ⟨y, mem_sorted.2 (List.mem_map.2 ⟨x, hx, Go.WideElems.rg_of hy⟩), ?_⟩
  rw [hm2, ← hm1]
  simp [Lit.sameKey]

set_option maxRecDepth 100000 in
set_option maxHeartbeats 4000000 in
theorem dimCall : DimC Tryz.prog 49 88 3 25 := fun s w mx X hof => by
  go_enter Tryz.func49, Tryz.ntmps49
  go_wp2_with fail
  refine hof.mono ?_
  rintro e w1 ⟨b, B, os, ck, rfl, hbx, hB, hD, hX⟩
  have HX := Lib.hid hX; clear hX
  have HF := hD.fit
  have hown := owns_of hB HF
  have hKd := int_keyed (P := Tryz.prog) (k := 3) Tryz.underlying3
  have hBl : B < w1.heap.size := hown.lt
  clear hof
  go_wp2_with (first
    | (at_range; refine wpList_range_own _ rfl _ 140 rfl 3 126 hKd Tryz.underlying140 hld B os.size _ rfl hown ?_; intro w0 hrg0 hg0 hs0)
    | go_in)
  go_frame
  obtain ⟨r, hr⟩ : ∃ r, r = w1.heap.size := ⟨_, rfl⟩
  rw [← hr] at hrg0 ⊢
  have HRr := Lib.hid hr; clear hr
  have hB00 : Below w1.heap.size w1 w0 := ⟨hg0.os, hg0.tape, hg0.output, hg0.size, fun k hk => hg0.block k hk (by simp)⟩
  have HDM := Lib.hid hD; clear hD
  go_loopw [3] (fun t wr => ∃ (m : Int) (left : Lit → Bool) (cnt : Nat), t = .int .i64 m ∧ wr.ranges Tryz.prog 3 hld B r os.size (mapD Tryz.prog 3 os) left cnt ∧ Hid (-1 ≤ m ∧ m ≤ mx ∧ ∀ x ∈ os.toList, ∀ k a d p n cp, x.key = .int .i64 k → x.val = .agg #[.int .i64 a, .int .i64 d, .slice p n cp] → left (.int .i64 k) = false → d ≤ m) ∧ Below w1.heap.size w1 wr) (fun _ wr => wr.rangeLeft B r)
  case atStart =>
    refine ⟨-1, _, _, rfl, hrg0, Lib.hid ⟨by omega, HDM.out.lo, fun x hx k a d p n cp hk hv hl => ?_⟩, hB00⟩
    rw [mapD_has Tryz.underlying3 HF hx hk] at hl
    cases hl
  case round =>
    obtain ⟨m, left, cnt, rfl, hrg, HI, hB1⟩ := hrel
    go_wp2_with (first
      | (at_next; refine wpList_next_ranges _ rfl _ rfl 3 hKd hld (Value.int .i64) (fun v : Value => v) (fun key kl hkey => by obtain ⟨x, rfl, _⟩ := Maps.keyOf_int_inv Tryz.underlying3 hkey; exact ⟨x, rfl⟩) (fun v y _ => ⟨v, rfl⟩) B r os.size _ left cnt rfl hrg ?_ ?_)
      | go_in)
    · intro hc0 hl0
      have hm : m = mx := by
        obtain ⟨i1, i2, i3⟩ := HI.out
        rcases HDM.out.top with h | ⟨x, hx, a, p, n, cp, hv⟩
        · omega
        · obtain ⟨k, hk⟩ := HDM.out.key x hx
          have := i3 x hx k a mx p n cp hk hv (hl0 _)
          omega
      subst hm
      clear hrg hc0 hl0
      go_wp2
      go_ret
      exact ⟨w1, HX.out, rfl, hB1⟩
    · intro x c kl y1 y2 w2 cnt' hkey hlk hv hat hrg1 hlt hg1 hs1 hen
      obtain ⟨x', hxe, rfl, hxw⟩ := Maps.keyOf_int_inv Tryz.underlying3 hkey
      have hxx : x = x' := by injection hxe
      subst hxx
      have hv2 : y1 = .held c := by
        have : hld c = some (.held c, []) := rfl
        rw [this] at hv; injection hv with hv; injection hv with hv _; exact hv.symm
      subst hv2
      obtain ⟨en, hen1, hen2, hen3⟩ := mapD_at Tryz.underlying3 HF hat
      obtain ⟨a, d, p, n, cp, hval, hd1, hd2⟩ := HDM.out.val en hen1
      have hval2 := hval
      rw [hen2] at hval
      subst hval
      have hent : (Instr.entry (.pointer (some ⟨r, 0, none⟩))).run Tryz.prog w2 = .ok (.tuple #[.int .i64 x, .agg #[.int .i64 a, .int .i64 d, .slice p n cp]]) w2 := hen
      have HL := Lib.hid (And.intro hlk (And.intro hat (And.intro hen2 (And.intro hd1 hd2))))
      have HR2 := Lib.hid hrg1
      have Hlt := Lib.hid (And.intro hlt hs1)
      have HB2 := Lib.hid (hB1.grown hg1 hB1.size (fun k e => by cases e; have := HRr.out; omega))
      clear hlk hat hen2 hd1 hd2 hlt hs1 hkey hv hxw hxe hg1 hen
      have HRG := Lib.hid hrg
      clear hrg hrg1
      go_wp2
      go_roundw
      case measure => rw [(HR2.out.alloc _).left_eq, HRG.out.left_eq]; exact Hlt.out.1
      case rel =>
        obtain ⟨i1, i2, i3⟩ := HI.out
        obtain ⟨_, _, _, j4, j5⟩ := HL.out
        refine ⟨_, _, _, rfl, HR2.out.alloc _, (show Hid _ from ⟨by omega, by omega, fun y hy k a2 d2 p2 n2 c2 hk2 hv2 hl2 => ?_⟩), HB2.out.alloc HB2.out.size _⟩
        by_cases hkx : k = x
        · subst hkx
          have he := entry_eq_of_key ((Go.MapKept.stamped_iff _ _).1 HF.stamped).2.2 hy hen1 (hk2.trans hen3.symm)
          rw [he] at hv2
          rw [hv2] at hval2
          injection hval2 with q1
          simp only [Array.mk.injEq, List.cons.injEq, Value.int.injEq, true_and] at q1
          omega
        · have hsk : (Lit.int .i64 k).sameKey (.int .i64 x) = false := by simp [Lit.sameKey, hkx]
          have := i3 y hy k a2 d2 p2 n2 c2 hk2 hv2 (by simpa [hsk] using hl2)
          omega
end Go.Proofs.YteakajbedjdggaaGreatDoor
