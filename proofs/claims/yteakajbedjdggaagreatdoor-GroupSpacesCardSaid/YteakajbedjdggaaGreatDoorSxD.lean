import Derived.Test.YteakajbedjdggaaGreatDoorSxC
import Derived.Laws.StructEq
import Derived.Laws.BitsAllLaws
import Derived.Laws.Bits64
/-
  Numbers, strings, comparisons, slices, maps, aggregates: the other quiet operations of the symbolic executor; all of them together.
-/
namespace Go.Sx
open Go Go.RowKit

theorem onKind_ok {a b : IntKind} {x : Bool} (h : onKind a b x = true) : a = b ∧ x = true := by
  obtain ⟨h1, h2⟩ := gd_ok h
  refine ⟨?_, h2⟩
  cases a <;> cases b <;> first | rfl | exact absurd h1 (by decide)
theorem wrS_ok {b : Nat} {k : IntKind} {n : Int} {f : Int → Bool} (hp : ∀ m : Nat, m < b → k.wrap m = m) (hn : ∀ m : Nat, m < b → k.wrap (Int.negSucc m) = Int.negSucc m) (h : wrS b k n f = true) : f (k.wrap n) = true := by
  cases n with
  | ofNat m =>
    rcases br_cases (c := Nat.blt m b) h with ⟨hc, h⟩ | ⟨_, h⟩
    · have := hp m (blt_ok hc)
      rw [show k.wrap (Int.ofNat m) = Int.ofNat m from this]; exact h
    · exact h
  | negSucc m =>
    rcases br_cases (c := Nat.blt m b) h with ⟨hc, h⟩ | ⟨_, h⟩
    · rw [hn m (blt_ok hc)]; exact h
    · exact h
theorem wrU_ok {b : Nat} {k : IntKind} {n : Int} {f : Int → Bool} (hp : ∀ m : Nat, m < b → k.wrap m = m) (h : wrU b k n f = true) : f (k.wrap n) = true := by
  cases n with
  | ofNat m =>
    rcases br_cases (c := Nat.blt m b) h with ⟨hc, h⟩ | ⟨_, h⟩
    · have := hp m (blt_ok hc)
      rw [show k.wrap (Int.ofNat m) = Int.ofNat m from this]; exact h
    · exact h
  | negSucc m => exact h
theorem wrapK_ok {k : IntKind} {n : Int} {f : Int → Bool} (h : wrapK k n f = true) : f (k.wrap n) = true := by
  cases k
  case i8 => exact h
  case i16 => exact h
  case i32 => exact wrS_ok (fun m hm => by rw [IntKind.wrap_i32]; omega) (fun m hm => by rw [IntKind.wrap_i32]; omega) h
  case i64 => exact wrS_ok (fun m hm => by rw [IntKind.wrap_i64]; omega) (fun m hm => by rw [IntKind.wrap_i64]; omega) h
  case u8 => exact wrU_ok (fun m hm => by rw [IntKind.wrap_u8]; omega) h
  case u16 => exact wrU_ok (fun m hm => by rw [IntKind.wrap_u16]; omega) h
  case u32 => exact wrU_ok (fun m hm => by rw [IntKind.wrap_u32]; omega) h
  case u64 => exact wrU_ok (fun m hm => by rw [IntKind.wrap_u64]; omega) h
theorem ltI_eq : ∀ (a b : Int), ltI a b = decide (a < b)
  | .ofNat m, .ofNat n => by
    show Nat.blt m n = decide ((m : Int) < (n : Int))
    rw [Bool.eq_iff_iff]; simp [Nat.blt_eq]
  | .ofNat m, .negSucc n => by
    show false = decide ((m : Int) < Int.negSucc n)
    rw [Bool.eq_iff_iff]; simp only [Bool.false_eq_true, decide_eq_true_eq, false_iff]; omega
  | .negSucc m, .ofNat n => by
    show true = decide (Int.negSucc m < (n : Int))
    rw [Bool.eq_iff_iff]; simp only [decide_eq_true_eq, true_iff]; omega
  | .negSucc m, .negSucc n => by
    show Nat.blt n m = decide (Int.negSucc m < Int.negSucc n)
    rw [Bool.eq_iff_iff]; simp only [Nat.blt_eq, decide_eq_true_eq]; omega
theorem eqI_eq : ∀ (a b : Int), eqI a b = (a == b)
  | .ofNat m, .ofNat n => by
    show Nat.beq m n = ((m : Int) == (n : Int))
    rw [Bool.eq_iff_iff]; simp only [Nat.beq_eq, beq_iff_eq]; omega
  | .ofNat m, .negSucc n => by
    show false = ((m : Int) == Int.negSucc n)
    rw [Bool.eq_iff_iff]; simp only [Bool.false_eq_true, beq_iff_eq, false_iff]; omega
  | .negSucc m, .ofNat n => by
    show false = (Int.negSucc m == (n : Int))
    rw [Bool.eq_iff_iff]; simp only [Bool.false_eq_true, beq_iff_eq, false_iff]; omega
  | .negSucc m, .negSucc n => by
    show Nat.beq n m = (Int.negSucc m == Int.negSucc n)
    rw [Bool.eq_iff_iff]; simp only [Nat.beq_eq, beq_iff_eq]; omega
section
variable {P : Program}
/-- the value of an operator on two numbers -/
def BinS (P : Program) (op : BinOp) (t : TypeId) (a b : Value) (v : V) : Prop := ∃ x, (∀ e, den e v = some x) ∧ ∀ w, (binOp op t a b).run P w = .ok x w
theorem den_int' (k : IntKind) (n : Int) (e : Env) : den e (.int k n) = some (.int k n) := by simp [den]
theorem den_bool' (b : Bool) (e : Env) : den e (.bool b) = some (.bool b) := by simp [den]
theorem intK_ok {op : BinOp} {i j : IntKind} {a b : Int} {k : V → Bool} (t : TypeId) (h : intK op i j a b k = true) : ∃ v, k v = true ∧ BinS P op t (.int i a) (.int j b) v := by
  cases op
  case shl =>
    obtain ⟨n, rfl, h⟩ := onNat_ok (n := b) h
    refine ⟨_, wrapK_ok h, _, den_int' _ _, fun w => ?_⟩
    have : (Int.mul a (Int.ofNat (2 ^ (min n i.bits)))) = a * 2 ^ (min n i.bits) := by
      show a * ((2 ^ (min n i.bits) : Nat) : Int) = _
      simp
    rw [this]
    have hn : ¬ ((n : Int) < 0) := by omega
    simp only [binOp, Op.shift, hn, if_false, Int.toNat_natCast, Sem.run_pure]
  case shr =>
    obtain ⟨n, rfl, h⟩ := onNat_ok (n := b) h
    refine ⟨_, h, _, den_int' _ _, fun w => ?_⟩
    have : (Int.ofNat (2 ^ (min n i.bits))) = (2 : Int) ^ (min n i.bits) := by
      show ((2 ^ (min n i.bits) : Nat) : Int) = _
      simp
    rw [this]
    have hn : ¬ ((n : Int) < 0) := by omega
    simp only [binOp, Op.shift, hn, if_false, Int.toNat_natCast, Sem.run_pure]
  all_goals
    obtain ⟨hij, h'⟩ := onKind_ok (a := i) (b := j) h
    clear h
    have h := h'
    clear h'
    subst hij
  case add => exact ⟨_, wrapK_ok h, _, den_int' _ _, fun w => by simp only [binOp, Op.intArith, ne_eq, not_true_eq_false, if_false]; rfl⟩
  case sub => exact ⟨_, wrapK_ok h, _, den_int' _ _, fun w => by simp only [binOp, Op.intArith, ne_eq, not_true_eq_false, if_false]; rfl⟩
  case mul => exact ⟨_, wrapK_ok h, _, den_int' _ _, fun w => by simp only [binOp, Op.intArith, ne_eq, not_true_eq_false, if_false]; rfl⟩
  case quo =>
    rcases br_cases h with ⟨_, h⟩ | ⟨hc, h⟩
    · exact absurd h Bool.false_ne_true
    · rw [eqI_eq] at hc
      have hb : ¬ b = 0 := by simpa using hc
      exact ⟨_, wrapK_ok h, _, den_int' _ _, fun w => by simp [binOp, Op.intDiv, hb]⟩
  case rem =>
    rcases br_cases h with ⟨_, h⟩ | ⟨hc, h⟩
    · exact absurd h Bool.false_ne_true
    · rw [eqI_eq] at hc
      have hb : ¬ b = 0 := by simpa using hc
      exact ⟨_, h, _, den_int' _ _, fun w => by simp [binOp, Op.intDiv, hb]⟩
  case and => exact ⟨_, h, _, den_int' _ _, fun w => by simp [binOp, Op.intBits]⟩
  case or => exact ⟨_, h, _, den_int' _ _, fun w => by simp [binOp, Op.intBits]⟩
  case xor => exact ⟨_, h, _, den_int' _ _, fun w => by simp [binOp, Op.intBits]⟩
  case andNot => exact ⟨_, h, _, den_int' _ _, fun w => by simp [binOp, Op.intBits]⟩
  case eql => exact ⟨_, h, _, den_bool' _, fun w => by simp [binOp, Op.intCmp, eqI_eq]⟩
  case neq => exact ⟨_, h, _, den_bool' _, fun w => by simp [binOp, Op.intCmp, eqI_eq, bne]⟩
  case lss => exact ⟨_, h, _, den_bool' _, fun w => by simp [binOp, Op.intCmp, ltI_eq]⟩
  case leq => exact ⟨_, h, _, den_bool' _, fun w => by simp only [binOp, Op.intCmp, ltI_eq, ne_eq, not_true_eq_false, if_false, Sem.run_pure, ← decide_not, Int.not_lt]⟩
  case gtr => exact ⟨_, h, _, den_bool' _, fun w => by simp [binOp, Op.intCmp, ltI_eq]⟩
  case geq => exact ⟨_, h, _, den_bool' _, fun w => by simp only [binOp, Op.intCmp, ltI_eq, ne_eq, not_true_eq_false, if_false, Sem.run_pure, ← decide_not, Int.not_lt, ge_iff_le]⟩
theorem bts_toList (l : List Nat) : (bts l).toList = l.map UInt8.ofNat := by simp [bts]
theorem eqL_eq : ∀ (x y : List Nat), eqL x y = (x.map UInt8.ofNat == y.map UInt8.ofNat)
  | [], [] => rfl
  | [], _ :: _ => rfl
  | _ :: _, [] => rfl
  | a :: x, b :: y => by
    show gd (Nat.beq (a % 256) (b % 256)) (eqL x y) = _
    rw [eqL_eq x y]
    have : (UInt8.ofNat a == UInt8.ofNat b) = Nat.beq (a % 256) (b % 256) := by
      rw [Bool.eq_iff_iff]
      simp only [beq_iff_eq, Nat.beq_eq, ← UInt8.toNat_inj, UInt8.toNat_ofNat']
    simp only [List.map_cons, List.cons_beq_cons, this]
    cases Nat.beq (a % 256) (b % 256) <;> rfl
theorem bts_beq (x y : List Nat) : (bts x == bts y) = eqL x y := by rw [beq_toListBytes, bts_toList, bts_toList, eqL_eq]
theorem bts_append (x y : List Nat) : bts x ++ bts y = bts (x ++ y) := by
  unfold bts
  ext1
  simp [ByteArray.data_append]
theorem strK_ok {op : BinOp} {a b : List Nat} {k : V → Bool} (t : TypeId) (h : strK op a b k = true) : ∃ v, k v = true ∧ BinS P op t (.string (bts a)) (.string (bts b)) v := by
  cases op <;> first | exact absurd h Bool.false_ne_true | skip
  case add =>
    obtain ⟨hl, h⟩ := gd_ok h
    have hl := blt_ok hl
    rw [lenL_eq, lenL_eq] at hl
    refine ⟨_, h, .string (bts (a ++ b)), fun e => by simp [den], fun w => ?_⟩
    have : ¬ (((bts a).size + (bts b).size : Nat) : Int) > IntKind.i64.max := by
      rw [bts_size, bts_size]
      simp only [IntKind.max, IntKind.signed, IntKind.bits]
      omega
    simp only [binOp, Op.stringOp, this, if_false, Sem.run_pure, bts_append]
  case eql => exact ⟨_, h, _, den_bool' _, fun w => by simp only [binOp, Op.stringOp, Sem.run_pure, bts_toList, eqL_eq]⟩
  case neq => exact ⟨_, h, _, den_bool' _, fun w => by simp only [binOp, Op.stringOp, Sem.run_pure, bts_toList, eqL_eq]⟩

/-! comparisons at a type -/
theorem onBool_val {x : V} {f : Bool → Bool} (h : onBool x f = true) : ∃ b, x = .bool b ∧ f b = true := onBool_ok h
/-- what scEq answers is what the model's comparison answers -/
theorem tag_ptr {e : Env} {x : V} (h : tagOf x = 3) {v : Value} (hv : den e x = some v) : ∃ a, v = .pointer (some a) := by
  cases x <;> first | exact (Nat.ne_of_beq_eq_false rfl h).elim | skip
  obtain ⟨q, _, rfl⟩ := den_ptr hv; exact ⟨_, rfl⟩
theorem tag_nptr {e : Env} {x : V} (h : tagOf x = 4) {v : Value} (hv : den e x = some v) : v = .pointer none := by
  cases x <;> first | exact (Nat.ne_of_beq_eq_false rfl h).elim | skip
  simpa [den, eq_comm] using hv
theorem tag_sl {e : Env} {x : V} (h : tagOf x = 5) {v : Value} (hv : den e x = some v) : ∃ a n c, v = .slice (some a) n c := by
  cases x <;> first | exact (Nat.ne_of_beq_eq_false rfl h).elim | skip
  · obtain ⟨q, _, rfl⟩ := den_slice hv; exact ⟨_, _, _, rfl⟩
  · obtain ⟨q, _, rfl⟩ := den_esl hv; exact ⟨_, _, _, rfl⟩
theorem tag_nsl {e : Env} {x : V} (h : tagOf x = 6) {v : Value} (hv : den e x = some v) : v = .slice none 0 0 := by
  cases x <;> first | exact (Nat.ne_of_beq_eq_false rfl h).elim | skip
  simpa [den, eq_comm] using hv
theorem tag_map {e : Env} {x : V} (h : tagOf x = 7) {v : Value} (hv : den e x = some v) : ∃ a, v = .map (some a) := by
  cases x <;> first | exact (Nat.ne_of_beq_eq_false rfl h).elim | skip
  obtain ⟨q, _, rfl⟩ := den_map hv; exact ⟨_, rfl⟩
theorem tag_nmap {e : Env} {x : V} (h : tagOf x = 8) {v : Value} (hv : den e x = some v) : v = .map none := by
  cases x <;> first | exact (Nat.ne_of_beq_eq_false rfl h).elim | skip
  simpa [den, eq_comm] using hv
theorem tag_func {e : Env} {x : V} (h : tagOf x = 9) {v : Value} (hv : den e x = some v) : ∃ a b c, v = .func a b c := by
  cases x <;> first | exact (Nat.ne_of_beq_eq_false rfl h).elim | skip
  obtain ⟨_, _, _, _, rfl⟩ := den_func hv; exact ⟨_, _, _, rfl⟩
theorem tag_nfunc {e : Env} {x : V} (h : tagOf x = 10) {v : Value} (hv : den e x = some v) : v = .nilFunc := by
  cases x <;> first | exact (Nat.ne_of_beq_eq_false rfl h).elim | skip
  simpa [den, eq_comm] using hv
theorem beqN {a b : Nat} (h : Nat.beq a b = true) : a = b := by simpa using h
theorem nilEq_ok {n m : Nat} {x y : V} {k : Bool → Bool} (h : nilEq n m x y k = true) :
    (tagOf x = m ∧ tagOf y = m ∧ k true = true) ∨ (tagOf x = m ∧ tagOf y = n ∧ k false = true) ∨ (tagOf x = n ∧ tagOf y = m ∧ k false = true) := by
  rcases br_cases h with ⟨h1, h⟩ | ⟨_, h⟩
  · rcases br_cases h with ⟨h2, h⟩ | ⟨_, h⟩
    · exact .inl ⟨beqN h1, beqN h2, h⟩
    · obtain ⟨h2, h⟩ := gd_ok h
      exact .inr (.inl ⟨beqN h1, beqN h2, h⟩)
  · obtain ⟨h1, h⟩ := gd_ok h
    obtain ⟨h2, h⟩ := gd_ok h
    exact .inr (.inr ⟨beqN h1, beqN h2, h⟩)
def EqS (P : Program) (d : Nat) (t : TypeId) (x y : V) (b : Bool) : Prop := ∀ e vx vy, den e x = some vx → den e y = some vy → ∀ D, d ≤ D → ∀ w, (Op.equalIn D t vx vy).run P w = .ok b w
theorem scEq_ok {s : SC} {u : TypeDesc} {t : TypeId} (hu : P.underlying t = some u) (hs : scOf u = some s) {x y : V} {k : Bool → Bool} (h : scEq s x y k = true) : ∃ b, k b = true ∧ EqS P 1 t x y b := by
  unfold scOf at hs
  split at hs <;> first | (cases hs; done) | skip
  all_goals cases hs
  · obtain ⟨a, rfl, h⟩ := onBool_ok h
    obtain ⟨b, rfl, h⟩ := onBool_ok h
    refine ⟨_, h, fun e vx vy hx hy D hD w => ?_⟩
    obtain ⟨D, rfl⟩ : ∃ D', D = D' + 1 := ⟨D - 1, by omega⟩
    rw [den_bool hx, den_bool hy]
    simp [Op.equalIn, run_underlying hu]
  · obtain ⟨i, a, rfl, h⟩ := onInt_ok h
    obtain ⟨j, b, rfl, h⟩ := onInt_ok h
    obtain ⟨hij, h'⟩ := onKind_ok h
    subst hij
    refine ⟨_, h', fun e vx vy hx hy D hD w => ?_⟩
    obtain ⟨D, rfl⟩ : ∃ D', D = D' + 1 := ⟨D - 1, by omega⟩
    rw [den_int hx, den_int hy]
    simp [Op.equalIn, run_underlying hu, eqI_eq]
  · obtain ⟨a, rfl, h⟩ := onStr_ok h
    obtain ⟨b, rfl, h⟩ := onStr_ok h
    refine ⟨_, h, fun e vx vy hx hy D hD w => ?_⟩
    obtain ⟨D, rfl⟩ : ∃ D', D = D' + 1 := ⟨D - 1, by omega⟩
    rw [den_str hx, den_str hy]
    simp [Op.equalIn, run_underlying hu, bts_beq]
  · rcases nilEq_ok h with ⟨h1, h2, h⟩ | ⟨h1, h2, h⟩ | ⟨h1, h2, h⟩ <;>
    (refine ⟨_, h, fun e vx vy hx hy D hD w => ?_⟩
     obtain ⟨D, rfl⟩ : ∃ D', D = D' + 1 := ⟨D - 1, by omega⟩)
    · rw [tag_nptr h1 hx, tag_nptr h2 hy]; simp [Op.equalIn, run_underlying hu]
    · obtain ⟨a, rfl⟩ := tag_ptr h2 hy
      rw [tag_nptr h1 hx]; simp [Op.equalIn, run_underlying hu]
    · obtain ⟨a, rfl⟩ := tag_ptr h1 hx
      rw [tag_nptr h2 hy]; simp [Op.equalIn, run_underlying hu]
  · rcases nilEq_ok h with ⟨h1, h2, h⟩ | ⟨h1, h2, h⟩ | ⟨h1, h2, h⟩ <;>
    (refine ⟨_, h, fun e vx vy hx hy D hD w => ?_⟩
     obtain ⟨D, rfl⟩ : ∃ D', D = D' + 1 := ⟨D - 1, by omega⟩)
    · rw [tag_nsl h1 hx, tag_nsl h2 hy]; simp [Op.equalIn, run_underlying hu]
    · obtain ⟨a, n, c, rfl⟩ := tag_sl h2 hy
      rw [tag_nsl h1 hx]; simp [Op.equalIn, run_underlying hu]
    · obtain ⟨a, n, c, rfl⟩ := tag_sl h1 hx
      rw [tag_nsl h2 hy]; simp [Op.equalIn, run_underlying hu]
  · rcases nilEq_ok h with ⟨h1, h2, h⟩ | ⟨h1, h2, h⟩ | ⟨h1, h2, h⟩ <;>
    (refine ⟨_, h, fun e vx vy hx hy D hD w => ?_⟩
     obtain ⟨D, rfl⟩ : ∃ D', D = D' + 1 := ⟨D - 1, by omega⟩)
    · rw [tag_nmap h1 hx, tag_nmap h2 hy]; simp [Op.equalIn, run_underlying hu]
    · obtain ⟨a, rfl⟩ := tag_map h2 hy
      rw [tag_nmap h1 hx]; simp [Op.equalIn, run_underlying hu]
    · obtain ⟨a, rfl⟩ := tag_map h1 hx
      rw [tag_nmap h2 hy]; simp [Op.equalIn, run_underlying hu]
  · rcases nilEq_ok h with ⟨h1, h2, h⟩ | ⟨h1, h2, h⟩ | ⟨h1, h2, h⟩ <;>
    (refine ⟨_, h, fun e vx vy hx hy D hD w => ?_⟩
     obtain ⟨D, rfl⟩ : ∃ D', D = D' + 1 := ⟨D - 1, by omega⟩)
    · rw [tag_nfunc h1 hx, tag_nfunc h2 hy]; simp [Op.equalIn, run_underlying hu]
    · obtain ⟨a, b, c, rfl⟩ := tag_func h2 hy
      rw [tag_nfunc h1 hx]; simp [Op.equalIn, run_underlying hu]
    · obtain ⟨a, b, c, rfl⟩ := tag_func h1 hx
      rw [tag_nfunc h2 hy]; simp [Op.equalIn, run_underlying hu]
def EqFS (P : Program) (d : Nat) (fs : List Field) (x y : V) (b : Bool) : Prop := ∀ e xs ys, den e x = some (.agg xs) → den e y = some (.agg ys) → ∀ D, d ≤ D → ∀ w, (Op.eqFields D xs ys fs).run P w = .ok b w
theorem edF_ok {d : Nat} (ih : ∀ (D : ED) (t : TypeId) (x y : V) (k : Bool → Bool), edOf P d t = some D → eqK D x y k = true → ∃ b, k b = true ∧ EqS P d t x y b) :
    ∀ (fs : List Field) (D : ED) (x y : V) (k : Bool → Bool), edF P (edOf P d) fs = some D → eqK D x y k = true → ∃ b, k b = true ∧ EqFS P d fs x y b
  | [], D, x, y, k, hD, h => by
    simp only [edF, Option.some.injEq] at hD
    subst hD
    exact ⟨true, h, fun e xs ys _ _ D _ w => by simp [Op.eqFields]⟩
  | f :: fs, D, x, y, k, hD, h => by
    simp only [edF] at hD
    split at hD
    · cases hD
    rename_i hname
    split at hD <;> first | (cases hD; done) | skip
    rename_i n H T hn hH hT
    cases hD
    obtain ⟨xs, rfl, h⟩ := onAgg_ok (v := x) h
    obtain ⟨ys, rfl, h⟩ := onAgg_ok (v := y) h
    obtain ⟨a, h, ha⟩ := partK_ok h
    obtain ⟨b, h, hb⟩ := partK_ok h
    obtain ⟨r, h, hr⟩ := ih H f.type a b _ hH h
    have key : ∀ e vx vy, den e (.agg xs) = some (.agg vx) → den e (.agg ys) = some (.agg vy) → ∀ D, d ≤ D → ∀ w, ∃ pa pb, (part f.type vx f.offset).run P w = .ok pa w ∧ (part f.type vy f.offset).run P w = .ok pb w ∧ (Op.equalIn D f.type pa pb).run P w = .ok r w := by
      intro e vx vy hx hy D hD w
      obtain ⟨lx, hlx, hx'⟩ := den_agg hx
      obtain ⟨ly, hly, hy'⟩ := den_agg hy
      cases hx'
      cases hy'
      obtain ⟨pa, h1, h2⟩ := part_ok hn hlx ha w
      obtain ⟨pb, h3, h4⟩ := part_ok hn hly hb w
      exact ⟨pa, pb, h2, h4, hr e pa pb h1 h3 D hD w⟩
    rcases br_cases h with ⟨rfl, h⟩ | ⟨rfl, h⟩
    · obtain ⟨c, h, hc⟩ := edF_ok ih fs T (.agg xs) (.agg ys) k hT h
      refine ⟨c, h, fun e vx vy hx hy D hD w => ?_⟩
      obtain ⟨pa, pb, h1, h2, h3⟩ := key e vx vy hx hy D hD w
      simp [Op.eqFields, hname, h1, h2, h3, hc e vx vy hx hy D hD w]
    · refine ⟨false, h, fun e vx vy hx hy D hD w => ?_⟩
      obtain ⟨pa, pb, h1, h2, h3⟩ := key e vx vy hx hy D hD w
      simp [Op.eqFields, hname, h1, h2, h3]
/-- a comparison of structs looks at aggregates -/
theorem edF_agg {ed : TypeId → Option ED} {fs : List Field} {D : ED} (hD : edF P ed fs = some D) {x y : V} {k : Bool → Bool} (h : eqK D x y k = true) : fs = [] ∨ ((∃ xs, x = .agg xs) ∧ ∃ ys, y = .agg ys) := by
  cases fs with
  | nil => exact .inl rfl
  | cons f fs =>
    simp only [edF] at hD
    split at hD
    · cases hD
    split at hD <;> first | (cases hD; done) | skip
    cases hD
    obtain ⟨xs, rfl, h⟩ := onAgg_ok (v := x) h
    obtain ⟨ys, rfl, h⟩ := onAgg_ok (v := y) h
    exact .inr ⟨⟨xs, rfl⟩, ys, rfl⟩
theorem edOf_ok : ∀ (d : Nat) (D : ED) (t : TypeId) (x y : V) (k : Bool → Bool), edOf P d t = some D → eqK D x y k = true → ∃ b, k b = true ∧ EqS P d t x y b
  | 0, _, _, _, _, _, hD, _ => by simp [edOf] at hD
  | d + 1, D, t, x, y, k, hD, h => by
    simp only [edOf] at hD
    split at hD
    · rename_i fs hu
      split at hD
      · cases hD
      split at hD
      · cases hD
      rename_i hst hnl
      have hst : P.stoodInHeld t = false := by simpa using hst
      obtain ⟨b, hb, hs⟩ := edF_ok (edOf_ok d) fs.toList D x y k hD h
      rcases edF_agg hD h with he | ⟨⟨xs, rfl⟩, ys, rfl⟩
      · rw [he] at hnl; exact absurd rfl hnl
      refine ⟨b, hb, fun e vx vy hx hy DD hDD w => ?_⟩
      obtain ⟨DD, rfl⟩ : ∃ D', DD = D' + 1 := ⟨DD - 1, by omega⟩
      obtain ⟨lx, hlx, rfl⟩ := den_agg hx
      obtain ⟨ly, hly, rfl⟩ := den_agg hy
      have hfo : P.fieldsOf t = fs := by simp [Program.fieldsOf, hu]
      rw [run_equalIn_struct w DD t _ _ (by rw [hfo]; exact hu) hst, hfo]
      exact hs e _ _ hx hy DD (by omega) w
    · rename_i u hu
      simp only [Option.map_eq_some_iff] at hD
      obtain ⟨s, hs, rfl⟩ := hD
      obtain ⟨b, hb, hq⟩ := scEq_ok hu hs (x := x) (y := y) (k := k) h
      exact ⟨b, hb, fun e vx vy hx hy DD hDD w => hq e vx vy hx hy DD (by omega) w⟩
    · cases hD
end
end Go.Sx
