import Derived.Test.YteakajbedjdggaaGreatDoorSxX
/-
  Hands put together out of memos.
-/
noncomputable section
namespace Go.Sx
open Go Go.RowKit

def orH (l : List HF) : HF := List.rec (motive := fun _ => HF) (fun _ _ _ _ => false) (fun g _ ih a h nx k => Bool.rec (ih a h nx k) true (g a h nx k)) l
def noH : Hand := fun _ => none
def addH (f : FuncId) (g : HF) (hd : Hand) : Hand := fun k => Bool.rec (hd k) (some g) (Nat.beq f k)
def Snd (P : Program) (f : FuncId) (g : HF) : Prop := ∀ args h nx k, g args h nx k = true → ∃ v h' nx', SemF P f args h nx v h' nx' ∧ k v h' nx' = true
theorem ho_no (P : Program) : HO P noH := fun f g h => (by cases h)
theorem ho_add {P : Program} {f : FuncId} {g : HF} {hd : Hand} (hg : Snd P f g) (h : HO P hd) : HO P (addH f g hd) := fun k g' hk args h0 nx kk hkk => by
  have hk : (Bool.rec (hd k) (some g) (Nat.beq f k) : Option HF) = some g' := hk
  cases hb : Nat.beq f k with
  | true =>
    rw [hb] at hk
    have e1 := Nat.eq_of_beq_eq_true hb
    subst e1
    cases hk
    exact hg args h0 nx kk hkk
  | false =>
    rw [hb] at hk
    exact h k g' hk args h0 nx kk hkk
theorem or_nil (P : Program) (f : FuncId) : Snd P f (orH []) := fun _ _ _ _ h => absurd h Bool.false_ne_true
theorem or_cons {P : Program} {f : FuncId} {g : HF} {l : List HF} (hg : Snd P f g) (hl : Snd P f (orH l)) : Snd P f (orH (g :: l)) := fun args h nx k hk => by
  have hk : (Bool.rec (orH l args h nx k) true (g args h nx k) : Bool) = true := hk
  cases hb : g args h nx k with
  | true => exact hg args h nx k hb
  | false => rw [hb] at hk; exact hl args h nx k hk
theorem memo_snd {P : Program} {f : FuncId} {L N : List PB} {a : List V} {vo : V} (hc : CanonS P f L a N vo) : Snd P f (memoK L a N vo) := fun _ _ _ _ hk => memo_ok hc hk
/-- a memo, out of a run -/
theorem memo_run {P : Program} {hd : Hand} (hho : HO P hd) {n : Nat} {f : FuncId} {nx : I} {L N : List PB} {a : List V} {vo : V} (h : gd (ltAll nx L) (canonK P hd (run P hd n) f nx L a N vo) = true) : Snd P f (memoK L a N vo) :=
  memo_snd (canon_ok (run_ok hho n) hho (gd_ok h).1 (gd_ok h).2)
end Go.Sx
