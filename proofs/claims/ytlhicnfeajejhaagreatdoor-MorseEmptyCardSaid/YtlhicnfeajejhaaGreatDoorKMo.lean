/- An append as a step of a drawn region; calls by kinds for chains of given coefficients. Calls by kinds for chains of given coefficients. -/
import Derived.Test.YtlhicnfeajejhaaGreatDoorKMn
set_option maxRecDepth 1000000
set_option maxHeartbeats 16000000
namespace Go.Cx
open Go.RowKit
variable {P : Program} {Q : Exit → Act → World → Prop} {o : Oper} {a : Act}
def onlyN (K : Act → World → Prop) : Exit → Act → World → Prop
 | .normal, a, w => K a w
 | _, _, _ => False
theorem upon_weak {K next : Act → World → Prop} {r : Result Next} (h : o.upon P a next (onlyN K) r) : o.upon P a next Q r := by
 cases r with
 | ok n w =>
  cases n
  case value => exact h
  case skip => exact h
  case defer => exact h
  case row => exact h
  case enter f args =>
   refine Calls.mono h fun e w' he => ?_
   cases e with
   | returned v => exact he
   | panicked c => exact he.elim
   | outgrown => obtain ⟨_, _, h⟩ := he; exact h.elim
  all_goals exact h.elim
 | halt x w =>
  cases x
  case panic => exact h.elim
  all_goals exact h.elim
theorem do_append {wr : World} {K : Act → World → Prop} (s x : Operand) (t : TypeId)
  (ho : o.op = .call { callee := .builtin .append, args := #[s, x], argTypes := #[t, t] })
  (base : Nat) (e : TypeId) {z : Value} {size bytes : Nat} (hinfo : (P.info? e).map (fun i => (i.zero, i.size, i.bytes)) = some (some z, size, bytes)) (ht : P.underlying t = some (.slice e))
  (hzs : z.cells.size = size) (hsz : 0 < size) (hby : 0 < bytes)
  (v : Value) (n : Nat) (xs : List Value) (hs : a.eval s = v) (hown : wr.ownsRow base e size v n xs)
  (u : Value) (m : Nat) (ys : List Value) (hx : a.eval x = u) (hsrc : Sl wr size u ys) (hl : ys.length = m * size) (h1 : ∀ u ∈ ys, u.oneCell' = true)
  (hbytes : (n + m) * bytes ≤ 140737488355328) (hbase : base ≤ wr.heap.size)
  (h : ∀ v' w', w'.ownsRow base e size v' (n + m) (xs ++ ys) → Below base wr w' → K (a.put o.dst v') w') : Oper.wp P o a wr K Q := by
 have key : wpList P #[] (onlyN K) [{ o with guard := none }] a wr :=
  wpList_appS (W := wr) rfl s x t ho base e hinfo ht hzs hsz hby v n xs hs hown u m ys hx hsrc hl h1 hbytes (Below.refl _ _) hbase fun v' w' r1 _ r3 => h v' w' r1 r3
 unfold wpList at key
 split at key
 ·rcases key with key | ⟨_, _, _, key⟩
  ·exact upon_weak key
  ·exact key.elim
 ·rename_i hn
  exact absurd rfl hn
end Go.Cx
namespace Go.Proofs.YtlhicnfeajejhaaGreatDoor
open Go.RowKit Go.Cx
section
variable (v u : Value) (L M : List (Int × Int)) (w : World) (h : (Fk.ch L).holds v w) (k : (Fk.ch M).holds u w) (hL : LOk 8 L) (hM : LOk 8 M) (nL : L.length ≤ 100) (nM : M.length ≤ 100)
include h hL nL
include k hM nM
end
section
variable (z : Int) (v : Value) (L : List (Int × Int)) (w : World) (h : (Fk.ch L).holds v w) (hz : I64 z) (hL : LOk 8 L) (nL : L.length ≤ 100)
include hz hL nL
include h
end
end Go.Proofs.YtlhicnfeajejhaaGreatDoor
