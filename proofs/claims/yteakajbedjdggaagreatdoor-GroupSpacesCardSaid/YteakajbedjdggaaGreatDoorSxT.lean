import Derived.Test.YteakajbedjdggaaGreatDoorSxR
/-
  Handlers: numbers of package wide; the greatest dimension of a complex; sorted keys of a map.
-/
noncomputable section
namespace Go.Sx
open Go

/-- a number is forced -/
def fN (n : Nat) : (Nat → Bool) → Bool := Nat.rec (motive := fun _ => (Nat → Bool) → Bool) (fun k => k 0) (fun m _ k => k (Nat.succ m)) n
def decB (l : List Nat) : Nat → (Nat → Bool) → Bool := List.rec (motive := fun _ => Nat → (Nat → Bool) → Bool) (fun a k => k a) (fun b _ ih a k => fN (Nat.add (Nat.mul a 256) b) fun a => ih a k) l
def encB (f : Nat) : Nat → List Nat → (List Nat → Bool) → Bool :=
  Nat.rec (motive := fun _ => Nat → List Nat → (List Nat → Bool) → Bool) (fun _ _ _ => false) (fun _ ih n a k => Nat.rec (motive := fun _ => (List Nat → Bool) → Bool) (fun k => k a) (fun m _ k => fN (Nat.mod (Nat.succ m) 256) fun b => fN (Nat.div (Nat.succ m) 256) fun q => ih q (b :: a) k) n k) f
def wOutN (s : Bool) (m : Nat) (k : V → Bool) : Bool := encB 64 m [] fun l => k (.agg [.bool s, .str l])
def wOut (x : Int) : (V → Bool) → Bool := Int.rec (motive := fun _ => (V → Bool) → Bool) (fun m k => fN m fun m => wOutN false m k) (fun m k => fN (Nat.succ m) fun m => wOutN true m k) x
def hd0' (l : List Nat) : Nat := List.rec (motive := fun _ => Nat) 0 (fun b _ _ => b) l
def wIn (v : V) (k : Int → Bool) : Bool := onAgg v fun l => hd2 l fun s b => onBool s fun s => onStr b fun b => gd (Nat.beq (hd0' b) 0 |> fun z => Bool.rec true (Bool.rec (Nat.beq (lenL b) 0) false s) z) (decB b 0 fun n => Bool.rec (k (Int.ofNat n)) (k (Int.neg (Int.ofNat n))) s)
def wW2 (f : Int → Int → Int) : HF := fun a h nx k => hd2 a fun x y => wIn x fun x => wIn y fun y => wOut (f x y) fun v => k v h nx
def sgn (x : Int) : (Int → Bool) → Bool := Int.rec (motive := fun _ => (Int → Bool) → Bool) (fun m k => Nat.rec (motive := fun _ => Bool) (k 0) (fun _ _ => k 1) m) (fun _ k => k (-1)) x
def wFrom : HF := fun a h nx k => hd1 a fun x => onInt x fun _ n => wOut n fun v => k v h nx
def wNeg : HF := fun a h nx k => hd1 a fun x => wIn x fun x => wOut (Int.neg x) fun v => k v h nx
def wSign : HF := fun a h nx k => hd1 a fun x => wIn x fun x => sgn x fun s => k (.int .i64 s) h nx
def wCmp : HF := fun a h nx k => hd2 a fun x y => wIn x fun x => wIn y fun y => sgn (Int.sub x y) fun s => k (.int .i64 s) h nx
/-- the greatest field 1 of a map's values -/
def mxK (es : List (V × V × Nat)) : Int → (Int → Bool) → Bool :=
  List.rec (motive := fun _ => Int → (Int → Bool) → Bool) (fun m k => k m) (fun x _ ih m k => onAgg (Prod.rec (motive := fun _ => V) (fun _ y => Prod.rec (motive := fun _ => V) (fun v _ => v) y) x) fun l => dropK 1 l fun l => headK l fun d => onInt d fun _ n => br (ltI m n) (ih n k) (ih m k)) es
def hDim (of : List V → H → I → KC → Bool) : HF := fun a h nx k => of a h nx fun v h nx => onPtr v fun b _o => onCells (h.get b) fun cs _ _ => headK cs fun m => onMap m fun r => onMp (h.get r) fun es _ => mxK es (-1) fun n => k (.int .i64 n) h nx
def insI (x : Int) (l : List Int) : List Int := List.rec (motive := fun _ => List Int) [x] (fun y r ih => Bool.rec (y :: ih) (x :: y :: r) (ltI x y)) l
def ksK (es : List (V × V × Nat)) : (List Int → Bool) → Bool :=
  List.rec (motive := fun _ => (List Int → Bool) → Bool) (fun k => k []) (fun x _ ih k => onInt (Prod.rec (motive := fun _ => V) (fun v _ => v) x) fun _ n => ih fun l => k (insI n l)) es
def mapI (l : List Int) : List V := List.rec (motive := fun _ => List V) [] (fun x _ ih => .int .i64 x :: ih) l
def hSrt (lit : FuncId) (t : TypeId) : HF := fun a h nx k => hd1 a fun v => onFnV v fun g a c => gd (Nat.beq g lit) (headK (a ++ c) fun p => onPtr p fun b o => gd (Nat.beq o 0) (onCells (h.get b) fun cs _ _ => headK cs fun m => onMap m fun r => onMp (h.get r) fun es _ => ksK es fun l =>
  br (Nat.beq (lenL l) 0) (k .nslice h nx) (h.putK nx (some (.cells (mapI l) t 1)) fun h => k (.slice nx 0 (lenL l) (lenL l) true) h nx.inc)))
end Go.Sx
