import Derived.RangeFuncIn
import Derived.DefersIn
import Derived.OrdersIn
import Derived.Below
import Derived.KernelRfl
/-
  A symbolic executor for Go code, made to be run by the kernel. Answer type Bool; what is dynamic is applied behind closed alternatives.
-/
noncomputable section
namespace Go.Sx
open Go

/-- numbers of symbolic blocks, and of temporaries: bijective binary -/
inductive I where
  | z
  | l (p : I)
  | r (p : I)
def I.inc : I → I
  | .z => .l .z
  | .l p => .r p
  | .r p => .l p.inc
def I.of : Nat → I
  | 0 => .z
  | n + 1 => (I.of n).inc

inductive T (α : Type) where
  | lf
  | nd (l : T α) (v : Option α) (r : T α)
namespace T
variable {α : Type}
def get (t : T α) : I → Option α :=
  T.rec (motive := fun _ => I → Option α) (fun _ => none)
    (fun _ v _ gl gr p => I.rec (motive := fun _ => (I → Option α) → (I → Option α) → Option α → Option α) (fun _ _ v => v) (fun p _ gl _ _ => gl p) (fun p _ _ gr _ => gr p) p gl gr v) t
def one (p : I) : Option α → T α :=
  I.rec (motive := fun _ => Option α → T α) (fun v => nd lf v lf) (fun _ ih v => nd (ih v) none lf) (fun _ ih v => nd lf none (ih v)) p
def put (t : T α) (p : I) (v : Option α) : T α :=
  T.rec (motive := fun _ => I → T α) (fun p => one p v)
    (fun l w r pl pr p => I.rec (motive := fun _ => T α) (nd l v r) (fun p _ => nd (pl p) w r) (fun p _ => nd l w (pr p)) p) t p
def putK (t : T α) : I → Option α → (T α → Bool) → Bool :=
  T.rec (motive := fun _ => I → Option α → (T α → Bool) → Bool) (fun p v k => k (one p v))
    (fun l w r pl pr p => I.rec (motive := fun _ => (I → Option α → (T α → Bool) → Bool) → (I → Option α → (T α → Bool) → Bool) → T α → Option α → T α → Option α → (T α → Bool) → Bool)
      (fun _ _ l _ r v k => k (nd l v r)) (fun p _ pl _ _ w r v k => pl p v fun l => k (nd l w r)) (fun p _ _ pr l w _ v k => pr p v fun r => k (nd l w r)) p pl pr l w r) t
end T

inductive V where
  | bool (b : Bool)
  | int (k : IntKind) (n : Int)
  | str (l : List Nat)
  | ptr (b : I) (o : Nat)
  | nptr
  | slice (b : I) (o len cap : Nat) (opn : Bool)
  | nslice
  | esl (b : I) (o o' : Nat)
  | map (r : I)
  | nmap
  | func (f : FuncId) (first captured : List V)
  | yld (l : I)
  | nfunc
  | nif
  | agg (l : List V)
  | tup (l : List V)
def V.un : V := .tup []
inductive B where
  | cells (c : List V) (elem : TypeId) (sz : Nat)
  | map (es : List (V × V × Nat)) (clock : Nat)
  | loop (st : LoopState) (pend : Option Code) (fn : FuncId) (n : Nat) (tm : T V) (params : List Tmp) (assign body : Code) (defers : I)
  | defd
abbrev H := T B

def onBool (v : V) : (Bool → Bool) → Bool :=
  V.rec (motive_1 := fun _ => (Bool → Bool) → Bool) (motive_2 := fun _ => PUnit)
    (fun x0 f => f x0) (fun _ _ => fun _ => false) (fun _ => fun _ => false) (fun _ _ => fun _ => false) (fun _ => false) (fun _ _ _ _ _ => fun _ => false) (fun _ => false) (fun _ _ _ => fun _ => false) (fun _ => fun _ => false) (fun _ => false) (fun _ _ _ _ _ => fun _ => false) (fun _ => fun _ => false) (fun _ => false) (fun _ => false) (fun _ _ => fun _ => false) (fun _ _ => fun _ => false)
    ⟨⟩ (fun _ _ _ _ => ⟨⟩) v
theorem onBool_ok {v : V} {f : Bool → Bool} (h : onBool v f = true) : ∃ x0, v = .bool x0 ∧ f x0 = true := by
  cases v <;> first | exact ⟨_, rfl, h⟩ | exact absurd h Bool.false_ne_true
def onInt (v : V) : (IntKind → Int → Bool) → Bool :=
  V.rec (motive_1 := fun _ => (IntKind → Int → Bool) → Bool) (motive_2 := fun _ => PUnit)
    (fun _ => fun _ => false) (fun x0 x1 f => f x0 x1) (fun _ => fun _ => false) (fun _ _ => fun _ => false) (fun _ => false) (fun _ _ _ _ _ => fun _ => false) (fun _ => false) (fun _ _ _ => fun _ => false) (fun _ => fun _ => false) (fun _ => false) (fun _ _ _ _ _ => fun _ => false) (fun _ => fun _ => false) (fun _ => false) (fun _ => false) (fun _ _ => fun _ => false) (fun _ _ => fun _ => false)
    ⟨⟩ (fun _ _ _ _ => ⟨⟩) v
theorem onInt_ok {v : V} {f : IntKind → Int → Bool} (h : onInt v f = true) : ∃ x0 x1, v = .int x0 x1 ∧ f x0 x1 = true := by
  cases v <;> first | exact ⟨_, _, rfl, h⟩ | exact absurd h Bool.false_ne_true
def onStr (v : V) : (List Nat → Bool) → Bool :=
  V.rec (motive_1 := fun _ => (List Nat → Bool) → Bool) (motive_2 := fun _ => PUnit)
    (fun _ => fun _ => false) (fun _ _ => fun _ => false) (fun x0 f => f x0) (fun _ _ => fun _ => false) (fun _ => false) (fun _ _ _ _ _ => fun _ => false) (fun _ => false) (fun _ _ _ => fun _ => false) (fun _ => fun _ => false) (fun _ => false) (fun _ _ _ _ _ => fun _ => false) (fun _ => fun _ => false) (fun _ => false) (fun _ => false) (fun _ _ => fun _ => false) (fun _ _ => fun _ => false)
    ⟨⟩ (fun _ _ _ _ => ⟨⟩) v
theorem onStr_ok {v : V} {f : List Nat → Bool} (h : onStr v f = true) : ∃ x0, v = .str x0 ∧ f x0 = true := by
  cases v <;> first | exact ⟨_, rfl, h⟩ | exact absurd h Bool.false_ne_true
def onPtr (v : V) : (I → Nat → Bool) → Bool :=
  V.rec (motive_1 := fun _ => (I → Nat → Bool) → Bool) (motive_2 := fun _ => PUnit)
    (fun _ => fun _ => false) (fun _ _ => fun _ => false) (fun _ => fun _ => false) (fun x0 x1 f => f x0 x1) (fun _ => false) (fun _ _ _ _ _ => fun _ => false) (fun _ => false) (fun _ _ _ => fun _ => false) (fun _ => fun _ => false) (fun _ => false) (fun _ _ _ _ _ => fun _ => false) (fun _ => fun _ => false) (fun _ => false) (fun _ => false) (fun _ _ => fun _ => false) (fun _ _ => fun _ => false)
    ⟨⟩ (fun _ _ _ _ => ⟨⟩) v
theorem onPtr_ok {v : V} {f : I → Nat → Bool} (h : onPtr v f = true) : ∃ x0 x1, v = .ptr x0 x1 ∧ f x0 x1 = true := by
  cases v <;> first | exact ⟨_, _, rfl, h⟩ | exact absurd h Bool.false_ne_true
def onSl (v : V) : (I → Nat → Nat → Nat → Bool → Bool) → Bool :=
  V.rec (motive_1 := fun _ => (I → Nat → Nat → Nat → Bool → Bool) → Bool) (motive_2 := fun _ => PUnit)
    (fun _ => fun _ => false) (fun _ _ => fun _ => false) (fun _ => fun _ => false) (fun _ _ => fun _ => false) (fun _ => false) (fun x0 x1 x2 x3 x4 f => f x0 x1 x2 x3 x4) (fun _ => false) (fun _ _ _ => fun _ => false) (fun _ => fun _ => false) (fun _ => false) (fun _ _ _ _ _ => fun _ => false) (fun _ => fun _ => false) (fun _ => false) (fun _ => false) (fun _ _ => fun _ => false) (fun _ _ => fun _ => false)
    ⟨⟩ (fun _ _ _ _ => ⟨⟩) v
theorem onSl_ok {v : V} {f : I → Nat → Nat → Nat → Bool → Bool} (h : onSl v f = true) : ∃ x0 x1 x2 x3 x4, v = .slice x0 x1 x2 x3 x4 ∧ f x0 x1 x2 x3 x4 = true := by
  cases v <;> first | exact ⟨_, _, _, _, _, rfl, h⟩ | exact absurd h Bool.false_ne_true
def onMap (v : V) : (I → Bool) → Bool :=
  V.rec (motive_1 := fun _ => (I → Bool) → Bool) (motive_2 := fun _ => PUnit)
    (fun _ => fun _ => false) (fun _ _ => fun _ => false) (fun _ => fun _ => false) (fun _ _ => fun _ => false) (fun _ => false) (fun _ _ _ _ _ => fun _ => false) (fun _ => false) (fun _ _ _ => fun _ => false) (fun x0 f => f x0) (fun _ => false) (fun _ _ _ _ _ => fun _ => false) (fun _ => fun _ => false) (fun _ => false) (fun _ => false) (fun _ _ => fun _ => false) (fun _ _ => fun _ => false)
    ⟨⟩ (fun _ _ _ _ => ⟨⟩) v
theorem onMap_ok {v : V} {f : I → Bool} (h : onMap v f = true) : ∃ x0, v = .map x0 ∧ f x0 = true := by
  cases v <;> first | exact ⟨_, rfl, h⟩ | exact absurd h Bool.false_ne_true
def onAgg (v : V) : (List V → Bool) → Bool :=
  V.rec (motive_1 := fun _ => (List V → Bool) → Bool) (motive_2 := fun _ => PUnit)
    (fun _ => fun _ => false) (fun _ _ => fun _ => false) (fun _ => fun _ => false) (fun _ _ => fun _ => false) (fun _ => false) (fun _ _ _ _ _ => fun _ => false) (fun _ => false) (fun _ _ _ => fun _ => false) (fun _ => fun _ => false) (fun _ => false) (fun _ _ _ _ _ => fun _ => false) (fun _ => fun _ => false) (fun _ => false) (fun _ => false) (fun x0 _ f => f x0) (fun _ _ => fun _ => false)
    ⟨⟩ (fun _ _ _ _ => ⟨⟩) v
theorem onAgg_ok {v : V} {f : List V → Bool} (h : onAgg v f = true) : ∃ x0, v = .agg x0 ∧ f x0 = true := by
  cases v <;> first | exact ⟨_, rfl, h⟩ | exact absurd h Bool.false_ne_true
def onTup (v : V) : (List V → Bool) → Bool :=
  V.rec (motive_1 := fun _ => (List V → Bool) → Bool) (motive_2 := fun _ => PUnit)
    (fun _ => fun _ => false) (fun _ _ => fun _ => false) (fun _ => fun _ => false) (fun _ _ => fun _ => false) (fun _ => false) (fun _ _ _ _ _ => fun _ => false) (fun _ => false) (fun _ _ _ => fun _ => false) (fun _ => fun _ => false) (fun _ => false) (fun _ _ _ _ _ => fun _ => false) (fun _ => fun _ => false) (fun _ => false) (fun _ => false) (fun _ _ => fun _ => false) (fun x0 _ f => f x0)
    ⟨⟩ (fun _ _ _ _ => ⟨⟩) v
theorem onTup_ok {v : V} {f : List V → Bool} (h : onTup v f = true) : ∃ x0, v = .tup x0 ∧ f x0 = true := by
  cases v <;> first | exact ⟨_, rfl, h⟩ | exact absurd h Bool.false_ne_true
/-- the cells of a value -/
def cellsK (v : V) : (List V → Bool) → Bool :=
  V.rec (motive_1 := fun _ => (List V → Bool) → Bool) (motive_2 := fun _ => PUnit)
    (fun x0 k => k [.bool x0]) (fun x0 x1 k => k [.int x0 x1]) (fun x0 k => k [.str x0]) (fun x0 x1 k => k [.ptr x0 x1]) (fun k => k [.nptr]) (fun x0 x1 x2 x3 x4 k => k [.slice x0 x1 x2 x3 x4]) (fun k => k [.nslice]) (fun x0 x1 x2 k => k [.esl x0 x1 x2]) (fun x0 k => k [.map x0]) (fun k => k [.nmap]) (fun a b c _ _ k => k [.func a b c]) (fun x0 k => k [.yld x0]) (fun k => k [.nfunc]) (fun k => k [.nif]) (fun l _ k => k l) (fun _ _ => fun _ => false)
    ⟨⟩ (fun _ _ _ _ => ⟨⟩) v
/-- the value is that of one cell -/
def isC (v : V) : Bool → Bool :=
  V.rec (motive_1 := fun _ => Bool → Bool) (motive_2 := fun _ => PUnit)
    (fun _ => fun b => b) (fun _ _ => fun b => b) (fun _ => fun b => b) (fun _ _ => fun b => b) (fun b => b) (fun _ _ _ _ _ => fun b => b) (fun b => b) (fun _ _ _ => fun b => b) (fun _ => fun b => b) (fun b => b) (fun _ _ _ _ _ => fun b => b) (fun _ => fun b => b) (fun b => b) (fun b => b) (fun _ _ _ => false) (fun _ _ _ => false)
    ⟨⟩ (fun _ _ _ _ => ⟨⟩) v
/-- a pointer or a function -/
def isPF (v : V) : Bool → Bool :=
  V.rec (motive_1 := fun _ => Bool → Bool) (motive_2 := fun _ => PUnit)
    (fun _ => fun _ => false) (fun _ _ => fun _ => false) (fun _ => fun _ => false) (fun _ _ b => b) (fun _ => false) (fun _ _ _ _ _ => fun _ => false) (fun _ => false) (fun _ _ _ => fun _ => false) (fun _ => fun _ => false) (fun _ => false) (fun _ _ _ _ _ b => b) (fun _ => fun _ => false) (fun _ => false) (fun _ => false) (fun _ _ => fun _ => false) (fun _ _ => fun _ => false)
    ⟨⟩ (fun _ _ _ _ => ⟨⟩) v
/-- a slice with memory, or the nil slice -/
def onSlN (v : V) : (I → Nat → Nat → Nat → Bool → Bool) → Bool → Bool :=
  V.rec (motive_1 := fun _ => (I → Nat → Nat → Nat → Bool → Bool) → Bool → Bool) (motive_2 := fun _ => PUnit)
    (fun _ _ _ => false) (fun _ _ _ _ => false) (fun _ _ _ => false) (fun _ _ _ _ => false) (fun _ _ => false) (fun b o n c p f _ => f b o n c p) (fun _ g => g) (fun _ _ _ _ _ => false)
    (fun _ _ _ => false) (fun _ _ => false) (fun _ _ _ _ _ _ _ => false) (fun _ _ _ => false) (fun _ _ => false) (fun _ _ => false) (fun _ _ _ _ => false) (fun _ _ _ _ => false)
    ⟨⟩ (fun _ _ _ _ => ⟨⟩) v
def gd (c x : Bool) : Bool := Bool.rec false x c
def br (c t e : Bool) : Bool := Bool.rec e t c
theorem gd_ok {c x : Bool} (h : gd c x = true) : c = true ∧ x = true := by cases c <;> first | exact absurd h Bool.false_ne_true | exact ⟨rfl, h⟩
def onS {α : Type} (o : Option α) : (α → Bool) → Bool := Option.rec (motive := fun _ => (α → Bool) → Bool) (fun _ => false) (fun a f => f a) o
theorem onS_ok {α : Type} {o : Option α} {f : α → Bool} (h : onS o f = true) : ∃ a, o = some a ∧ f a = true := by
  cases o with
  | none => exact absurd h Bool.false_ne_true
  | some a => exact ⟨a, rfl, h⟩
/-- an option, both ways -/
def onO {α : Type} (o : Option α) : Bool → (α → Bool) → Bool := Option.rec (motive := fun _ => Bool → (α → Bool) → Bool) (fun b _ => b) (fun a _ f => f a) o
def onNat (n : Int) : (Nat → Bool) → Bool := Int.rec (motive := fun _ => (Nat → Bool) → Bool) (fun m f => f m) (fun _ _ => false) n
theorem onNat_ok {n : Int} {f : Nat → Bool} (h : onNat n f = true) : ∃ m : Nat, n = m ∧ f m = true := by
  cases n with
  | ofNat m => exact ⟨m, rfl, h⟩
  | negSucc m => exact absurd h Bool.false_ne_true
def lenL {α : Type} (l : List α) : Nat := List.rec (motive := fun _ => Nat) 0 (fun _ _ n => Nat.succ n) l
theorem lenL_eq {α : Type} (l : List α) : lenL l = l.length := by
  induction l with
  | nil => rfl
  | cons a l ih => exact congrArg Nat.succ ih
def dropK (n : Nat) : List V → (List V → Bool) → Bool :=
  Nat.rec (motive := fun _ => List V → (List V → Bool) → Bool) (fun l k => k l)
    (fun _ ih l => List.rec (motive := fun _ => (List V → Bool) → Bool) (fun _ => false) (fun _ tl _ => ih tl) l) n
def takeK (n : Nat) : List V → (List V → Bool) → Bool :=
  Nat.rec (motive := fun _ => List V → (List V → Bool) → Bool) (fun _ k => k [])
    (fun _ ih l k => List.rec (motive := fun _ => Bool) false (fun x tl _ => ih tl fun r => k (x :: r)) l) n
def cutK (c : List V) (o n : Nat) (k : List V → Bool) : Bool := dropK o c fun l => takeK n l k
def headK (l : List V) : (V → Bool) → Bool := List.rec (motive := fun _ => (V → Bool) → Bool) (fun _ => false) (fun x _ _ f => f x) l
def overK (vs : List V) : List V → (List V → Bool) → Bool :=
  List.rec (motive := fun _ => List V → (List V → Bool) → Bool) (fun l k => k l)
    (fun v _ ih l k => List.rec (motive := fun _ => Bool) false (fun _ tl _ => isC v (ih tl fun r => k (v :: r))) l) vs
def setAtK (n : Nat) : List V → List V → (List V → Bool) → Bool :=
  Nat.rec (motive := fun _ => List V → List V → (List V → Bool) → Bool) (fun l vs k => overK vs l k)
    (fun _ ih l vs k => List.rec (motive := fun _ => Bool) false (fun x tl _ => ih tl vs fun r => k (x :: r)) l) n

/-! constants, and what is known of types: closed terms -/
def ofC : Value → Option V
  | .bool b => some (.bool b)
  | .int k n => some (.int k n)
  | .string s => some (.str (s.data.toList.map UInt8.toNat))
  | .pointer none => some .nptr
  | .slice none 0 0 => some .nslice
  | .map none => some .nmap
  | .nilFunc => some .nfunc
  | .nilIface => some .nif
  | _ => none
def ofCs : List Value → Option (List V)
  | [] => some []
  | v :: r => match ofC v, ofCs r with
    | some x, some y => some (x :: y)
    | _, _ => none
def ofV : Value → Option V
  | .agg cs => (ofCs cs.toList).map .agg
  | .tuple ⟨[]⟩ => some (.tup [])
  | v => ofC v
def szOf (P : Program) (t : TypeId) : Option Nat := (P.info? t).map (·.size)
def byOf (P : Program) (t : TypeId) : Option Nat := (P.info? t).map (·.bytes)
def zeroV (P : Program) (t : TypeId) : Option V := ((P.info? t).bind (·.zero)).bind ofV
/-- how a value of a type lies in memory: as so many cells of an aggregate, or as one cell -/
def ldOf (P : Program) (t : TypeId) : Option (Option Nat) := match P.underlying t with
  | some (.struct _) => (szOf P t).map some
  | some (.array _ _) => (szOf P t).map some
  | some _ => some none
  | none => none
inductive SK where
  | str
  | sl (z : Nat)
  | arr (n z : Nat)
def skOf (P : Program) (t : TypeId) : Option SK := match P.underlying t with
  | some .string => some .str
  | some (.slice e) => (szOf P e).map .sl
  | some (.array n e) => (szOf P e).map (.arr n)
  | _ => none
def slEl (P : Program) (t : TypeId) : Option TypeId := match P.underlying t with
  | some (.slice e) => some e
  | _ => none
def faOf (P : Program) (s : TypeId) (f : Nat) : Option Nat := match P.underlying s with
  | some (.struct fs) => match fs[f]? with
    | some fd => match szOf P fd.type with
      | some (_ + 1) => some fd.offset
      | _ => none
    | none => none
  | _ => none
def fdOf (P : Program) (s : TypeId) (f : Nat) : Option (Option Nat × Nat) := match P.underlying s with
  | some (.struct fs) => match fs[f]? with
    | some fd => (ldOf P fd.type).map fun n => (n, fd.offset)
    | none => none
  | _ => none
/-- scalars that can be compared -/
inductive SC where
  | bool | int | str | ptr | sl | map | func
def scOf : TypeDesc → Option SC
  | .bool => some .bool
  | .int _ => some .int
  | .string => some .str
  | .pointer _ => some .ptr
  | .slice _ => some .sl
  | .map _ _ => some .map
  | .func _ _ _ => some .func
  | _ => none
/-- how values are compared: a scalar, or field by field -/
inductive ED where
  | sc (t : SC)
  | nil
  | cons (n : Option Nat) (off : Nat) (h t : ED)
def edF (P : Program) (ed : TypeId → Option ED) : List Field → Option ED
  | [] => some .nil
  | f :: r => if f.name = "_" then none else match ldOf P f.type, ed f.type, edF P ed r with
    | some n, some h, some t => some (.cons n f.offset h t)
    | _, _, _ => none
def isNilF : List Field → Bool
  | [] => true
  | _ => false
def edOf (P : Program) : Nat → TypeId → Option ED
  | 0, _ => none
  | d + 1, t => match P.underlying t with
    | some (.struct fs) => if P.stoodInHeld t then none else if isNilF fs.toList then none else edF P (edOf P d) fs.toList
    | some u => (scOf u).map .sc
    | none => none
/-- what '==' at a type does; none if the guard of nil interfaces may be asked -/
def eqOf (P : Program) (t : TypeId) : Option ED := if P.eqGuardType P.depth t then none else edOf P 9 t
inductive CV where
  | int (k : IntKind)
  | same
  | bytes
def cvOf (P : Program) (s d : TypeId) : Option CV := match P.underlying s, P.underlying d with
  | some (.int _), some (.int k) => some (.int k)
  | some .string, some .string => some .same
  | some (.slice e), some .string => match P.underlying e with
    | some (.int .u8) => some .bytes
    | _ => none
  | _, _ => none
/-- maps: the kind of the key, and the zero of the element -/
def mpOf (P : Program) (t : TypeId) : Option (SC × V) := match P.underlying t with
  | some (.map kt et) => match P.underlying kt, zeroV P et with
    | some (.int _), some z => some (.int, z)
    | some .string, some z => some (.str, z)
    | some .bool, some z => some (.bool, z)
    | _, _ => none
  | _ => none
inductive LK where
  | str | sl | map | arr (n : Nat)
def lkOf (P : Program) (t : TypeId) : Option LK := match P.underlying t with
  | some .string => some .str
  | some (.slice _) => some .sl
  | some (.map _ _) => some .map
  | some (.array n _) => some (.arr n)
  | _ => none
/-- struct or array: its zero, and the places of its parts -/
def plF (P : Program) : List Field → Option (List (Nat × Nat))
  | [] => some []
  | f :: r => match szOf P f.type, plF P r with
    | some z, some l => some ((f.offset, z) :: l)
    | _, _ => none
def bdOf (P : Program) (t : TypeId) : Option (List V × (Nat → Option (Nat × Nat))) := match zeroV P t, P.underlying t with
  | some (.agg z), some (.struct fs) => (plF P fs.toList).map fun l => (z, fun i => l[i]?)
  | some (.agg z), some (.array _ e) => (szOf P e).map fun s => (z, fun i => some (i * s, s))
  | _, _ => none
/-- slices: element type, its size in cells (not 0), in bytes, the cells of its zero -/
structure SI where
  e : TypeId
  z : Nat
  by_ : Nat
  zero : List V
def cellsV : V → List V
  | .agg l => l
  | v => [v]
def siOf (P : Program) (t : TypeId) : Option SI := match slEl P t with
  | some e => match szOf P e, byOf P e, zeroV P e with
    | some (z + 1), some b, some v => if (cellsV v).length = z + 1 then some ⟨e, z + 1, b, cellsV v⟩ else none
    | _, _, _ => none
  | none => none

/-! temporaries and operands -/
def onTm (o : Option V) : (V → Bool) → Bool := Option.rec (motive := fun _ => (V → Bool) → Bool) (fun k => k V.un) (fun v k => k v) o
def evT (p : I) (tm : T V) (k : V → Bool) : Bool := onTm (tm.get p) k
def evC (o : Option V) : T V → (V → Bool) → Bool := Option.rec (motive := fun _ => T V → (V → Bool) → Bool) (fun _ _ => false) (fun v _ k => k v) o
def ev (x : Operand) : T V → (V → Bool) → Bool :=
  Operand.rec (motive := fun _ => T V → (V → Bool) → Bool) (fun t => evT (I.of t)) (fun v => evC (ofV v)) (fun _ _ _ => false) (fun f _ k => k (.func f [] [])) x
def evL (l : List Operand) : T V → (List V → Bool) → Bool :=
  List.rec (motive := fun _ => T V → (List V → Bool) → Bool) (fun _ k => k []) (fun x _ ih tm k => ev x tm fun v => ih tm fun l => k (v :: l)) l
def evO (o : Option Operand) : T V → (Option V → Bool) → Bool :=
  Option.rec (motive := fun _ => T V → (Option V → Bool) → Bool) (fun _ k => k none) (fun x tm k => ev x tm fun v => k (some v)) o
def evP (l : List (Nat × Operand)) : T V → (List (Nat × V) → Bool) → Bool :=
  List.rec (motive := fun _ => T V → (List (Nat × V) → Bool) → Bool) (fun _ k => k []) (fun x _ ih tm k => ev x.2 tm fun v => ih tm fun l => k ((x.1, v) :: l)) l

/-! integers -/
def kNo (k : IntKind) : Nat := IntKind.rec (motive := fun _ => Nat) 0 1 2 3 4 5 6 7 k
def onKind (a b : IntKind) (x : Bool) : Bool := gd (Nat.beq (kNo a) (kNo b)) x
def wrS (b : Nat) (k : IntKind) (n : Int) : (Int → Bool) → Bool :=
  Int.rec (motive := fun _ => (Int → Bool) → Bool) (fun m f => br (Nat.blt m b) (f (.ofNat m)) (f (k.wrap (.ofNat m)))) (fun m f => br (Nat.blt m b) (f (.negSucc m)) (f (k.wrap (.negSucc m)))) n
def wrU (b : Nat) (k : IntKind) (n : Int) : (Int → Bool) → Bool :=
  Int.rec (motive := fun _ => (Int → Bool) → Bool) (fun m f => br (Nat.blt m b) (f (.ofNat m)) (f (k.wrap (.ofNat m)))) (fun m f => f (k.wrap (.negSucc m))) n
def wrapK (k : IntKind) : Int → (Int → Bool) → Bool :=
  IntKind.rec (motive := fun _ => Int → (Int → Bool) → Bool) (fun n f => f (IntKind.wrap .i8 n)) (fun n f => f (IntKind.wrap .i16 n)) (wrS 2147483648 .i32) (wrS 9223372036854775808 .i64)
    (wrU 256 .u8) (wrU 65536 .u16) (wrU 4294967296 .u32) (wrU 18446744073709551616 .u64) k
def ltI (a b : Int) : Bool :=
  Int.rec (motive := fun _ => Int → Bool) (fun m b => Int.rec (motive := fun _ => Bool) (fun n => Nat.blt m n) (fun _ => false) b) (fun m b => Int.rec (motive := fun _ => Bool) (fun _ => true) (fun n => Nat.blt n m) b) a b
def eqI (a b : Int) : Bool :=
  Int.rec (motive := fun _ => Int → Bool) (fun m b => Int.rec (motive := fun _ => Bool) (fun n => Nat.beq m n) (fun _ => false) b) (fun m b => Int.rec (motive := fun _ => Bool) (fun _ => false) (fun n => Nat.beq n m) b) a b
abbrev BK := IntKind → IntKind → Int → Int → (V → Bool) → Bool
def iAdd : BK := fun k l a b kk => onKind k l (wrapK k (Int.add a b) fun r => kk (.int k r))
def iSub : BK := fun k l a b kk => onKind k l (wrapK k (Int.sub a b) fun r => kk (.int k r))
def iMul : BK := fun k l a b kk => onKind k l (wrapK k (Int.mul a b) fun r => kk (.int k r))
def iQuo : BK := fun k l a b kk => onKind k l (br (eqI b 0) false (wrapK k (Int.tdiv a b) fun r => kk (.int k r)))
def iRem : BK := fun k l a b kk => onKind k l (br (eqI b 0) false (kk (.int k (Int.tmod a b))))
def iAnd : BK := fun k l a b kk => onKind k l (kk (.int k (k.wrap (BitVec.ofInt k.bits a &&& BitVec.ofInt k.bits b).toNat)))
def iOr : BK := fun k l a b kk => onKind k l (kk (.int k (k.wrap (BitVec.ofInt k.bits a ||| BitVec.ofInt k.bits b).toNat)))
def iXor : BK := fun k l a b kk => onKind k l (kk (.int k (k.wrap (BitVec.ofInt k.bits a ^^^ BitVec.ofInt k.bits b).toNat)))
def iShl : BK := fun k _ a b kk => onNat b fun n => wrapK k (Int.mul a (Int.ofNat (2 ^ (min n k.bits)))) fun r => kk (.int k r)
def iShr : BK := fun k _ a b kk => onNat b fun n => kk (.int k (Int.fdiv a (Int.ofNat (2 ^ (min n k.bits)))))
def iAnn : BK := fun k l a b kk => onKind k l (kk (.int k (k.wrap (BitVec.ofInt k.bits a &&& ~~~BitVec.ofInt k.bits b).toNat)))
def iEql : BK := fun k l a b kk => onKind k l (kk (.bool (eqI a b)))
def iNeq : BK := fun k l a b kk => onKind k l (kk (.bool (not (eqI a b))))
def iLss : BK := fun k l a b kk => onKind k l (kk (.bool (ltI a b)))
def iLeq : BK := fun k l a b kk => onKind k l (kk (.bool (not (ltI b a))))
def iGtr : BK := fun k l a b kk => onKind k l (kk (.bool (ltI b a)))
def iGeq : BK := fun k l a b kk => onKind k l (kk (.bool (not (ltI a b))))
def intK (op : BinOp) : BK := BinOp.rec (motive := fun _ => BK) iAdd iSub iMul iQuo iRem iAnd iOr iXor iShl iShr iAnn iEql iNeq iLss iLeq iGtr iGeq op

/-! strings, comparisons -/
def eqL (x : List Nat) : List Nat → Bool :=
  List.rec (motive := fun _ => List Nat → Bool) (fun y => List.rec (motive := fun _ => Bool) true (fun _ _ _ => false) y)
    (fun a _ ih y => List.rec (motive := fun _ => Bool) false (fun b tl _ => gd (Nat.beq (a % 256) (b % 256)) (ih tl)) y) x
def partK (n : Option Nat) : List V → Nat → (V → Bool) → Bool :=
  Option.rec (motive := fun _ => List V → Nat → (V → Bool) → Bool) (fun l o k => dropK o l fun l => headK l fun v => isC v (k v)) (fun n l o k => cutK l o n fun c => k (.agg c)) n
def tagOf (v : V) : Nat := V.rec (motive_1 := fun _ => Nat) (motive_2 := fun _ => PUnit)
    (fun _ => 0) (fun _ _ => 1) (fun _ => 2) (fun _ _ => 3) 4 (fun _ _ _ _ _ => 5) 6 (fun _ _ _ => 5) (fun _ => 7) 8 (fun _ _ _ _ _ => 9) (fun _ => 11) 10 12 (fun _ _ => 11) (fun _ _ => 11) ⟨⟩ (fun _ _ _ _ => ⟨⟩) v
/-- one of the two is nil (tag m); the other nil (m) or not (n) -/
def nilEq (n m : Nat) (x y : V) (k : Bool → Bool) : Bool :=
  br (Nat.beq (tagOf x) m) (br (Nat.beq (tagOf y) m) (k true) (gd (Nat.beq (tagOf y) n) (k false))) (gd (Nat.beq (tagOf x) n) (gd (Nat.beq (tagOf y) m) (k false)))
def scEq (t : SC) : V → V → (Bool → Bool) → Bool :=
  SC.rec (motive := fun _ => V → V → (Bool → Bool) → Bool)
    (fun x y k => onBool x fun a => onBool y fun b => k (a == b))
    (fun x y k => onInt x fun i a => onInt y fun j b => onKind i j (k (eqI a b)))
    (fun x y k => onStr x fun a => onStr y fun b => k (eqL a b))
    (nilEq 3 4) (nilEq 5 6) (nilEq 7 8) (nilEq 9 10) t
def eqK (d : ED) : V → V → (Bool → Bool) → Bool :=
  ED.rec (motive := fun _ => V → V → (Bool → Bool) → Bool) scEq (fun _ _ k => k true)
    (fun n off _ _ eh et x y k => onAgg x fun xs => onAgg y fun ys => partK n xs off fun a => partK n ys off fun b => eh a b fun r => br r (et x y k) (k false)) d
def eqTK (P : Program) (t : TypeId) (x y : V) (k : Bool → Bool) : Bool := onS (eqOf P t) fun d => eqK d x y k
abbrev OK := Program → TypeId → V → V → (V → Bool) → Bool
def oEql : OK := fun P t x y k => br (Nat.beq (tagOf x) 12) false (eqTK P t x y fun b => k (.bool b))
def oNeq : OK := fun P t x y k => br (Nat.beq (tagOf x) 12) false (eqTK P t x y fun b => k (.bool (not b)))
def oNo : OK := fun _ _ _ _ _ => false
def othK (op : BinOp) : OK := BinOp.rec (motive := fun _ => OK) oNo oNo oNo oNo oNo oNo oNo oNo oNo oNo oNo oEql oNeq oNo oNo oNo oNo op
abbrev SK2 := List Nat → List Nat → (V → Bool) → Bool
def sAdd : SK2 := fun a b k => gd (Nat.blt (lenL a + lenL b) 4611686018427387904) (k (.str (a ++ b)))
def sEql : SK2 := fun a b k => k (.bool (eqL a b))
def sNeq : SK2 := fun a b k => k (.bool (not (eqL a b)))
def sNo : SK2 := fun _ _ _ => false
def strK (op : BinOp) : SK2 := BinOp.rec (motive := fun _ => SK2) sAdd sNo sNo sNo sNo sNo sNo sNo sNo sNo sNo sEql sNeq sNo sNo sNo sNo op
def binOth (op : BinOp) (t : TypeId) (x : V) : Program → V → (V → Bool) → Bool := fun P y k => othK op P t x y k
def binK (op : BinOp) (P : Program) (t : TypeId) (x y : V) (k : V → Bool) : Bool :=
  br (Nat.beq (tagOf x) 1) (onInt x fun i a => onInt y fun j b => intK op i j a b k)
    (br (Nat.beq (tagOf x) 2) (onStr x fun a => onStr y fun b => strK op a b k) (othK op P t x y k))

/-! quiet operations -/
abbrev QK := Program → T V → H → (V → Bool) → Bool
def qNo : QK := fun _ _ _ _ => false
def qMove (x : Operand) : QK := fun _ tm _ k => ev x tm k
def qPick (c a b : Operand) : QK := fun _ tm _ k => ev c tm fun v => onBool v fun t => br t (ev a tm k) (ev b tm k)
def onCells (o : Option B) : (List V → TypeId → Nat → Bool) → Bool :=
  Option.rec (motive := fun _ => (List V → TypeId → Nat → Bool) → Bool) (fun _ => false)
    (fun b => B.rec (motive := fun _ => (List V → TypeId → Nat → Bool) → Bool) (fun c e z f => f c e z) (fun _ _ _ => false) (fun _ _ _ _ _ _ _ _ _ _ => false) (fun _ => false) b) o
def onMp (o : Option B) : (List (V × V × Nat) → Nat → Bool) → Bool :=
  Option.rec (motive := fun _ => (List (V × V × Nat) → Nat → Bool) → Bool) (fun _ => false)
    (fun b => B.rec (motive := fun _ => (List (V × V × Nat) → Nat → Bool) → Bool) (fun _ _ _ _ => false) (fun e c f => f e c) (fun _ _ _ _ _ _ _ _ _ _ => false) (fun _ => false) b) o
def rdK (h : H) (b : I) (o n : Nat) (k : List V → Bool) : Bool := onCells (h.get b) fun c _ _ => cutK c o n k
def ldK (n : Option Nat) : H → I → Nat → (V → Bool) → Bool :=
  Option.rec (motive := fun _ => H → I → Nat → (V → Bool) → Bool) (fun h b o k => onCells (h.get b) fun c _ _ => dropK o c fun l => headK l k) (fun n h b o k => rdK h b o n fun l => k (.agg l)) n
def loadK (P : Program) (t : TypeId) (h : H) (b : I) (o : Nat) (k : V → Bool) : Bool := onS (ldOf P t) fun n => ldK n h b o k
def qLoad (t : TypeId) (a : Operand) : QK := fun P tm h k => ev a tm fun v => onPtr v fun b o => loadK P t h b o k
def qNil (x : Operand) : QK := fun _ tm _ k => ev x tm fun v => isPF v (k v)
def qBin (op : BinOp) (t : TypeId) (x y : Operand) : QK := fun P tm _ k => ev x tm fun a => ev y tm fun b => binK op P t a b k
def uNeg (v : V) (k : V → Bool) : Bool := onInt v fun i a => wrapK i (Int.sub 0 a) fun r => k (.int i r)
def uXor (v : V) (k : V → Bool) : Bool := onInt v fun i a => k (.int i (i.wrap (BitVec.ofInt i.bits (if i.signed then -1 else i.max) ^^^ BitVec.ofInt i.bits a).toNat))
def uNot (v : V) (k : V → Bool) : Bool := onBool v fun b => k (.bool (not b))
def unK (op : UnOp) : V → (V → Bool) → Bool := UnOp.rec (motive := fun _ => V → (V → Bool) → Bool) uNeg uXor uNot (fun _ _ => false) op
def qUn (op : UnOp) (x : Operand) : QK := fun _ tm _ k => ev x tm fun v => unK op v k
def bytesK (l : List V) : (List Nat → Bool) → Bool :=
  List.rec (motive := fun _ => (List Nat → Bool) → Bool) (fun k => k []) (fun v _ ih k => onInt v fun i n => onKind i .u8 (ih fun r => k (n.toNat :: r))) l
def cvK (c : CV) : H → V → (V → Bool) → Bool :=
  CV.rec (motive := fun _ => H → V → (V → Bool) → Bool) (fun i _ v k => onInt v fun _ n => wrapK i n fun r => k (.int i r)) (fun _ v k => onStr v fun _ => k v)
    (fun h v k => onSlN v (fun b o n _ _ => rdK h b o n fun l => bytesK l fun r => k (.str r)) (k (.str []))) c
def qConv (s d : TypeId) (x : Operand) : QK := fun P tm h k => onS (cvOf P s d) fun c => ev x tm fun v => cvK c h v k
def fnK (f : Fn) : (FuncId → Bool) → Bool := Fn.rec (motive := fun _ => (FuncId → Bool) → Bool) (fun f k => k f) (fun _ _ => false) (fun _ _ _ => false) (fun _ _ _ _ _ => false) (fun _ _ => false) f
def qFunc (f : Fn) (a c : Array Operand) : QK := fun _ tm _ k => fnK f fun f => evL a.toList tm fun a => evL c.toList tm fun c => k (.func f a c)
/-- a bound of a slice: at most y, else d -/
def bndK (o : Option V) : Nat → Nat → (Nat → Bool) → Bool :=
  Option.rec (motive := fun _ => Nat → Nat → (Nat → Bool) → Bool) (fun d _ k => k d) (fun v _ y k => onInt v fun _ n => onNat n fun i => gd (Nat.ble i y) (k i)) o
abbrev SlK := V → Option V → Option V → (V → Bool) → Bool
def slStr : SlK := fun v lo hi k => onStr v fun s => bndK hi (lenL s) (lenL s) fun h => bndK lo 0 h fun l => k (.str ((s.drop l).take (h - l)))
def slSl (z : Nat) : SlK := fun v lo hi k => onSlN v
  (fun b o n c p => bndK hi n c fun h => bndK lo 0 h fun l => br (Nat.beq l 0) (k (.slice b o h c p)) (br (Nat.beq l c) (gd (Nat.beq (h - l) 0) (br p (k (.esl b o (o + l * z))) (k (.slice b o 0 0 false)))) (gd (Nat.blt l c) (k (.slice b (o + l * z) (h - l) (c - l) p)))))
  (bndK hi 0 0 fun h => bndK lo 0 h fun _ => k .nslice)
def slArr (n z : Nat) : SlK := fun v lo hi k => onPtr v fun b o => bndK hi n n fun h => bndK lo 0 h fun l => k (.slice b (br' (Nat.beq l n) o (o + l * z)) (h - l) (n - l) false)
where br' (c : Bool) (t e : Nat) : Nat := Bool.rec e t c
def slK (s : SK) : SlK := SK.rec (motive := fun _ => SlK) slStr slSl slArr s
def onNone {α : Type} (o : Option α) : Bool → Bool := Option.rec (motive := fun _ => Bool → Bool) (fun b => b) (fun _ _ => false) o
def qSlice (t : TypeId) (x : Operand) (lo hi mx : Option Operand) : QK := fun P tm _ k => onNone mx (onS (skOf P t) fun s => ev x tm fun v => evO lo tm fun l => evO hi tm fun h => slK s v l h k)
def qFa (s : TypeId) (x : Operand) (f : Nat) : QK := fun P tm _ k => onS (faOf P s f) fun d => ev x tm fun v => onPtr v fun b o => k (.ptr b (o + d))
def qFd (s : TypeId) (x : Operand) (f : Nat) : QK := fun P tm _ k => onS (fdOf P s f) fun d => ev x tm fun v => onAgg v fun l => partK d.1 l d.2 k
abbrev IxK := V → Nat → (V → Bool) → Bool
def ixSl (z : Nat) : IxK := fun v i k => onSl v fun b o n _ _ => gd (Nat.blt i n) (k (.ptr b (o + i * z)))
def ixArr (n z : Nat) : IxK := fun v i k => onPtr v fun b o => gd (Nat.blt i n) (k (.ptr b (o + i * z)))
def ixK (s : SK) : IxK := SK.rec (motive := fun _ => IxK) (fun _ _ _ => false) ixSl ixArr s
def qIa (t : TypeId) (x i : Operand) : QK := fun P tm _ k => onS (skOf P t) fun s => ev x tm fun v => ev i tm fun j => onInt j fun _ n => onNat n fun m => ixK s v m k
def nthK (n : Nat) : List Nat → (Nat → Bool) → Bool :=
  Nat.rec (motive := fun _ => List Nat → (Nat → Bool) → Bool) (fun l k => List.rec (motive := fun _ => Bool) false (fun x _ _ => k x) l)
    (fun _ ih l k => List.rec (motive := fun _ => Bool) false (fun _ tl _ => ih tl k) l) n
def qIx (t : TypeId) (x i : Operand) : QK := fun P tm _ k => onS (skOf P t) fun s => ev x tm fun v => ev i tm fun j => onInt j fun _ n => onNat n fun m =>
  SK.rec (motive := fun _ => Bool) (onStr v fun l => nthK m l fun b => k (.int .u8 (Int.ofNat (b % 256)))) (fun _ => false) (fun _ _ => false) s
/-- is it a key of that kind? -/
def keyT (s : SC) : V → Bool := SC.rec (motive := fun _ => V → Bool) (fun v => Nat.beq (tagOf v) 0) (fun v => Nat.beq (tagOf v) 1) (fun v => Nat.beq (tagOf v) 2) (fun _ => false) (fun _ => false) (fun _ => false) (fun _ => false) s
def findK (es : List (V × V × Nat)) : SC → V → Bool → (V → Bool) → Bool :=
  List.rec (motive := fun _ => SC → V → Bool → (V → Bool) → Bool) (fun _ _ no _ => no) (fun e _ ih s v no k => scEq s v e.1 fun b => br b (k e.2.1) (ih s v no k)) es
def okK (ok : Bool) : V → Bool → (V → Bool) → Bool := Bool.rec (motive := fun _ => V → Bool → (V → Bool) → Bool) (fun v _ k => k v) (fun v b k => k (.tup [v, .bool b])) ok
def onMN (v : V) : (I → Bool) → Bool → Bool :=
  V.rec (motive_1 := fun _ => (I → Bool) → Bool → Bool) (motive_2 := fun _ => PUnit)
    (fun _ _ _ => false) (fun _ _ _ _ => false) (fun _ _ _ => false) (fun _ _ _ _ => false) (fun _ _ => false) (fun _ _ _ _ _ _ _ => false) (fun _ _ => false) (fun _ _ _ _ _ => false)
    (fun r f _ => f r) (fun _ g => g) (fun _ _ _ _ _ _ _ => false) (fun _ _ _ => false) (fun _ _ => false) (fun _ _ => false) (fun _ _ _ _ => false) (fun _ _ _ _ => false)
    ⟨⟩ (fun _ _ _ _ => ⟨⟩) v
def qLook (t : TypeId) (x i : Operand) (ok : Bool) : QK := fun P tm h k => onS (mpOf P t) fun m => ev x tm fun v => ev i tm fun j => gd (keyT m.1 j)
  (onMN v (fun r => onMp (h.get r) fun es _ => findK es m.1 j (okK ok m.2 false k) fun w => okK ok w true k) (okK ok m.2 false k))
def qExt (x : Operand) (i : Nat) : QK := fun _ tm _ k => ev x tm fun v => onTup v fun l => dropK i l fun l => headK l k
def fillK (l : List (Nat × V)) : (Nat → Option (Nat × Nat)) → List V → (List V → Bool) → Bool :=
  List.rec (motive := fun _ => (Nat → Option (Nat × Nat)) → List V → (List V → Bool) → Bool) (fun _ c k => k c)
    (fun x _ ih p c k => onS (p x.1) fun s => cellsK x.2 fun vs => gd (Nat.beq (lenL vs) s.2) (setAtK s.1 c vs fun c => ih p c k)) l
def qBuild (t : TypeId) (ps : Array (Nat × Operand)) : QK := fun P tm _ k => onS (bdOf P t) fun d => evP ps.toList tm fun l => fillK l d.2 d.1 fun c => k (.agg c)
def hd0 (l : List TypeId) : (TypeId → Bool) → Bool := List.rec (motive := fun _ => (TypeId → Bool) → Bool) (fun _ => false) (fun t _ _ k => k t) l
def hd1 (l : List V) : (V → Bool) → Bool := List.rec (motive := fun _ => (V → Bool) → Bool) (fun _ => false) (fun v r _ k => List.rec (motive := fun _ => Bool) (k v) (fun _ _ _ => false) r) l
def hd2 (l : List V) : (V → V → Bool) → Bool := List.rec (motive := fun _ => (V → V → Bool) → Bool) (fun _ => false) (fun v r _ k => hd1 r (k v)) l
def lnSl (v : V) : (V → Bool) → Bool :=
  V.rec (motive_1 := fun _ => (V → Bool) → Bool) (motive_2 := fun _ => PUnit)
    (fun _ _ => false) (fun _ _ _ => false) (fun _ _ => false) (fun _ _ _ => false) (fun _ => false) (fun _ _ n _ _ k => k (.int .i64 (Int.ofNat n))) (fun k => k (.int .i64 (Int.ofNat 0))) (fun _ _ _ k => k (.int .i64 (Int.ofNat 0)))
    (fun _ _ => false) (fun _ => false) (fun _ _ _ _ _ _ => false) (fun _ _ => false) (fun _ => false) (fun _ => false) (fun _ _ _ => false) (fun _ _ _ => false)
    ⟨⟩ (fun _ _ _ _ => ⟨⟩) v
def lnK (t : LK) : H → V → (V → Bool) → Bool :=
  LK.rec (motive := fun _ => H → V → (V → Bool) → Bool) (fun _ v k => onStr v fun l => k (.int .i64 (Int.ofNat (lenL l)))) (fun _ v k => lnSl v k)
    (fun h v k => onMN v (fun r => onMp (h.get r) fun es _ => k (.int .i64 (Int.ofNat (lenL es)))) (k (.int .i64 (Int.ofNat 0)))) (fun n _ _ k => k (.int .i64 (Int.ofNat n))) t
def qLen (args : List Operand) (ts : List TypeId) : QK := fun P tm h k => hd0 ts fun t => onS (lkOf P t) fun l => evL args tm fun a => hd1 a fun v => lnK l h v k
def qCap (args : List Operand) (ts : List TypeId) : QK := fun P tm _ k => hd0 ts fun t => onS (slEl P t) fun _ => evL args tm fun a => hd1 a fun v =>
  onSlN v (fun _ _ _ c p => br p false (k (.int .i64 (Int.ofNat c)))) (k (.int .i64 (Int.ofNat 0)))
/-- the least (or greatest) of two -/
def mm2 (mn : Bool) (a b : Int) : Int := Bool.rec (Bool.rec a b (ltI a b)) (Bool.rec a b (ltI b a)) mn
def mmL (mn : Bool) (l : List V) : Int → (Int → Bool) → Bool :=
  List.rec (motive := fun _ => Int → (Int → Bool) → Bool) (fun m k => k m) (fun v _ ih m k => onInt v fun _ b => ih (mm2 mn m b) k) l
def hdR (l : List V) : (V → List V → Bool) → Bool := List.rec (motive := fun _ => (V → List V → Bool) → Bool) (fun _ => false) (fun x r _ f => f x r) l
def mmK (mn : Bool) (args : List Operand) (_ : List TypeId) : QK := fun _ tm _ k => evL args tm fun a => hdR a fun x r => onInt x fun i a => mmL mn r a fun m => k (.int i m)
def bNo (_ : List Operand) (_ : List TypeId) : QK := qNo
def qB (b : Builtin) : List Operand → List TypeId → QK :=
  Builtin.rec (motive := fun _ => List Operand → List TypeId → QK) bNo qCap bNo bNo bNo bNo bNo bNo qLen bNo (mmK false) (mmK true) bNo bNo bNo bNo bNo bNo bNo bNo bNo bNo bNo bNo bNo bNo b
def qCall (c : Call) : QK :=
  Callee.rec (motive := fun _ => List Operand → List TypeId → QK) (fun _ _ _ => qNo) (fun _ _ _ _ => qNo) qB c.callee c.args.toList c.argTypes.toList
def opQ (o : Op) : QK :=
  Op.rec (motive := fun _ => QK) qMove qMove qPick (fun _ => qNo) (fun _ _ => qNo) qBuild (fun _ _ _ => qNo) (fun _ _ _ _ => qNo) qLoad (fun _ _ _ => qNo) (fun _ => qNo) (fun _ => qNo) qNil
    (fun op t x y _ => qBin op t x y) (fun op _ x => qUn op x) qConv (fun _ _ => qNo) (fun _ _ => qNo) qFunc (fun _ _ => qNo) (fun _ _ => qNo) (fun _ _ _ => qNo) qSlice qFa qFd qIa qIx qLook
    (fun _ _ _ _ => qNo) (fun _ _ _ => qNo) (fun _ _ _ _ => qNo) (fun _ _ => qNo) (fun _ _ => qNo) (fun _ => qNo) (fun _ _ _ _ => qNo) qExt qCall (fun _ => qNo) (fun _ => qNo) (fun _ => qNo) (fun _ _ => qNo) (fun _ _ _ => qNo) (fun _ _ => qNo) o

/-! operations that lay one new block -/
abbrev AK := Program → T V → I → (V → B → Bool) → Bool
def aNo : AK := fun _ _ _ _ => false
def aAlloc (t : TypeId) : AK := fun P _ nx k => onS (zeroV P t) fun z => cellsK z fun c => k (.ptr nx 0) (.cells c t 0)
def aBox (t : TypeId) (x : Operand) : AK := fun _ tm nx k => ev x tm fun v => cellsK v fun c => k (.ptr nx 0) (.cells c t 0)
def repL (n : Nat) (l : List V) : List V := Nat.rec (motive := fun _ => List V) [] (fun _ ih => l ++ ih) n
def aBs (t : TypeId) (n : Nat) (ps : Array (Nat × Operand)) : AK := fun P tm nx k => onS (siOf P t) fun s => gd (Nat.ble (n * s.z) 16777216) (evP ps.toList tm fun l =>
  fillK l (fun i => some (i * s.z, s.z)) (repL n s.zero) fun c => k (.slice nx 0 n n false) (.cells c s.e 0))
def aMap (t : TypeId) (r : Option Operand) : AK := fun P tm nx k => onO (r) (k (.map nx) (.map [] 0)) fun x => onS (mpOf P t) fun _ => ev x tm fun v => onInt v fun _ _ => k (.map nx) (.map [] 0)
def aSl (t : TypeId) (l c : Operand) : AK := fun P tm nx k => onS (siOf P t) fun s => ev l tm fun l => onInt l fun _ l => onNat l fun l => ev c tm fun c => onInt c fun _ c => onNat c fun c =>
  gd (Nat.ble l c) (gd (Nat.blt c 1099511627776) (gd (Nat.ble (c * s.by_) 140737488355328) (k (.slice nx 0 l c false) (.cells (repL c s.zero) s.e 0))))
def byteV (b : Nat) : V := .int .u8 (Int.ofNat (b % 256))
def aConv (s d : TypeId) (x : Operand) : AK := fun P tm nx k => onS (sbOf P s d) fun e => ev x tm fun v => onStr v fun l => gd (Nat.blt (lenL l) 1099511627776) (k (.slice nx 0 (lenL l) (lenL l) true) (.cells (l.map byteV) e 1))
where sbOf (P : Program) (s d : TypeId) : Option TypeId := match P.underlying s, P.underlying d with
  | some .string, some (.slice e) => match P.underlying e, szOf P e with
    | some (.int .u8), some 1 => some e
    | _, _ => none
  | _, _ => none
def opA (o : Op) : AK :=
  Op.rec (motive := fun _ => AK) (fun _ => aNo) (fun _ => aNo) (fun _ _ _ => aNo) aAlloc aBox (fun _ _ => aNo) aBs (fun _ _ _ _ => aNo) (fun _ _ => aNo) (fun _ _ _ => aNo) (fun _ => aNo) (fun _ => aNo) (fun _ => aNo)
    (fun _ _ _ _ _ => aNo) (fun _ _ _ => aNo) aConv (fun _ _ => aNo) (fun _ _ => aNo) (fun _ _ _ => aNo) aMap (fun _ _ => aNo) aSl (fun _ _ _ _ _ => aNo) (fun _ _ _ => aNo) (fun _ _ _ => aNo) (fun _ _ _ => aNo) (fun _ _ _ => aNo) (fun _ _ _ _ => aNo)
    (fun _ _ _ _ => aNo) (fun _ _ _ => aNo) (fun _ _ _ _ => aNo) (fun _ _ => aNo) (fun _ _ => aNo) (fun _ => aNo) (fun _ _ _ _ => aNo) (fun _ _ => aNo) (fun _ => aNo) (fun _ => aNo) (fun _ => aNo) (fun _ => aNo) (fun _ _ => aNo) (fun _ _ _ => aNo) (fun _ _ => aNo) o

/-! states of code -/
structure Cx where
  fn : FuncId
  n : Nat
  rd : Option I
inductive X where
  | nrm
  | exit (id : Nat)
  | goto (l : Nat)
  | ret
abbrev KS := X → T V → H → I → List I → Bool
abbrev Run := Cx → Code → T V → H → I → List I → KS → Bool
abbrev KC := V → H → I → Bool
/-- what a function does whose contract is known -/
abbrev HF := List V → H → I → KC → Bool
abbrev Hand := FuncId → Option HF

def wrK (h : H) (b : I) (o : Nat) (vs : List V) (k : H → Bool) : Bool := onCells (h.get b) fun c e z => setAtK o c vs fun c => h.putK b (some (.cells c e z)) k
structure FI where
  n : Nat
  body : Code
  res : List ResultVar
def fiOf (P : Program) (f : FuncId) : Option FI := match P.funcs[f]? with
  | some fn => if fn.name = "runtime.NumGoroutine" then none else match fn.body with
    | some c => some ⟨fn.ntmps, c, fn.results.toList⟩
    | none => none
  | none => none
def argK (l : List V) : I → T V → (T V → Bool) → Bool :=
  List.rec (motive := fun _ => I → T V → (T V → Bool) → Bool) (fun _ t k => k t) (fun v _ ih i t k => t.putK i (some v) fun t => ih i.inc t k) l
def resK (P : Program) (rs : List ResultVar) : T V → H → (List V → Bool) → Bool :=
  List.rec (motive := fun _ => T V → H → (List V → Bool) → Bool) (fun _ _ k => k [])
    (fun r _ ih tm h k => ResultVar.rec (motive := fun _ => Bool) (fun t => evT (I.of t) tm fun v => ih tm h fun l => k (v :: l))
      (fun a t => evT (I.of a) tm fun v => onPtr v fun b o => loadK P t h b o fun v => ih tm h fun l => k (v :: l)) r) rs
def oneK (l : List V) (k : V → Bool) : Bool := List.rec (motive := fun _ => Bool) (k (.tup [])) (fun v r _ => List.rec (motive := fun _ => Bool) (k v) (fun w r _ => k (.tup (v :: w :: r))) r) l
def onDef (o : Option B) : Bool → Bool :=
  Option.rec (motive := fun _ => Bool → Bool) (fun _ => false) (fun b => B.rec (motive := fun _ => Bool → Bool) (fun _ _ _ _ => false) (fun _ _ _ => false) (fun _ _ _ _ _ _ _ _ _ _ => false) (fun b => b) b) o
def takeDf (l : List I) : H → (H → Bool) → Bool :=
  List.rec (motive := fun _ => H → (H → Bool) → Bool) (fun h k => k h) (fun d _ ih h k => onDef (h.get d) (h.putK d none fun h => ih h k)) l
structure LP where
  st : LoopState
  pend : Option Code
  fn : FuncId
  n : Nat
  tm : T V
  ps : List Tmp
  assign : Code
  body : Code
  df : I
def LP.blk (l : LP) : B := .loop l.st l.pend l.fn l.n l.tm l.ps l.assign l.body l.df
def onLp (o : Option B) : (LP → Bool) → Bool :=
  Option.rec (motive := fun _ => (LP → Bool) → Bool) (fun _ => false)
    (fun b => B.rec (motive := fun _ => (LP → Bool) → Bool) (fun _ _ _ _ => false) (fun _ _ _ => false) (fun st pd fn n tm ps a b d f => f ⟨st, pd, fn, n, tm, ps, a, b, d⟩) (fun _ => false) b) o
def lsNo (s : LoopState) : Nat := LoopState.rec (motive := fun _ => Nat) 0 1 2 3 s
def endRd (l : I) (j : Option Code) (st : LoopState) (r : Bool) (h : H) (nx : I) (k : KC) : Bool := onLp (h.get l) fun p => h.putK l (some (LP.blk { p with st := st, pend := j })) fun h => k (.bool r) h nx
def setPs (ps : List Tmp) : Nat → List V → T V → (T V → Bool) → Bool :=
  List.rec (motive := fun _ => Nat → List V → T V → (T V → Bool) → Bool) (fun _ a t k => List.rec (motive := fun _ => Bool) (k t) (fun _ _ _ => false) a)
    (fun p _ ih n a t k => List.rec (motive := fun _ => Bool) false (fun v r _ => gd (Nat.blt p n) (t.putK (I.of p) (some v) fun t => ih n r t k)) a) ps
section
variable (P : Program) (hd : Hand)
def callB (fi : FI) (ih : Run) (f : FuncId) (args : List V) (h : H) (nx : I) (k : KC) : Bool :=
  gd (Nat.ble (lenL args) fi.n) (argK args .z .lf fun tm => ih ⟨f, fi.n, none⟩ fi.body tm h nx [] fun x tm h nx df =>
    X.rec (motive := fun _ => Bool → Bool) (fun b => b) (fun _ _ => false) (fun _ _ => false) (fun b => b) x (takeDf df h fun h => resK P fi.res tm h fun l => oneK l fun v => k v h nx))
def callF (f : FuncId) (ih : Run) (args : List V) (h : H) (nx : I) (k : KC) : Bool :=
  onS (fiOf P f) fun fi => onO (hd f) (callB P fi ih f args h nx k) fun g => g args h nx k
def roundF (l : I) (ih : Run) (args : List V) (h : H) (nx : I) (k : KC) : Bool :=
  onLp (h.get l) fun p => setPs p.ps p.n args p.tm fun tm => ih ⟨p.fn, p.n, some l⟩ p.assign tm h nx [] fun x tm h nx df =>
    X.rec (motive := fun _ => Bool → Bool) (fun b => b) (fun _ _ => false) (fun _ _ => false) (fun _ => false) x
      (onNil df (onLp (h.get l) fun q => gd (Nat.beq (lsNo q.st) 0) (h.putK l (some (LP.blk { q with st := .busy })) fun h =>
        ih ⟨p.fn, p.n, some l⟩ p.body tm h nx [] fun x _ h nx df => onNil df
          (X.rec (motive := fun _ => Bool) (endRd l none .ready true h nx k) (fun i => endRd l (some (.exit i)) .done false h nx k) (fun i => endRd l (some (.goto i)) .done false h nx k) (endRd l (some .ret) .done false h nx k) x))))
where onNil {α : Type} (l : List α) : Bool → Bool := List.rec (motive := fun _ => Bool → Bool) (fun b => b) (fun _ _ _ _ => false) l
def callV (f : V) : Run → List V → H → I → KC → Bool :=
  V.rec (motive_1 := fun _ => Run → List V → H → I → KC → Bool) (motive_2 := fun _ => PUnit)
    (fun _ _ _ _ _ _ => false) (fun _ _ _ _ _ _ _ => false) (fun _ _ _ _ _ _ => false) (fun _ _ _ _ _ _ _ => false) (fun _ _ _ _ _ => false) (fun _ _ _ _ _ _ _ _ _ _ => false) (fun _ _ _ _ _ => false) (fun _ _ _ _ _ _ _ _ => false)
    (fun _ _ _ _ _ _ => false) (fun _ _ _ _ _ => false) (fun g a c _ _ ih l h nx k => callF P hd g ih (a ++ l ++ c) h nx k) (fun l ih a h nx k => roundF l ih a h nx k) (fun _ _ _ _ _ => false) (fun _ _ _ _ _ => false) (fun _ _ _ _ _ _ _ => false) (fun _ _ _ _ _ _ _ => false)
    ⟨⟩ (fun _ _ _ _ => ⟨⟩) f
end
/-! operations with effects -/
abbrev EK := Program → Hand → Run → T V → H → I → KC → Bool
def eNo : EK := fun _ _ _ _ _ _ _ => false
def eStore (t : TypeId) (a x : Operand) : EK := fun P _ _ tm h nx k => onS (szOf P t) fun z => ev a tm fun p => onPtr p fun b o => ev x tm fun v => cellsK v fun c => gd (Nat.beq (lenL c) z) (wrK h b o c fun h => k V.un h nx)
def updK (es : List (V × V × Nat)) : SC → V → V → Bool → (List (V × V × Nat) → Bool) → Bool :=
  List.rec (motive := fun _ => SC → V → V → Bool → (List (V × V × Nat) → Bool) → Bool) (fun _ _ _ no _ => no)
    (fun e r ih s v w no k => scEq s v e.1 fun b => br b (k ((v, w, e.2.2) :: r)) (ih s v w no fun r => k (e :: r))) es
def eMap (t : TypeId) (m key x : Operand) : EK := fun P _ _ tm h nx k => onS (mpOf P t) fun d => ev m tm fun m => onMap m fun r => ev key tm fun v => gd (keyT d.1 v) (ev x tm fun w => onMp (h.get r) fun es ck =>
  updK es d.1 v w (h.putK r (some (.map (es ++ [(v, w, ck)]) (ck + 1))) fun h => k V.un h nx) fun es => h.putK r (some (.map es ck)) fun h => k V.un h nx)
/-- what is appended: its number of elements, and its cells -/
def srcK (v : V) : H → Nat → (Nat → List V → Bool) → Bool :=
  V.rec (motive_1 := fun _ => H → Nat → (Nat → List V → Bool) → Bool) (motive_2 := fun _ => PUnit)
    (fun _ _ _ _ => false) (fun _ _ _ _ _ => false) (fun l _ z k => gd (Nat.beq z 1) (k (lenL l) (l.map byteV))) (fun _ _ _ _ _ => false) (fun _ _ _ => false) (fun b o n _ _ h z k => rdK h b o (n * z) (k n)) (fun _ _ k => k 0 []) (fun _ _ _ _ _ k => k 0 [])
    (fun _ _ _ _ => false) (fun _ _ _ => false) (fun _ _ _ _ _ _ _ _ => false) (fun _ _ _ _ => false) (fun _ _ _ => false) (fun _ _ _ => false) (fun _ _ _ _ _ => false) (fun _ _ _ _ _ => false)
    ⟨⟩ (fun _ _ _ _ => ⟨⟩) v
def growK (s : SI) (h : H) (nx : I) (old new : List V) (need : Nat) (k : KC) : Bool :=
  gd (Nat.blt need 1099511627776) (gd (Nat.ble (2 * need * s.by_) 140737488355328) (h.putK nx (some (.cells (old ++ new) s.e s.z)) fun h => k (.slice nx 0 need need true) h nx.inc))
def allC (l : List V) (b : Bool) : Bool := List.rec (motive := fun _ => Bool) b (fun v _ ih => isC v ih) l
def appK (s : SI) (x : V) (n : Nat) (new : List V) (h : H) (nx : I) (k : KC) : Bool := onSlN x
  (fun b o l c p => br (Nat.ble (l + n) c) (wrK h b (o + l * s.z) new fun h => k (.slice b o (l + n) c p) h nx)
    (br p (onCells (h.get b) fun cs e z => gd (Nat.beq o 0) (gd (Nat.beq (lenL cs) (l * s.z)) (gd (Nat.beq e s.e) (gd (Nat.beq z s.z) (gd (Nat.beq l c)
        (gd (Nat.blt (l + n) 1099511627776) (gd (Nat.ble (2 * (l + n) * s.by_) 140737488355328) (allC new (h.putK b none fun h => h.putK nx (some (.cells (cs ++ new) s.e s.z)) fun h => k (.slice nx 0 (l + n) (l + n) true) h nx.inc)))))))))
      (rdK h b o (l * s.z) fun old => growK s h nx old new (l + n) k)))
  (br (Nat.beq n 0) (k .nslice h nx) (growK s h nx [] new n k))
def hdT2 (l : List TypeId) : (TypeId → TypeId → Bool) → Bool := List.rec (motive := fun _ => (TypeId → TypeId → Bool) → Bool) (fun _ => false) (fun t r _ k => hd0 r (k t)) l
def isIntT (P : Program) (t : TypeId) : Option Bool := (P.underlying t).map fun | .int _ => true | _ => false
def eApp (args : List Operand) (ts : List TypeId) : EK := fun P _ _ tm h nx k => hdT2 ts fun t u => onS (siOf P t) fun s => onS (isIntT P u) fun zs => evL args tm fun a => hd2 a fun x y =>
  br zs (onInt y fun i n => onKind i .i64 (onNat n fun n => gd (Nat.blt n 1099511627776) (gd (Nat.ble (n * s.by_) 140737488355328) (appK s x n (repL n s.zero) h nx k))))
    (srcK y h s.z fun n c => appK s x n c h nx k)
def minN (a b : Nat) : Nat := Bool.rec b a (Nat.ble a b)
def eCopy (args : List Operand) (ts : List TypeId) : EK := fun P _ _ tm h nx k => hd0 ts fun t => onS (siOf P t) fun s => evL args tm fun a => hd2 a fun x y => srcK y h s.z fun m c =>
  onSlN x (fun b o n _ _ => takeK (minN m n * s.z) c fun c => wrK h b o c fun h => k (.int .i64 (Int.ofNat (minN m n))) h nx) (k (.int .i64 (Int.ofNat 0)) h nx)
def eClear (args : List Operand) (ts : List TypeId) : EK := fun P _ _ tm h nx k => hd0 ts fun t => onS (siOf P t) fun s => evL args tm fun a => hd1 a fun x =>
  onSlN x (fun b o n _ _ => wrK h b o (repL n s.zero) fun h => k V.un h nx) (k V.un h nx)
def ebNo (_ : List Operand) (_ : List TypeId) : EK := eNo
def eB (b : Builtin) : List Operand → List TypeId → EK :=
  Builtin.rec (motive := fun _ => List Operand → List TypeId → EK) eApp ebNo eClear ebNo ebNo eCopy ebNo ebNo ebNo ebNo ebNo ebNo ebNo ebNo ebNo ebNo ebNo ebNo ebNo ebNo ebNo ebNo ebNo ebNo ebNo ebNo b
def eVal (f : Operand) (args : List Operand) (_ : List TypeId) : EK := fun P hd ih tm h nx k => ev f tm fun g => evL args tm fun l => callV P hd g ih l h nx k
def eCall (c : Call) : EK :=
  Callee.rec (motive := fun _ => List Operand → List TypeId → EK) eVal (fun _ _ _ _ => eNo) eB c.callee c.args.toList c.argTypes.toList
def opE (o : Op) : EK :=
  Op.rec (motive := fun _ => EK) (fun _ => eNo) (fun _ => eNo) (fun _ _ _ => eNo) (fun _ => eNo) (fun _ _ => eNo) (fun _ _ => eNo) (fun _ _ _ => eNo) eMap (fun _ _ => eNo) eStore (fun _ => eNo) (fun _ => eNo) (fun _ => eNo)
    (fun _ _ _ _ _ => eNo) (fun _ _ _ => eNo) (fun _ _ _ => eNo) (fun _ _ => eNo) (fun _ _ => eNo) (fun _ _ _ => eNo) (fun _ _ => eNo) (fun _ _ => eNo) (fun _ _ _ => eNo) (fun _ _ _ _ _ => eNo) (fun _ _ _ => eNo) (fun _ _ _ => eNo) (fun _ _ _ => eNo) (fun _ _ _ => eNo) (fun _ _ _ _ => eNo)
    eMap (fun _ _ _ => eNo) (fun _ _ _ _ => eNo) (fun _ _ => eNo) (fun _ _ => eNo) (fun _ => eNo) (fun _ _ _ _ => eNo) (fun _ _ => eNo) eCall (fun _ => eNo) (fun _ => eNo) (fun _ => eNo) (fun _ _ => eNo) (fun _ _ _ => eNo) (fun _ _ => eNo) o

/-! regions -/
inductive Cl where
  | q | a | e
def cls (P : Program) : Op → Cl
  | .alloc _ | .box .. | .buildSlice .. | .makeMap .. | .makeSlice .. => .a
  | .convert s d _ => match P.underlying s, P.underlying d with
    | some .string, some (.slice _) => .a
    | _, _ => .q
  | .store .. | .mapUpdate .. | .insert .. | .call { callee := .value _, .. } | .call { callee := .builtin .append, .. } | .call { callee := .builtin .copy, .. } | .call { callee := .builtin .clear, .. } => .e
  | _ => .q
/-- a guard: always, never, or if that temporary is that boolean -/
inductive Gd where
  | yes | no
  | tmp (t : I) (b : Bool)
structure PO where
  op : Op
  dst : Option I
  cl : Cl
  gd : Gd
def gdOf (ops : Array Oper) (o : Oper) : Gd := match o.guard with
  | none => .yes
  | some (j, w) => match (ops[j]?).bind (·.dst) with
    | some t => .tmp (I.of t) w
    | none => .no
def poOf (P : Program) (ops : Array Oper) (o : Oper) : PO := ⟨o.op, o.dst.map I.of, cls P o.op, gdOf ops o⟩
def poL (P : Program) (ops : Array Oper) : List PO := ops.toList.map (poOf P ops)
def dstOk (n : Nat) (ops : Array Oper) : Bool := ops.toList.all fun o => match o.dst with | some d => decide (d < n) | none => true
def eqBv (b : Bool) (v : V) : Bool := onBool v fun c => Bool.rec (not c) c b
def wantB (g : Gd) : T V → Bool := Gd.rec (motive := fun _ => T V → Bool) (fun _ => true) (fun _ => false) (fun t b tm => evT t tm (eqBv b)) g
def putD (d : Option I) : T V → V → (T V → Bool) → Bool := Option.rec (motive := fun _ => T V → V → (T V → Bool) → Bool) (fun tm _ k => k tm) (fun d tm v k => tm.putK d (some v) k) d
abbrev KT := T V → H → I → Bool
abbrev SQ := Program → Hand → Run → T V → H → I → KT → Bool
def sQ (p : PO) (rec : SQ) : SQ := fun P hd ih tm h nx k => opQ p.op P tm h fun v => putD p.dst tm v fun tm => rec P hd ih tm h nx k
def sA (p : PO) (rec : SQ) : SQ := fun P hd ih tm h nx k => opA p.op P tm nx fun v b => putD p.dst tm v fun tm => h.putK nx (some b) fun h => rec P hd ih tm h nx.inc k
def sE (p : PO) (rec : SQ) : SQ := fun P hd ih tm h nx k => opE p.op P hd ih tm h nx fun v h nx => putD p.dst tm v fun tm => rec P hd ih tm h nx k
def sDo (c : Cl) : PO → SQ → SQ := Cl.rec (motive := fun _ => PO → SQ → SQ) sQ sA sE c
def sOne (p : PO) (rec : SQ) : SQ := fun P hd ih tm h nx k => br (wantB p.gd tm) (sDo p.cl p rec P hd ih tm h nx k) (putD p.dst tm V.un fun tm => rec P hd ih tm h nx k)
def seqO (l : List PO) : SQ := List.rec (motive := fun _ => SQ) (fun _ _ _ tm h nx k => k tm h nx) (fun p _ rec => sOne p rec) l

/-! regions that draw their order -/
structure Al where
  i : Nat
  b : I
  x : B
structure Stg where
  g : H
  al : List Al
/-- an operation of a plan: its number, what must come before, how many effects must -/
structure PI where
  i : Nat
  po : PO
  m : Nat
  lo : Nat
def addM (l : List Al) : Nat → H → (H → Bool) → Bool :=
  List.rec (motive := fun _ => Nat → H → (H → Bool) → Bool) (fun _ h k => k h) (fun a _ ih m h k => br (m.testBit a.i) (h.putK a.b (some a.x) fun h => ih m h k) (ih m h k)) l
def addA (l : List Al) : H → (H → Bool) → Bool :=
  List.rec (motive := fun _ => H → (H → Bool) → Bool) (fun h k => k h) (fun a _ ih h k => h.putK a.b (some a.x) fun h => ih h k) l
def I.same (a : I) : I → Bool :=
  I.rec (motive := fun _ => I → Bool) (fun b => I.rec (motive := fun _ => Bool) true (fun _ _ => false) (fun _ _ => false) b)
    (fun _ ih b => I.rec (motive := fun _ => Bool) false (fun q _ => ih q) (fun _ _ => false) b) (fun _ ih b => I.rec (motive := fun _ => Bool) false (fun _ _ => false) (fun q _ => ih q) b) a
mutual
def V.same : V → V → Bool
  | .bool a, .bool b => a == b
  | .int k a, .int l b => gd (Nat.beq (kNo k) (kNo l)) (eqI a b)
  | .str a, .str b => decide (a = b)
  | .ptr a o, .ptr b p => gd (I.same a b) (Nat.beq o p)
  | .nptr, .nptr => true
  | .slice a o l c p, .slice b q m d r => gd (I.same a b) (gd (Nat.beq o q) (gd (Nat.beq l m) (gd (Nat.beq c d) (p == r))))
  | .nslice, .nslice => true
  | .esl a o q, .esl b p r => gd (I.same a b) (gd (Nat.beq o p) (Nat.beq q r))
  | .map a, .map b => I.same a b
  | .nmap, .nmap => true
  | .func f a c, .func g b d => gd (Nat.beq f g) (gd (V.sameL a b) (V.sameL c d))
  | .yld a, .yld b => I.same a b
  | .nfunc, .nfunc => true
  | .nif, .nif => true
  | .agg a, .agg b => V.sameL a b
  | .tup a, .tup b => V.sameL a b
  | _, _ => false
def V.sameL : List V → List V → Bool
  | [], [] => true
  | a :: x, b :: y => gd (V.same a b) (V.sameL x y)
  | _, _ => false
end
/-- the same answer at n earlier stages -/
def sameK (n : Nat) : Op → Nat → V → Program → T V → List Al → List Stg → Bool :=
  Nat.rec (motive := fun _ => Op → Nat → V → Program → T V → List Al → List Stg → Bool) (fun _ _ _ _ _ _ _ => true)
    (fun _ ih op m v P tm acc st => List.rec (motive := fun _ => Bool) false (fun g r _ => addM (g.al ++ acc) m g.g fun h => opQ op P tm h fun w => gd (V.same v w) (ih op m v P tm (g.al ++ acc) r)) st) n
def effs (P : Program) (ops : Array Oper) : List Nat := (List.range ops.size).filter fun i => match ops[i]? with | some o => (match cls P o.op with | .e => true | _ => false) | none => false
def maskOf (o : Oper) (ms : List Nat) : Nat := o.after.toList.foldl (fun s e => if Region.binds .any e then s ||| 2 ^ e.on ||| ms.getD e.on 0 else s) 0
/-- what must come before each operation -/
def masks : List Oper → List Nat → List Nat
  | [], ms => ms
  | o :: r, ms => masks r (ms ++ [maskOf o ms])
def chained (ms : List Nat) : List Nat → Bool
  | a :: b :: r => (ms.getD b 0).testBit a && chained ms (b :: r)
  | _ => true
def refO (n : Nat) (ms : List Nat) : List Nat → List Nat → List Nat
  | [], acc => acc ++ (List.range n).filter fun i => !acc.contains i
  | e :: r, acc => refO n ms r (acc ++ ((List.range n).filter fun i => !acc.contains i && (ms.getD e 0).testBit i) ++ [e])
def loOf (ms es : List Nat) (i : Nat) : Nat := (es.filter fun e => (ms.getD i 0).testBit e).length
def piOf (P : Program) (ops : Array Oper) (ms es : List Nat) (i : Nat) : PI := match ops[i]? with
  | some o => ⟨i, poOf P ops o, ms.getD i 0, loOf ms es i⟩
  | none => ⟨i, ⟨.alloc 0, none, .q, .yes⟩, 0, 0⟩
/-- the temporaries that an operation names -/
def namesT (ops : Array Oper) (o : Oper) : List Tmp :=
  o.dst.toList ++ (o.op.operands.toList.filterMap fun | .tmp t => some t | _ => none) ++ (match o.guard with | some (j, _) => ((ops[j]?).bind (·.dst)).toList | none => [])
def tempsOk (ops : Array Oper) (ms : List Nat) : Bool := ops.toList.zipIdx.all fun (oj, j) => match oj.dst with
  | none => true
  | some t => ops.toList.zipIdx.all fun (oi, i) => i == j || !(namesT ops oi).contains t || (ms.getD (max i j) 0).testBit (min i j)
def edgesOk (ops : Array Oper) : Bool := ops.toList.zipIdx.all fun (o, i) => o.after.toList.all fun e => !Region.binds .any e || decide (e.on < i)
def planOk (P : Program) (ops : Array Oper) (ms es : List Nat) : List Nat → Nat → Nat → Bool
  | [], done, k => decide (k = es.length) && (List.range ops.size).all fun i => done.testBit i
  | i :: r, done, k => match ops[i]? with
    | some o => !done.testBit i && (ms.getD i 0 &&& done) == ms.getD i 0 && (match cls P o.op with
      | .e => es[k]? == some i && planOk P ops ms es r (done ||| 2 ^ i) (k + 1)
      | _ => (decide (k = es.length) || (match es[k]? with | some e => (ms.getD e 0).testBit i | none => false)) && decide (loOf ms es i ≤ k) &&
          (decide (loOf ms es i = 0) || (match es[loOf ms es i - 1]? with | some e => (ms.getD i 0).testBit e | none => false)) && planOk P ops ms es r (done ||| 2 ^ i) k)
    | none => false
def msOf (ops : Array Oper) : List Nat := masks ops.toList []
def planL (P : Program) (ops : Array Oper) : List Nat := refO ops.size (msOf ops) (effs P ops) []
def plan (P : Program) (ops : Array Oper) : List PI := (planL P ops).map (piOf P ops (msOf ops) (effs P ops))
def drawOk (P : Program) (ops : Array Oper) : Bool :=
  P.follows .mixedOrders && chained (msOf ops) (effs P ops) && tempsOk ops (msOf ops) && edgesOk ops && planOk P ops (msOf ops) (effs P ops) (planL P ops) 0 0
abbrev DK := T V → I → Stg → List Stg → Bool
abbrev DQ := Program → Hand → Run → T V → I → Stg → List Stg → DK → Bool
def dQ (p : PI) (rec : DQ) : DQ := fun P hd ih tm nx cur old k => addM cur.al p.m cur.g fun h => opQ p.po.op P tm h fun v => gd (sameK (lenL old - p.lo) p.po.op p.m v P tm cur.al old) (putD p.po.dst tm v fun tm => rec P hd ih tm nx cur old k)
def dA (p : PI) (rec : DQ) : DQ := fun P hd ih tm nx cur old k => opA p.po.op P tm nx fun v b => putD p.po.dst tm v fun tm => rec P hd ih tm nx.inc ⟨cur.g, ⟨p.i, nx, b⟩ :: cur.al⟩ old k
def dE (p : PI) (rec : DQ) : DQ := fun P hd ih tm nx cur old k => addA cur.al cur.g fun h => opE p.po.op P hd ih tm h nx fun v h nx => putD p.po.dst tm v fun tm => rec P hd ih tm nx ⟨h, []⟩ (cur :: old) k
def dDo (c : Cl) : PI → DQ → DQ := Cl.rec (motive := fun _ => PI → DQ → DQ) dQ dA dE c
/-- not wanted -/
def dU (p : PI) (rec : DQ) : DQ := fun P hd ih tm nx cur old k => putD p.po.dst tm V.un fun tm => rec P hd ih tm nx cur old k
def dUE (p : PI) (rec : DQ) : DQ := fun P hd ih tm nx cur old k => putD p.po.dst tm V.un fun tm => addA cur.al cur.g fun h => rec P hd ih tm nx ⟨h, []⟩ (cur :: old) k
def dNo (c : Cl) : PI → DQ → DQ := Cl.rec (motive := fun _ => PI → DQ → DQ) dU dU dUE c
def dOne (p : PI) (rec : DQ) : DQ := fun P hd ih tm nx cur old k => br (wantB p.po.gd tm) (dDo p.po.cl p rec P hd ih tm nx cur old k) (dNo p.po.cl p rec P hd ih tm nx cur old k)
def dSeq (l : List PI) : DQ := List.rec (motive := fun _ => DQ) (fun _ _ _ tm nx cur old k => k tm nx cur old) (fun p _ rec => dOne p rec) l
def drawR (P : Program) (hd : Hand) (ih : Run) (ops : Array Oper) (tm : T V) (h : H) (nx : I) (k : KT) : Bool :=
  gd (drawOk P ops) (dSeq (plan P ops) P hd ih tm nx ⟨h, []⟩ [] fun tm nx cur _ => addA cur.al cur.g fun h => k tm h nx)

/-! code -/
abbrev CK := Program → Hand → Run → Cx → T V → H → I → List I → KS → Bool
def cSkip : CK := fun _ _ _ _ tm h nx df k => k .nrm tm h nx df
def cReg (ops : Array Oper) (draw : Bool) : CK := fun P hd ih cx tm h nx df k => gd (dstOk cx.n ops)
  (br draw (drawR P hd ih ops tm h nx fun tm h nx => k .nrm tm h nx df) (seqO (poL P ops) P hd ih tm h nx fun tm h nx => k .nrm tm h nx df))
def cSeq (a b : Code) : CK := fun _ _ ih cx tm h nx df k => ih cx a tm h nx df fun x tm h nx df =>
  X.rec (motive := fun _ => Bool) (ih cx b tm h nx df k) (fun i => k (.exit i) tm h nx df) (fun i => k (.goto i) tm h nx df) (k .ret tm h nx df) x
def cCond (c : Operand) (a b : Code) : CK := fun _ _ ih cx tm h nx df k => ev c tm fun v => onBool v fun t => br t (ih cx a tm h nx df k) (ih cx b tm h nx df k)
def cBlock (id : Nat) (b : Code) : CK := fun _ _ ih cx tm h nx df k => ih cx b tm h nx df fun x tm h nx df =>
  X.rec (motive := fun _ => Bool) (k .nrm tm h nx df) (fun i => br (Nat.beq i id) (k .nrm tm h nx df) (k (.exit i) tm h nx df)) (fun i => k (.goto i) tm h nx df) (k .ret tm h nx df) x
def cLoop (b : Code) : CK := fun _ _ ih cx tm h nx df k => ih cx b tm h nx df fun x tm h nx df =>
  X.rec (motive := fun _ => Bool) (ih cx (.loop b) tm h nx df k) (fun i => k (.exit i) tm h nx df) (fun i => k (.goto i) tm h nx df) (k .ret tm h nx df) x
/-- the jump that a round has left -/
def jumpK (j : Option Code) : KS → T V → H → I → List I → Bool :=
  Option.rec (motive := fun _ => KS → T V → H → I → List I → Bool) (fun k => k .nrm) (fun c => Code.rec (motive := fun _ => KS → T V → H → I → List I → Bool)
    (fun _ _ _ _ _ => false) (fun _ _ _ _ _ _ _ _ => false) (fun _ _ _ _ _ _ _ _ _ => false) (fun _ _ _ _ _ _ _ _ _ _ => false) (fun _ _ _ _ _ _ _ _ => false) (fun _ _ _ _ _ _ _ => false) (fun _ _ _ _ _ _ _ _ _ _ _ => false)
    (fun i k => k (.exit i)) (fun _ _ _ _ _ _ _ => false) (fun _ _ _ _ _ _ => false) (fun i k => k (.goto i)) (fun k => k .ret) (fun _ _ _ _ _ _ => false) c) j
def cScope (b : Code) : CK := fun _ _ ih cx tm h nx df k => ih cx b tm h nx df fun x tm h nx df =>
  X.rec (motive := fun _ => Bool) (k .nrm tm h nx df) (fun i => k (.exit i) tm h nx df)
    (fun l => onO (findLabel b l) (k (.goto l) tm h nx df) fun rest => ih cx rest tm h nx df fun x tm h nx df =>
      X.rec (motive := fun _ => Bool) (k .nrm tm h nx df) (fun i => k (.exit i) tm h nx df) (fun _ => false) (k .ret tm h nx df) x) (k .ret tm h nx df) x
end Go.Sx
