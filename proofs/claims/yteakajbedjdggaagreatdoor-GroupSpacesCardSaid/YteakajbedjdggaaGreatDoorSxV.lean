import Derived.Test.YteakajbedjdggaaGreatDoorSxU
/-
  Blocks' patterns; a heap laid out of a list.
-/
noncomputable section
namespace Go.Sx
open Go Go.RowKit

def RVr (s : T I) (x v : V) : Prop := RV s x v
mutual
theorem renK_ok {s : T I} : ∀ (x : V) {k : V → Bool}, renK s x k = true → ∃ v, RV s x v ∧ k v = true
  | .bool a, k, h => ⟨_, fun e e' g => by simp [den], h⟩
  | .int i n, k, h => ⟨_, fun e e' g => by simp [den], h⟩
  | .str l, k, h => ⟨_, fun e e' g => by simp [den], h⟩
  | .ptr p o, k, h => by
    obtain ⟨q, hq, h⟩ := onS_ok (show onS (s.get p) (fun q => k (.ptr q o)) = true from h)
    exact ⟨_, fun e e' g => by simp [den, g p q hq], h⟩
  | .nptr, k, h => ⟨_, fun e e' g => by simp [den], h⟩
  | .slice p o n c b, k, h => by
    obtain ⟨q, hq, h⟩ := onS_ok (show onS (s.get p) (fun q => k (.slice q o n c b)) = true from h)
    exact ⟨_, fun e e' g => by simp [den, g p q hq], h⟩
  | .nslice, k, h => ⟨_, fun e e' g => by simp [den], h⟩
  | .esl _ _ _, _, h => absurd h Bool.false_ne_true
  | .map p, k, h => by
    obtain ⟨q, hq, h⟩ := onS_ok (show onS (s.get p) (fun q => k (.map q)) = true from h)
    exact ⟨_, fun e e' g => by simp [den, g p q hq], h⟩
  | .nmap, k, h => ⟨_, fun e e' g => by simp [den], h⟩
  | .func f a c, k, h => by
    obtain ⟨a', ha, h⟩ := renLr_ok a (show renL s a (fun a => renL s c fun c => k (.func f a c)) = true from h)
    obtain ⟨c', hc, h⟩ := renLr_ok c h
    exact ⟨_, fun e e' g => by simp [den, ha e e' g, hc e e' g], h⟩
  | .yld _, _, h => absurd h Bool.false_ne_true
  | .nfunc, k, h => ⟨_, fun e e' g => by simp [den], h⟩
  | .nif, k, h => ⟨_, fun e e' g => by simp [den], h⟩
  | .agg l, k, h => by
    obtain ⟨a', ha, h⟩ := renLr_ok l (show renL s l (fun a => k (.agg a)) = true from h)
    exact ⟨_, fun e e' g => by simp [den, ha e e' g], h⟩
  | .tup l, k, h => by
    obtain ⟨a', ha, h⟩ := renLr_ok l (show renL s l (fun a => k (.tup a)) = true from h)
    exact ⟨_, fun e e' g => by simp [den, ha e e' g], h⟩
theorem renLr_ok {s : T I} : ∀ (x : List V) {k : List V → Bool}, renL s x k = true → ∃ v, RL s x v ∧ k v = true
  | [], k, h => ⟨_, fun e e' g => by simp [denL], h⟩
  | x :: xs, k, h => by
    obtain ⟨v, hv, h⟩ := renK_ok x (show renK s x (fun v => renL s xs fun l => k (v :: l)) = true from h)
    obtain ⟨l, hl, h⟩ := renLr_ok xs h
    exact ⟨_, fun e e' g => by simp [denL, hv e e' g, hl e e' g], h⟩
end
/-! blocks -/
abbrev E := V × V × Nat
def k1 (x : E) : V := Prod.rec (motive := fun _ => V) (fun a _ => a) x
def k2 (x : E) : V := Prod.rec (motive := fun _ => V) (fun _ y => Prod.rec (motive := fun _ => V) (fun b _ => b) y) x
def k3 (x : E) : Nat := Prod.rec (motive := fun _ => Nat) (fun _ y => Prod.rec (motive := fun _ => Nat) (fun _ c => c) y) x
def mE (M : T Bool) (x : List E) : List E → T I → (T I → Bool) → Bool :=
  List.rec (motive := fun _ => List E → T I → (T I → Bool) → Bool) (fun l s k => List.rec (motive := fun _ => Bool) (k s) (fun _ _ _ => false) l)
    (fun x _ il l s k => List.rec (motive := fun _ => Bool) false (fun v r _ => gd (Nat.beq (k3 x) (k3 v)) (mV M (k1 x) (k1 v) s fun s => mV M (k2 x) (k2 v) s fun s => il r s k)) l) x
def mO (M : T Bool) (x : B) : Option B → T I → (T I → Bool) → Bool :=
  B.rec (motive := fun _ => Option B → T I → (T I → Bool) → Bool) (fun c t z o s k => onCells o fun c' t' z' => gd (Nat.beq t t') (gd (Nat.beq z z') (mLr M c c' s k)))
    (fun es ck o s k => onMp o fun es' ck' => gd (Nat.beq ck ck') (mE M es es' s k)) (fun _ _ _ _ _ _ _ _ _ _ _ _ => false) (fun _ _ _ => false) x
def renE (s : T I) (x : List E) : (List E → Bool) → Bool :=
  List.rec (motive := fun _ => (List E → Bool) → Bool) (fun k => k []) (fun x _ il k => renK s (k1 x) fun a => renK s (k2 x) fun b => il fun l => k ((a, b, k3 x) :: l)) x
def renB (s : T I) (x : B) : (B → Bool) → Bool :=
  B.rec (motive := fun _ => (B → Bool) → Bool) (fun c t z k => renL s c fun c => k (.cells c t z)) (fun es ck k => renE s es fun es => k (.map es ck)) (fun _ _ _ _ _ _ _ _ _ _ => false) (fun _ => false) x
def RE (s : T I) : List E → List E → Prop
  | [], [] => True
  | x :: l, y :: m => RV s x.1 y.1 ∧ RV s x.2.1 y.2.1 ∧ x.2.2 = y.2.2 ∧ RE s l m
  | _, _ => False
def RB (s : T I) : B → B → Prop
  | .cells c t z, .cells c' t' z' => t = t' ∧ z = z' ∧ RL s c c'
  | .map es ck, .map es' ck' => ck = ck' ∧ RE s es es'
  | _, _ => False
theorem RE.ext {M : T Bool} {s s' : T I} (h : Ext M s s') : ∀ {l m : List E}, RE s l m → RE s' l m
  | [], [], _ => trivial
  | _ :: _, _ :: _, ⟨a, b, c, d⟩ => ⟨a.ext h, b.ext h, c, RE.ext h d⟩
  | [], _ :: _, h => h.elim
  | _ :: _, [], h => h.elim
theorem RB.ext {M : T Bool} {s s' : T I} (h : Ext M s s') {x y : B} (r : RB s x y) : RB s' x y := by
  cases x <;> cases y <;> first | exact r.elim | exact ⟨r.1, r.2.1, r.2.2.ext h⟩ | exact ⟨r.1, r.2.ext h⟩
theorem RE.le {s s' : T I} (h : ∀ p q, s.get p = some q → s'.get p = some q) : ∀ {l m : List E}, RE s l m → RE s' l m
  | [], [], _ => trivial
  | _ :: _, _ :: _, ⟨a, b, c, d⟩ => ⟨a.le h, b.le h, c, RE.le h d⟩
  | [], _ :: _, h => h.elim
  | _ :: _, [], h => h.elim
theorem RB.le {s s' : T I} (h : ∀ p q, s.get p = some q → s'.get p = some q) {x y : B} (r : RB s x y) : RB s' x y := by
  cases x <;> cases y <;> first | exact r.elim | exact ⟨r.1, r.2.1, r.2.2.le h⟩ | exact ⟨r.1, r.2.le h⟩
theorem mE_ok {M : T Bool} : ∀ (x : List E) {v : List E} {s : T I} {k : T I → Bool}, mE M x v s k = true → ∃ s', Ext M s s' ∧ RE s' x v ∧ k s' = true
  | [], [], s, k, h => ⟨s, Ext.refl _ _, trivial, h⟩
  | [], _ :: _, _, _, h => absurd h Bool.false_ne_true
  | _ :: _, [], _, _, h => absurd h Bool.false_ne_true
  | (a, b, c) :: xs, (a', b', c') :: vs, s, k, h => by
    obtain ⟨h0, h⟩ := gd_ok (show gd (Nat.beq c c') (mV M a a' s fun s => mV M b b' s fun s => mE M xs vs s k) = true from h)
    obtain ⟨s1, e1, r1, h⟩ := mV_ok _ h
    obtain ⟨s2, e2, r2, h⟩ := mV_ok _ h
    obtain ⟨s3, e3, r3, h⟩ := mE_ok xs h
    exact ⟨s3, (e1.trans e2).trans e3, ⟨(r1.ext e2).ext e3, r2.ext e3, Nat.eq_of_beq_eq_true h0, r3⟩, h⟩
theorem mO_ok {M : T Bool} {x : B} {o : Option B} {s : T I} {k : T I → Bool} (h : mO M x o s k = true) : ∃ y s', o = some y ∧ Ext M s s' ∧ RB s' x y ∧ k s' = true := by
  cases x with
  | cells c t z =>
    obtain ⟨c', t', z', ho, h⟩ := onCells_ok (show onCells o (fun c' t' z' => gd (Nat.beq t t') (gd (Nat.beq z z') (mLr M c c' s k))) = true from h)
    obtain ⟨h1, h⟩ := gd_ok h
    obtain ⟨h2, h⟩ := gd_ok h
    obtain ⟨s1, e1, r1, h⟩ := mLr_ok c h
    exact ⟨_, s1, ho, e1, ⟨Nat.eq_of_beq_eq_true h1, Nat.eq_of_beq_eq_true h2, r1⟩, h⟩
  | map es ck =>
    obtain ⟨es', ck', ho, h⟩ := onMp_ok (show onMp o (fun es' ck' => gd (Nat.beq ck ck') (mE M es es' s k)) = true from h)
    obtain ⟨h1, h⟩ := gd_ok h
    obtain ⟨s1, e1, r1, h⟩ := mE_ok es h
    exact ⟨_, s1, ho, e1, ⟨Nat.eq_of_beq_eq_true h1, r1⟩, h⟩
  | loop => exact absurd h Bool.false_ne_true
  | defd => exact absurd h Bool.false_ne_true
theorem renE_ok {s : T I} : ∀ (x : List E) {k : List E → Bool}, renE s x k = true → ∃ v, RE s x v ∧ k v = true
  | [], k, h => ⟨[], trivial, h⟩
  | (a, b, c) :: xs, k, h => by
    obtain ⟨a', ha, h⟩ := renK_ok a (show renK s a (fun a => renK s b fun b => renE s xs fun l => k ((a, b, c) :: l)) = true from h)
    obtain ⟨b', hb, h⟩ := renK_ok b h
    obtain ⟨l, hl, h⟩ := renE_ok xs h
    exact ⟨(a', b', c) :: l, ⟨ha, hb, rfl, hl⟩, h⟩
theorem renB_ok {s : T I} {x : B} {k : B → Bool} (h : renB s x k = true) : ∃ v, RB s x v ∧ k v = true := by
  cases x with
  | cells c t z =>
    obtain ⟨c', hc, h⟩ := renLr_ok c (show renL s c (fun c => k (.cells c t z)) = true from h)
    exact ⟨.cells c' t z, ⟨rfl, rfl, hc⟩, h⟩
  | map es ck =>
    obtain ⟨c', hc, h⟩ := renE_ok es (show renE s es (fun es => k (.map es ck)) = true from h)
    exact ⟨.map c' ck, ⟨rfl, hc⟩, h⟩
  | loop => exact absurd h Bool.false_ne_true
  | defd => exact absurd h Bool.false_ne_true
theorem RE.den {s : T I} {e e' : Env} (g : Gl s e e') : ∀ {l m : List E} {os : List MapEntry}, RE s l m → (ER e' l os ↔ ER e m os)
  | [], [], [], _ => Iff.rfl
  | [], [], _ :: _, _ => Iff.rfl
  | _ :: _, _ :: _, [], _ => Iff.rfl
  | x :: l, y :: m, o :: os, ⟨a, b, c, d⟩ => by
    simp only [ER, a e e' g, b e e' g, c, RE.den g d]
  | [], _ :: _, _, h => h.elim
  | _ :: _, [], _, h => h.elim
theorem RB.den {s : T I} {e e' : Env} (g : Gl s e e') {x y : B} (r : RB s x y) {w : World} {q : Loc} : BR e' w q x ↔ BR e w q y := by
  cases x <;> cases y <;> first
    | exact r.elim
    | (obtain ⟨rfl, rfl, h⟩ := r; simp only [BR, h e e' g])
    | (obtain ⟨rfl, h⟩ := r; simp only [BR, RE.den g h])
end Go.Sx
