/- Steps towards MorseChecks. Conditions: none. -/
import Derived.Test.YtlhicnfeajejhaaGreatDoorFQw
set_option maxRecDepth 1000000
set_option maxHeartbeats 16000000
namespace Go.Proofs.YtlhicnfeajejhaaGreatDoor
open Go.RowKit Go.Cx
structure KP where
 p:Value->World->Prop
 q8:∀ v w w',p v w->Below w.heap.size w w'->p v w'
def KP.any:KP:=⟨fun _ _=>True,fun _ _ _ _ _=>trivial⟩
def KP.val (x:Value):KP:=⟨fun v _=>v=x,fun _ _ _ h _=>h⟩
def KP.mok (k:Mok):KP:=⟨k.holds,fun _ _ _ h hb=>Mok.q8 h hb⟩
def KP.fk (k:Fk):KP:=⟨k.holds,fun _ _ _ h hb=>Fk.q8 h hb⟩
section
variable {P:Program} {Q:Exit->Act->World->Prop} {o:Oper} {a:Act} {w:World} {k:KP}
def Stk (P:Program) (Q:Exit->Act->World->Prop) (k:KP) (o:Oper) (a:Act) (w:World):Prop:=Oper.wp P o a w (fun a' w''=>∃ v,a'=a.put o.dst v/\k.p v w''/\Below w.heap.size w w'') Q
theorem yi (x:Operand) (aU:o.op = .move x\/o.op = .assign x) (h:k.p (a.eval x) w):Stk P Q k o a w:=q1b x aU ⟨_,rfl,h,Below.refl _ _⟩
theorem q84 (c x y:Operand) (aU:o.op = .pick c x y) (hc:a.eval c = .bool true) (h:k.p (a.eval x) w):Stk P Q k o a w:=qka c x y aU hc ⟨_,rfl,h,Below.refl _ _⟩
theorem qju (c x y:Operand) (aU:o.op = .pick c x y) (hc:a.eval c = .bool false) (h:k.p (a.eval y) w):Stk P Q k o a w:=by
 unfold Stk Oper.wp;simp[execOp,aU,hc,asBool];exact⟨_,rfl,h,Below.refl _ _⟩
theorem kr (f:Nat) (xs:Array Operand) (ts:Array TypeId) (aU:o.op = .call { callee:=.value (.func f),args:=xs,argTypes:=ts }) (ef:∀ args w,(callFunc f args).run P w = .ok (.enter f args) w)
  (vs:Array Value) (hv:xs.map a.eval=vs) (h:Calls P f vs w fun e w'=>∃ r,e = .returned r/\k.p r w'/\Below w.heap.size w w'):Stk P Q k o a w :=
 qdj f xs ts aU ef vs hv (h.mono fun _ _ ⟨r,he,hk,hb⟩=>⟨r,he,r,rfl,hk,hb⟩)
theorem q3o (t:Nat) (x:Operand) (aU:o.op = .load t x) (v1:Value) (h1:a.eval x=v1) (v:Value) (ck:(Instr.loadAt t v1).run P w = .ok v w) (h:k.p v w):Stk P Q k o a w:=q8o t x aU v1 h1 v ck ⟨_,rfl,h,Below.refl _ _⟩
end
section
variable (v u:Value) (K:List Cl) (m:List (Int×Int)) (w:World) (h:(Mok.cx K).holds v w) (hK:KOk K) (hl:K.length<=180) (G:Cx.Good K) (k:(Mok.prs m).holds u w) (hp:∀ p∈m,I64 p.1/\I64 p.2)
include h hK hl G k hp
end
theorem qqy (x:Int) (hx:I64 x) (w:World):Calls Tryz.prog 52 #[.int .i64 x] w (qaj (.cf (qw x 1) 1 1) w):=by
 refine(qpa x w).mono ?_;rintro e w' ⟨r,he,hs,hb⟩;refine⟨r,he,⟨[(x,1)],by unfold Cn;simp,fun c=>?_,nlr _,?_,hs⟩,hb⟩
 ·show (if x=c then (1:Int) else 0)+0=if c=x then 1 else 0
  by_cases e:x=c
  ·rw[if_pos e,if_pos e.symm];rfl
  ·rw[if_neg e,if_neg fun e2=>e e2.symm];rfl
 ·have:LOk 1 [(x,(1:Int))]:=fun p hp=>by
   rw[List.mem_singleton] at hp;subst hp;exact⟨hx,q31 _ _ (by show (1:Int).natAbs < 256 ^ 1;decide)⟩
  exact this.tok
end Go.Proofs.YtlhicnfeajejhaaGreatDoor
