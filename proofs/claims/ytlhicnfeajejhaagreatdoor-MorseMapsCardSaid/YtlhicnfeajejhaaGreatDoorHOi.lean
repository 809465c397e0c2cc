/- Steps towards MorseMaps. Conditions: none. -/
import Derived.Test.YtlhicnfeajejhaaGreatDoorHOh
set_option maxRecDepth 1000000
set_option maxHeartbeats 16000000
namespace Go.Cx
open Go.RowKit
variable {P:Program} {Q:Exit->Act->World->Prop} {o:Oper} {a:Act} {w:World} {K:Act->World->Prop}
theorem qsw (x:Operand) (f:Nat) (cb:Array Value) (xs:Array Operand) (ts:Array TypeId) (bN:o.op = .call { callee:=.value x,args:=xs,argTypes:=ts }) (ef:∀ args w,(callFunc f args).run P w = .ok (.enter f args) w)
  (hx:a.eval x = .func (.func f) #[] cb) (vs:Array Value) (hv:xs.map a.eval=vs) (h:Calls P f (vs++cb) w fun e w'=>∃ v,e = .returned v/\K (a.put o.dst v) w'):Oper.wp P o a w K Q:=by
 subst hv;have key:(execOp a.eval o).run P w = .ok (.enter f (xs.map a.eval++cb)) w:=by
  generalize a.eval=ρ at hx;simp[execOp,bN,resolve,invoke,hx,ef,Deferred.ofValue]
 unfold Oper.wp;rw[key];exact h.mono fun e w' ⟨v,he,hk⟩=>by subst he;exact hk
end Go.Cx
namespace Go.Proofs.YtlhicnfeajejhaaGreatDoor
open Go.RowKit Go.Cx
theorem qub {f:Int->Int} {N S:Nat} {v:Value} {w:World} (h:(Fk.cf f N S).holds v w) (c:Int):nb (f c)<=S:=by
 obtain⟨L,h1,h2,_,h4,_⟩:=h;rw[<-h2];rcases Classical.em (∃ p∈L,p.1=c) with ⟨p,hp,rfl⟩ | hn
 ·rw[zl h1.1 hp,<-j5];exact(h4 _ (go.2 ⟨p,hp,rfl⟩)).2.2
 ·rw[qks fun p hp e=>hn ⟨p,hp,e⟩];simp[q0g]
theorem qsx {f:Int->Int} {N S:Nat} {v:Value} {w:World} (h:(Fk.cf f N S).holds v w) (c:Int) (hc:f c≠0):I64 c:=by
 obtain⟨L,h1,h2,_,h4,_⟩:=h;rw[<-h2] at hc;have:=qsf h4 c;rw[zv] at this;exact this hc
theorem qko {f g:Int->Int} {N S N' S':Nat} {v:Value} {w:World} (h:(Fk.cf f N S).holds v w) (he:∀ c,f c=g c) (hN:N<=N') (hS:S<=S'):(Fk.cf g N' S').holds v w:=by
 obtain⟨L,h1,h2,h3,h4,h5⟩:=h;exact⟨L,h1,fun c=>(h2 c).trans (he c),gl h3 hN,h4.mono hS,h5⟩
end Go.Proofs.YtlhicnfeajejhaaGreatDoor
