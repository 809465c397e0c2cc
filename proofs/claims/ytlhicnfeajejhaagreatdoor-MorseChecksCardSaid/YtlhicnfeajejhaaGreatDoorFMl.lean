/- Steps towards MorseChecks. Conditions: none. -/
import Derived.Test.YtlhicnfeajejhaaGreatDoorFMk
set_option maxRecDepth 1000000
set_option maxHeartbeats 16000000
namespace Go.Cx
open Go.RowKit
variable {P:Program} {ops:Array Oper} {Q:Exit->Act->World->Prop} {md:Region.Mode}
def dep (md:Region.Mode) (ops:Array Oper) (i j:Nat):Bool:=((ops[i]?).map fun o=>o.after.any fun e=>Region.binds md e && e.on == j).getD false
def qbx (ops:Array Oper) (n:Nat):Bool:=(List.range ops.size).all fun i=>((ops[i]?).bind (·.dst)).isSome && decide ((((ops[i]?).bind (·.dst)).getD 0) < n) && (List.range i).all fun j=>(ops[j]?).bind (·.dst) != (ops[i]?).bind (·.dst)
theorem q4m {n:Nat} (h:qbx ops n=true):∀ (i:Nat) (o:Oper),ops[i]? = some o->∃ d,o.dst=some d/\d < n/\∀ (j:Nat) (oj:Oper),ops[j]? = some oj->j≠i->oj.dst≠some d:=by
 have key:∀ (i:Nat) (o:Oper),ops[i]? = some o->(∃ d,o.dst=some d/\d < n)/\∀ (j:Nat) (oj:Oper),ops[j]? = some oj->j < i->oj.dst≠o.dst:=fun i o ho=>by
  have hi:=(gw.1 ho).1;have h1:=bC.1 h i (gy.2 hi);simp only [Bool.and_eq_true,ho,Option.bind_some,decide_eq_true_eq] at h1;obtain⟨⟨h2,h3⟩,h4⟩:=h1;obtain⟨d,hd⟩:=Option.isSome_iff_exists.1 h2;refine⟨⟨d,hd,by rw[hd] at h3;exact h3⟩,fun j oj hj hlt=>?_⟩;have:=bC.1 h4 j (gy.2 hlt);rw[hj] at this;simpa using this
 intro i o ho;obtain⟨⟨d,hd,hn⟩,h1⟩:=key i o ho;refine⟨d,hd,hn,fun j oj hj ak e=>?_⟩;rcases gL j i with hlt | ij
 ·exact h1 j oj hj hlt (e.trans hd.symm)
 ·exact(key j oj hj).2 i o ho (by omega) (hd.trans e.symm)
def qmk (md:Region.Mode) (ops:Array Oper):Bool:=(List.range ops.size).all fun i=>((ops[i]?).map fun o=>o.after.all fun e=>!(Region.binds md e) || decide (e.on < i)).getD true
structure St (ops:Array Oper) (F:Nat->Value->World->Prop) (a0:Act) (w0:World) (listed:Array Bool) (a:Act) (w:World):Prop where
 sz:a.tmps.size=a0.tmps.size
 df:a.defers=a0.defers
 fact:∀ (i:Nat) (o:Oper) (d:Nat),ops[i]? = some o->o.dst=some d->listed.getD i false=true->F i (a.tmps.getD d undef) w
 base:∀ s,(∀ (i:Nat) (o:Oper),ops[i]? = some o->o.dst≠some s)->a.tmps.getD s undef=a0.tmps.getD s undef
 below:Below w0.heap.size w0 w
def unl (ops:Array Oper) (listed:Array Bool):Nat:=((List.range ops.size).filter fun i=>!listed.getD i false).length
theorem qdi {listed:Array Bool} (hl:listed.size=ops.size) {i:Nat} (hi:i < ops.size) (hf:listed.getD i false=false):unl ops (listed.setIfInBounds i true) < unl ops listed:=by
 unfold unl;have nk:∀ j,(listed.setIfInBounds i true).getD j false=(listed.getD j false || (i == j)):=fun j=>by
  by_cases hj:i=j
  ·subst hj;simp[hl,hi]
  ·have:(i == j)=false:=by simpa using hj
   rw[this,Bool.or_false];simp[hj]
 have h1:((List.range ops.size).filter fun j=>!(listed.setIfInBounds i true).getD j false)=((List.range ops.size).filter fun j=>!listed.getD j false).filter (fun j=>!(i == j)):=by
  rw[List.filter_filter];refine List.filter_congr fun j _=>?_
  rw[nk];cases listed.getD j false <;> cases (i == j) <;> rfl
 rw[h1];refine List.length_filter_lt_length_iff_exists.2 ⟨i,gH.2 ⟨gy.2 hi,by rw[hf];rfl⟩,by simp⟩
theorem q3s (a:Act) (d s:Nat) (v:Value):(a.put (some d) v).tmps.getD s undef=if d=s/\d < a.tmps.size then v else a.tmps.getD s undef:=by
 show (a.tmps.setIfInBounds d v).getD s undef=_;by_cases h:d=s
 ·subst h;by_cases hd:d < a.tmps.size
  ·rw[if_pos ⟨rfl,hd⟩];simp[hd]
  ·rw[if_neg (fun h=>hd h.2)];simp[hd]
 ·rw[if_neg (fun h'=>h h'.1)];simp[h]
theorem q1a {id:Nat} {a0:Act} {w:World} (hm:P.follows .mixedOrders=true) (F:Nat->Value->World->Prop) (n:Nat) (hn:a0.tmps.size=n) (hd:qbx ops n=true) (o7:qmk .any ops=true)
  (hF:∀ i v w w',F i v w->Below w.heap.size w w'->F i v w')
  (bM:∀ (i:Nat) (o:Oper),ops[i]? = some o->∀ (a:Act) (w':World),Below w.heap.size w w'->(∀ (j:Nat) (oj:Oper) (dj:Nat),ops[j]? = some oj->oj.dst=some dj->dep .any ops i j=true->F j (a.tmps.getD dj undef) w') →
   (∀ s,(∀ (i:Nat) (o:Oper),ops[i]? = some o->o.dst≠some s)->a.tmps.getD s undef=a0.tmps.getD s undef)->a.tmps.size=n →
   Region.wanted o (yielded ops a.tmps)=true/\Oper.wp P o a w' (fun a' w''=>∃ v,a'=a.put o.dst v/\F i v w''/\Below w'.heap.size w' w'') Q)
  (ik:∀ (a:Act) (w':World),a.tmps.size=n->a.defers=a0.defers->(∀ (i:Nat) (o:Oper) (d:Nat),ops[i]? = some o->o.dst=some d->F i (a.tmps.getD d undef) w') →
   (∀ s,(∀ (i:Nat) (o:Oper),ops[i]? = some o->o.dst≠some s)->a.tmps.getD s undef=a0.tmps.getD s undef)->Below w.heap.size w w'->Q .normal a w') :
  (Code.region id ops true).wp P Q a0 w:=by
 have G9:=q4m hd;have main:∀ (fuel:Nat) (listed:Array Bool) (a:Act) (w':World),listed.size=ops.size->unl ops listed<=fuel->St ops F a0 w listed a w'->wpAny P .any ops Q fuel listed a w':=by
  intro fuel;have fin:∀ (listed:Array Bool) (a:Act) (w':World),listed.size=ops.size->St ops F a0 w listed a w'->(∀ i:Nat,i < ops.size->listed.getD i false=true)->Q .normal a w':=fun listed a w' _ h aH =>
   ik a w' (h.sz.trans hn) h.df (fun i o d ho tD=>h.fact i o d ho tD (aH i (gw.1 ho).1)) h.base h.below
  have pe:∀ (listed:Array Bool),unl ops listed=0->∀ i:Nat,i < ops.size->listed.getD i false=true:=fun listed h0 i hi=>by
   cases hc:listed.getD i false with
   | true=>rfl
   | false =>
    have:i∈(List.range ops.size).filter fun i=>!listed.getD i false:=gH.2 ⟨gy.2 hi,by rw[hc];rfl⟩
    rw[gu h0] at this;cases this
  induction fuel with
  | zero =>
   intro listed a w' hl hu h;have aH:=pe listed (by omega);refine⟨?_,fin listed a w' hl h aH⟩;rw[List.eq_nil_iff_forall_not_mem];intro j hj;obtain⟨h1,o,ho,_⟩:=mem_ready.1 hj;have dP:=(gw.1 ho).1;have h2:=aH j dP;simp[hl,dP] at h1 h2;rw[h1] at h2;cases h2
  | succ fuel ih =>
   intro listed a w' hl hu h;refine⟨fun jF=>?_,fun i hi=>?_⟩
   ·refine fin listed a w' hl h fun i hi=>?_
    induction i using Nat.strongRecOn with
    | _ i GA =>
     cases hc:listed.getD i false with
     | true=>rfl
     | false =>
      exfalso
      obtain⟨o,ho⟩ : ∃ o,ops[i]? = some o:=⟨_,Array.getElem?_eq_getElem hi⟩
      have aZ:i∈Region.ready .any ops listed:=mem_ready.2 ⟨by simpa [hl,hi] using hc,o,ho,fun e he hb=>by
       have h1:=bC.1 o7 i (gy.2 hi);rw[ho] at h1;simp only [Option.map_some,Option.getD_some,Array.all_eq_true] at h1;obtain⟨k,hk,rfl⟩:=Array.getElem_of_mem he;have h2:=h1 k hk;rw[hb] at h2;have h3:(o.after[k]).on < i:=by simpa using h2
       exact GA _ h3 (by omega)⟩
      rw[jF] at aZ;cases aZ
   ·obtain⟨h1,o,ho,aH⟩:=mem_ready.1 hi;have fO:=(gw.1 ho).1;have zY:listed.getD i false=false:=by simpa [hl,fO] using h1
    obtain⟨d,bZ,bQ,eA⟩:=G9 i o ho;obtain⟨hw,rm⟩:=bM i o ho a w' h.below (fun j oj dj hj il ee=>h.fact j oj dj hj il (by
     unfold dep at ee;rw[ho] at ee;simp only [Option.map_some,Option.getD_some,Array.any_eq_true] at ee;obtain⟨k,hk,hb⟩:=ee;simp only [Bool.and_eq_true,beq_iff_eq] at hb;have:=aH _ (Array.getElem_mem hk) hb.1
     rwa [hb.2] at this)) h.base (h.sz.trans hn)
    unfold wpOp;rw[ho];dsimp only;rw[if_pos hw];refine .inl (Oper.wp_mono (fun a' w'' hx=>?_) rm);obtain⟨v,rfl,hv,hb⟩:=hx;have hlt:=qdi hl fO zY;refine ih _ _ _ (by simpa using hl) (by omega) ⟨?_,?_,fun j oj dj hj il oy=>?_,fun s hs=>?_,h.below.trans (hb.mono h.below.size)⟩
    ·rw[bZ];show (a.tmps.setIfInBounds d v).size=_;simpa using h.sz
    ·rw[bZ];exact h.df
    ·rw[bZ,q3s];by_cases lu:j=i
     ·subst lu;rw[ho] at hj;injection hj with hj;subst hj
      rw[bZ] at il;injection il with il;subst il
      rw[if_pos ⟨rfl,by rw[h.sz,hn];exact bQ⟩];exact hv
     ·rw[if_neg (fun e=>eA j oj hj lu (by rw[il,e.1]))];refine hF _ _ _ _ (h.fact j oj dj hj il ?_) hb;simp only [Array.getD_eq_getD_getElem?,Array.getElem?_setIfInBounds,Ne.symm lu,if_false] at oy;simpa using oy
    ·rw[bZ,q3s,if_neg (fun e=>hs i o ho (by rw[bZ,e.1]))];exact h.base s hs
 refine wp_region_any hm (main _ _ _ _ (by simp) ?_ ⟨rfl,rfl,fun i o d _ _ oy=>?_,fun _ _=>rfl,(qb (Below.refl _ w) 1)⟩)
 ·unfold unl;exact gn (bg _ _) (by simp)
 ·exfalso
  simp only [Array.getD_eq_getD_getElem?,Array.getElem?_replicate] at oy;split at oy <;> simp at oy
section
variable {o:Oper} {a:Act} {w:World} {K:Act->World->Prop}
theorem q1b (x:Operand) (aU:o.op = .move x\/o.op = .assign x) (h:K (a.put o.dst (a.eval x)) w):Oper.wp P o a w K Q:=by
 unfold Oper.wp;rcases aU with aU | aU <;> simp[execOp,aU] <;> exact h
theorem qka (c x y:Operand) (aU:o.op = .pick c x y) (hc:a.eval c = .bool true) (h:K (a.put o.dst (a.eval x)) w):Oper.wp P o a w K Q:=by
 unfold Oper.wp;simp[execOp,aU,hc,asBool];exact h
theorem qdj (f:Nat) (xs:Array Operand) (ts:Array TypeId) (aU:o.op = .call { callee:=.value (.func f),args:=xs,argTypes:=ts }) (ef:∀ args w,(callFunc f args).run P w = .ok (.enter f args) w)
  (vs:Array Value) (hv:xs.map a.eval=vs) (h:Calls P f vs w fun e w'=>∃ v,e = .returned v/\K (a.put o.dst v) w'):Oper.wp P o a w K Q:=by
 subst hv;have key:(execOp a.eval o).run P w = .ok (.enter f (xs.map a.eval)) w:=by
  have h0:a.eval (.func f) = .func (.func f) #[] #[]:=rfl;generalize a.eval=ρ at h0;simp[execOp,aU,resolve,invoke,h0,ef,Deferred.ofValue]
 unfold Oper.wp;rw[key];exact h.mono fun e w' ⟨v,he,hk⟩=>by subst he;exact hk
theorem q5z (t n:Nat) (parts:Array (Nat×Operand)) (aU:o.op = .buildSlice t n parts) (eB:Array (Nat×Value)) (hp:parts.map (fun p=>(p.1,a.eval p.2))=eB) (v:Value) (w2:World)
  (ck:(Instr.buildSlice t n eB).run P w = .ok v w2) (h:K (a.put o.dst v) w2):Oper.wp P o a w K Q:=by
 subst hp;unfold Oper.wp;simp[execOp,aU,ck,Result.andThen];exact h
theorem qh5 (t:Nat) (parts:Array (Nat×Operand)) (aU:o.op = .build t parts) (eB:Array (Nat×Value)) (hp:parts.map (fun p=>(p.1,a.eval p.2))=eB) (v:Value)
  (ck:(Instr.build t eB).run P w = .ok v w) (h:K (a.put o.dst v) w):Oper.wp P o a w K Q:=by
 subst hp;unfold Oper.wp;simp[execOp,aU,ck,Result.andThen];exact h
theorem q8o (t:Nat) (x:Operand) (aU:o.op = .load t x) (v1:Value) (h1:a.eval x=v1) (v:Value) (ck:(Instr.loadAt t v1).run P w = .ok v w) (h:K (a.put o.dst v) w):Oper.wp P o a w K Q:=by
 subst h1;unfold Oper.wp;simp[execOp,aU,ck,Result.andThen];exact h
theorem qnf (op:BinOp) (t t2:Nat) (x y:Operand) (aU:o.op = .binOp op t x y t2) (v1 v2:Value) (h1:a.eval x=v1) (h2:a.eval y=v2) (v:Value) (he:(eqGuard op t x y v1 v2).run P w = .ok () w) (ck:(Go.binOp op t v1 v2).run P w = .ok v w) (h:K (a.put o.dst v) w):Oper.wp P o a w K Q:=by
 subst h1 h2;unfold Oper.wp;simp[execOp,aU,he,ck,Result.andThen];exact h
end
end Go.Cx
namespace Go.Proofs.YtlhicnfeajejhaaGreatDoor
open Go.RowKit Go.Cx
attribute [local go_sem ↓] Go.wp_at_zero Go.wp_at_succ
theorem q8p (w:World) (t:TypeId) (st:Nat) (xs:List Value) (n:Nat) (h:xs.length=n*st) (hn:n<=maxLen):Sl (w.alloc (.cells xs.toArray t)) st (.slice (some ⟨w.heap.size,0,none⟩) n n) xs :=
 ⟨_,n,n,rfl,nlr _,hn,h,(fun e=>by cases e),fun ad ha j u hj=>by cases ha;exact q7l w t xs j u hj⟩
end Go.Proofs.YtlhicnfeajejhaaGreatDoor
