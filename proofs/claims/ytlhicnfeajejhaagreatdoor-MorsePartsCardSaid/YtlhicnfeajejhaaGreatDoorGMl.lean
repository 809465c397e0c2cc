/- Steps towards MorseParts. Conditions: none. -/
import Derived.Test.YtlhicnfeajejhaaGreatDoorGMk
set_option maxRecDepth 1000000
set_option maxHeartbeats 16000000
namespace Go.Cx
open Go.RowKit
variable {P:Program} {ops:Array Oper} {Q:Exit->Act->World->Prop} {md:Region.Mode}
def dep (md:Region.Mode) (ops:Array Oper) (i j:Nat):Bool:=((ops[i]?).map fun o=>o.after.any fun e=>Region.binds md e && e.on == j).getD false
def qbx (ops:Array Oper) (n:Nat):Bool:=(List.range ops.size).all fun i=>((ops[i]?).bind (·.dst)).isSome && decide ((((ops[i]?).bind (·.dst)).getD 0) < n) && (List.range i).all fun j=>(ops[j]?).bind (·.dst) != (ops[i]?).bind (·.dst)
theorem q4m {n:Nat} (h:qbx ops n=true):∀ (i:Nat) (o:Oper),ops[i]? = some o->∃ d,o.dst=some d/\d < n/\∀ (j:Nat) (oj:Oper),ops[j]? = some oj->j≠i->oj.dst≠some d:=by
 have key:∀ (i:Nat) (o:Oper),ops[i]? = some o->(∃ d,o.dst=some d/\d < n)/\∀ (j:Nat) (oj:Oper),ops[j]? = some oj->j < i->oj.dst≠o.dst:=fun i o ho=>by have hi:=(gp.1 ho).1;have h1:=bj.1 h i (gD.2 hi);simp only [Bool.and_eq_true,ho,Option.bind_some,decide_eq_true_eq] at h1;obtain⟨⟨h2,h3⟩,h4⟩:=h1;obtain⟨d,hd⟩:=Option.isSome_iff_exists.1 h2;refine⟨⟨d,hd,by rw[hd] at h3;exact h3⟩,fun j oj hj hlt=>?_⟩;have:=bj.1 h4 j (gD.2 hlt);rw[hj] at this;simpa using this
 intro i o ho;obtain⟨⟨d,hd,hn⟩,h1⟩:=key i o ho;refine⟨d,hd,hn,fun j oj hj al e=>?_⟩;rcases gP j i with hlt | mW
 ·exact h1 j oj hj hlt (e.trans hd.symm)
 ·exact(key j oj hj).2 i o ho (by omega) (hd.trans e.symm)
def qmk (md:Region.Mode) (ops:Array Oper):Bool:=(List.range ops.size).all fun i=>((ops[i]?).map fun o=>o.after.all fun e=>!(Region.binds md e) || decide (e.on < i)).getD true
structure St (ops:Array Oper) (F:Nat->Value->World->Prop) (a0:Act) (w0:World) (listed:Array Bool) (a:Act) (w:World):Prop where
 sz:a.tmps.size=a0.tmps.size
 df:a.defers=a0.defers
 fact:∀ (i:Nat) (o:Oper) (d:Nat),ops[i]? = some o->o.dst=some d->listed.getD i false=true->F i (a.tmps.getD d undef) w
 base:∀ s,(∀ (i:Nat) (o:Oper),ops[i]? = some o->o.dst≠some s)->a.tmps.getD s undef=a0.tmps.getD s undef
 below:BwQ w0 w
def unl (ops:Array Oper) (listed:Array Bool):Nat:=((List.range ops.size).filter fun i=>!listed.getD i false).length
theorem qdi {listed:Array Bool} (hl:listed.size=ops.size) {i:Nat} (hi:i < ops.size) (hf:listed.getD i false=false):unl ops (listed.setIfInBounds i true) < unl ops listed:=by
 unfold unl;have jB:∀ j,(listed.setIfInBounds i true).getD j false=(listed.getD j false || (i == j)):=fun j=>by
  by_cases hj:i=j
  ·subst hj;simp[hl,hi]
  ·have:(i == j)=false:=by simpa using hj
   rw[this,Bool.or_false];simp[hj]
 have h1:((List.range ops.size).filter fun j=>!(listed.setIfInBounds i true).getD j false)=((List.range ops.size).filter fun j=>!listed.getD j false).filter (fun j=>!(i == j)):=by
  rw[List.filter_filter];refine List.filter_congr fun j _=>?_
  rw[jB];cases listed.getD j false <;> cases (i == j) <;> rfl
 rw[h1];refine List.length_filter_lt_length_iff_exists.2 ⟨i,gK.2 ⟨gD.2 hi,by rw[hf];rfl⟩,by simp⟩
theorem q3s (a:Act) (d s:Nat) (v:Value):(a.put (some d) v).tmps.getD s undef=if d=s/\d < a.tmps.size then v else a.tmps.getD s undef:=by
 show (a.tmps.setIfInBounds d v).getD s undef=_;by_cases h:d=s
 ·subst h;by_cases hd:d < a.tmps.size
  ·rw[if_pos ⟨rfl,hd⟩];simp[hd]
  ·rw[if_neg (fun h=>hd h.2)];simp[hd]
 ·rw[if_neg (fun h'=>h h'.1)];simp[h]
theorem q1a {id:Nat} {a0:Act} {w:World} (hm:P.follows .mixedOrders=true) (F:Nat->Value->World->Prop) (n:Nat) (hn:a0.tmps.size=n) (hd:qbx ops n=true) (mx:qmk .any ops=true)
  (hF:∀ i v w w',F i v w->BwQ w w'->F i v w')
  (aX:∀ (i:Nat) (o:Oper),ops[i]? = some o->∀ (a:Act) (w':World),BwQ w w'->(∀ (j:Nat) (oj:Oper) (dj:Nat),ops[j]? = some oj->oj.dst=some dj->dep .any ops i j=true->F j (a.tmps.getD dj undef) w') →
   (∀ s,(∀ (i:Nat) (o:Oper),ops[i]? = some o->o.dst≠some s)->a.tmps.getD s undef=a0.tmps.getD s undef)->a.tmps.size=n →
   Region.wanted o (yielded ops a.tmps)=true/\Oper.wp P o a w' (fun a' w''=>∃ v,a'=a.put o.dst v/\F i v w''/\BwQ w' w'') Q)
  (dU:∀ (a:Act) (w':World),a.tmps.size=n->a.defers=a0.defers->(∀ (i:Nat) (o:Oper) (d:Nat),ops[i]? = some o->o.dst=some d->F i (a.tmps.getD d undef) w') →
   (∀ s,(∀ (i:Nat) (o:Oper),ops[i]? = some o->o.dst≠some s)->a.tmps.getD s undef=a0.tmps.getD s undef)->BwQ w w'->Q .normal a w') :
  (Code.region id ops true).wp P Q a0 w:=by
 have uT:=q4m hd;have main:∀ (fuel:Nat) (listed:Array Bool) (a:Act) (w':World),listed.size=ops.size->unl ops listed<=fuel->St ops F a0 w listed a w'->wpAny P .any ops Q fuel listed a w':=by
  intro fuel;have fin:∀ (listed:Array Bool) (a:Act) (w':World),listed.size=ops.size->St ops F a0 w listed a w'->(∀ i:Nat,i < ops.size->listed.getD i false=true)->Q .normal a w':=fun listed a w' _ h aG =>dU a w' (h.sz.trans hn) h.df (fun i o d ho rF=>h.fact i o d ho rF (aG i (gp.1 ho).1)) h.base h.below
  have mX:∀ (listed:Array Bool),unl ops listed=0->∀ i:Nat,i < ops.size->listed.getD i false=true:=fun listed h0 i hi=>by
   cases hc:listed.getD i false with
   | true=>rfl
   | false =>
    have:i∈(List.range ops.size).filter fun i=>!listed.getD i false:=gK.2 ⟨gD.2 hi,by rw[hc];rfl⟩
    rw[gz h0] at this;cases this
  induction fuel with
  | zero =>intro listed a w' hl hu h;have aG:=mX listed (by omega);refine⟨?_,fin listed a w' hl h aG⟩;rw[List.eq_nil_iff_forall_not_mem];intro j hj;obtain⟨h1,o,ho,_⟩:=mem_ready.1 hj;have dS:=(gp.1 ho).1;have h2:=aG j dS;simp[hl,dS] at h1 h2;rw[h1] at h2;cases h2
  | succ fuel ih =>
   intro listed a w' hl hu h;refine⟨fun il=>?_,fun i hi=>?_⟩
   ·refine fin listed a w' hl h fun i hi=>?_
    induction i using Nat.strongRecOn with
    | _ i DE =>
     cases hc:listed.getD i false with
     | true=>rfl
     | false =>
      exfalso
      obtain⟨o,ho⟩ : ∃ o,ops[i]? = some o:=⟨_,Array.getElem?_eq_getElem hi⟩
      have cG:i∈Region.ready .any ops listed:=mem_ready.2 ⟨by simpa [hl,hi] using hc,o,ho,fun e he hb=>by
       have h1:=bj.1 mx i (gD.2 hi);rw[ho] at h1;simp only [Option.map_some,Option.getD_some,Array.all_eq_true] at h1;obtain⟨k,hk,rfl⟩:=Array.getElem_of_mem he;have h2:=h1 k hk;rw[hb] at h2;have h3:(o.after[k]).on < i:=by simpa using h2
       exact DE _ h3 (by omega)⟩
      rw[il] at cG;cases cG
   ·obtain⟨h1,o,ho,aG⟩:=mem_ready.1 hi;have ed:=(gp.1 ho).1;have pY:listed.getD i false=false:=by simpa [hl,ed] using h1
    obtain⟨d,hd1,cj,eJ⟩:=uT i o ho;obtain⟨hw,my⟩:=aX i o ho a w' h.below (fun j oj dj hj bW bQ=>h.fact j oj dj hj bW (by
     unfold dep at bQ;rw[ho] at bQ;simp only [Option.map_some,Option.getD_some,Array.any_eq_true] at bQ;obtain⟨k,hk,hb⟩:=bQ;simp only [Bool.and_eq_true,beq_iff_eq] at hb;have:=aG _ (Array.getElem_mem hk) hb.1
     rwa [hb.2] at this)) h.base (h.sz.trans hn)
    unfold wpOp;rw[ho];dsimp only;rw[if_pos hw];refine .inl (Oper.wp_mono (fun a' w'' hx=>?_) my);obtain⟨v,rfl,hv,hb⟩:=hx;have hlt:=qdi hl ed pY;refine ih _ _ _ (by simpa using hl) (by omega) ⟨?_,?_,fun j oj dj hj bW ez=>?_,fun s hs=>?_,(btr h.below hb)⟩
    ·rw[hd1];show (a.tmps.setIfInBounds d v).size=_;simpa using h.sz
    ·rw[hd1];exact h.df
    ·rw[hd1,q3s];by_cases cE:j=i
     ·subst cE;rw[ho] at hj;injection hj with hj;subst hj
      rw[hd1] at bW;injection bW with bW;subst bW
      rw[if_pos ⟨rfl,by rw[h.sz,hn];exact cj⟩];exact hv
     ·rw[if_neg (fun e=>eJ j oj hj cE (by rw[bW,e.1]))];refine hF _ _ _ _ (h.fact j oj dj hj bW ?_) hb;simp only [Array.getD_eq_getD_getElem?,Array.getElem?_setIfInBounds,Ne.symm cE,if_false] at ez;simpa using ez
    ·rw[hd1,q3s,if_neg (fun e=>hs i o ho (by rw[hd1,e.1]))];exact h.base s hs
 refine wp_region_any hm (main _ _ _ _ (by simp) ?_ ⟨rfl,rfl,fun i o d _ _ ez=>?_,fun _ _=>rfl,(qb (Below.refl _ w) 1)⟩)
 ·unfold unl;exact gl (gQ _ _) (by simp)
 ·exfalso
  simp only [Array.getD_eq_getD_getElem?,Array.getElem?_replicate] at ez;split at ez <;> simp at ez
section
variable {o:Oper} {a:Act} {w:World} {K:Act->World->Prop}
theorem q1b (x:Operand) (bJ:o.op = .move x\/o.op = .assign x) (h:K (a.put o.dst (a.eval x)) w):Oper.wp P o a w K Q:=by unfold Oper.wp;rcases bJ with bJ | bJ <;> simp[execOp,bJ] <;> exact h
theorem qka (c x y:Operand) (bJ:o.op = .pick c x y) (hc:a.eval c = .bool true) (h:K (a.put o.dst (a.eval x)) w):Oper.wp P o a w K Q:=by unfold Oper.wp;simp[execOp,bJ,hc,asBool];exact h
theorem qdj (f:Nat) (xs:Array Operand) (ts:Array TypeId) (bJ:o.op = .call { callee:=.value (.func f),args:=xs,argTypes:=ts }) (ef:∀ args w,(callFunc f args).run P w = .ok (.enter f args) w)
  (vs:Array Value) (hv:xs.map a.eval=vs) (h:Calls P f vs w fun e w'=>∃ v,e = .returned v/\K (a.put o.dst v) w'):Oper.wp P o a w K Q:=by
 subst hv;have key:(execOp a.eval o).run P w = .ok (.enter f (xs.map a.eval)) w:=by have h0:a.eval (.func f) = .func (.func f) #[] #[]:=rfl;generalize a.eval=ρ at h0;simp[execOp,bJ,resolve,invoke,h0,ef,Deferred.ofValue]
 unfold Oper.wp;rw[key];exact h.mono fun e w' ⟨v,he,hk⟩=>by subst he;exact hk
theorem q5z (t n:Nat) (parts:Array (Nat×Operand)) (bJ:o.op = .buildSlice t n parts) (ir:Array (Nat×Value)) (hp:parts.map (fun p=>(p.1,a.eval p.2))=ir) (v:Value) (w2:World)
  (cB:(Instr.buildSlice t n ir).run P w = .ok v w2) (h:K (a.put o.dst v) w2):Oper.wp P o a w K Q:=by
 subst hp;unfold Oper.wp;simp[execOp,bJ,cB,Result.andThen];exact h
theorem qh5 (t:Nat) (parts:Array (Nat×Operand)) (bJ:o.op = .build t parts) (ir:Array (Nat×Value)) (hp:parts.map (fun p=>(p.1,a.eval p.2))=ir) (v:Value)
  (cB:(Instr.build t ir).run P w = .ok v w) (h:K (a.put o.dst v) w):Oper.wp P o a w K Q:=by
 subst hp;unfold Oper.wp;simp[execOp,bJ,cB,Result.andThen];exact h
theorem q8o (t:Nat) (x:Operand) (bJ:o.op = .load t x) (v1:Value) (h1:a.eval x=v1) (v:Value) (cB:(Instr.loadAt t v1).run P w = .ok v w) (h:K (a.put o.dst v) w):Oper.wp P o a w K Q:=by subst h1;unfold Oper.wp;simp[execOp,bJ,cB,Result.andThen];exact h
theorem qsj (op:UnOp) (t:Nat) (x:Operand) (bJ:o.op = .unOp op t x) (v1:Value) (h1:a.eval x=v1) (v:Value) (cB:(Op.unary op v1).run P w = .ok v w) (h:K (a.put o.dst v) w):Oper.wp P o a w K Q:=by subst h1;unfold Oper.wp;simp[execOp,bJ,cB,Result.andThen];exact h
theorem qnf (op:BinOp) (t t2:Nat) (x y:Operand) (bJ:o.op = .binOp op t x y t2) (v1 v2:Value) (h1:a.eval x=v1) (h2:a.eval y=v2) (v:Value) (he:(eqGuard op t x y v1 v2).run P w = .ok () w) (cB:(Go.binOp op t v1 v2).run P w = .ok v w) (h:K (a.put o.dst v) w):Oper.wp P o a w K Q:=by subst h1 h2;unfold Oper.wp;simp[execOp,bJ,he,cB,Result.andThen];exact h
end
def rch (md:Region.Mode) (ops:Array Oper) (pv:List Nat):Nat->Nat->Nat->Bool
 | 0,_,_=>false
 | f+1,k,i=>dep md ops k i || (dep md ops k (pv.getD k 0) && rch md ops pv f (pv.getD k 0) i)
structure St2 (md:Region.Mode) (ops:Array Oper) (rK:Nat->Nat->Bool) (F:Nat->Value->World->Prop) (a0:Act) (w0:World) (listed:Array Bool) (a:Act) (w:World):Prop where
 sz:a.tmps.size=a0.tmps.size
 df:a.defers=a0.defers
 fact:∀ (i:Nat) (o:Oper) (d:Nat),ops[i]? = some o->o.dst=some d->listed.getD i false=true->(∀ k,listed.getD k false=true->rK k i=false)->F i (a.tmps.getD d undef) w
 base:∀ s,(∀ (i:Nat) (o:Oper),ops[i]? = some o->o.dst≠some s)->a.tmps.getD s undef=a0.tmps.getD s undef
 below:BwQ w0 w
 closed:∀ i,listed.getD i false=true->∀ j,dep md ops i j=true->listed.getD j false=true
theorem q60 {listed:Array Bool} {pv:List Nat} (hc:∀ i,listed.getD i false=true->∀ j,dep md ops i j=true->listed.getD j false=true):∀ (f k i:Nat),rch md ops pv f k i=true->listed.getD k false=true->listed.getD i false=true:=by
 intro f;induction f with
 | zero=>intro k i h;cases h
 | succ f ih =>
  intro k i h hk;unfold rch at h;rw[Bool.or_eq_true,gZ] at h;rcases h with h | ⟨h1,h2⟩
  ·exact hc k hk i h
  ·exact ih _ _ h2 (hc k hk _ h1)
def qoz (md:Region.Mode) (ops:Array Oper) (rK s7:Nat->Nat->Bool) (pv:List Nat) (f:Nat):Bool :=
 (List.range ops.size).all fun i=>(List.range ops.size).all fun j=>!(dep md ops i j && s7 i j) || (List.range ops.size).all fun k=>!rK k j || i == k || rch md ops pv f k i
def qng (md:Region.Mode) (ops:Array Oper) (late:Nat->Nat->Bool) (pv:List Nat) (f:Nat):Bool :=
 (List.range ops.size).all fun k=>(List.range ops.size).all fun i=>!late k i || rch md ops pv f i k
theorem q74 {id:Nat} {a0:Act} {w:World} (hm:P.follows .mixedOrders=true) (F:Nat->Value->World->Prop) (rK s7 late:Nat->Nat->Bool) (Rl:Nat->World->World->Prop) (pv:List Nat) (fu:Nat) (Tv:qoz .any ops rK s7 pv fu=true) (hlt:qng .any ops late pv fu=true) (sr:∀ k j,rK k j=true->k < ops.size) (n:Nat) (hn:a0.tmps.size=n) (hd:qbx ops n=true) (mx:qmk .any ops=true)
  (hF:∀ k i v w w',rK k i=false->i≠k->late k i=false->F i v w->Rl k w w'->F i v w')
  (hR:∀ k w' w'',BwQ w w'->Rl k w' w''->Below w.heap.size w' w'')
  (aX:∀ (i:Nat) (o:Oper),ops[i]? = some o->∀ (a:Act) (w':World),BwQ w w'->(∀ (j:Nat) (oj:Oper) (dj:Nat),ops[j]? = some oj->oj.dst=some dj->(dep .any ops i j && s7 i j)=true->F j (a.tmps.getD dj undef) w') →
   (∀ s,(∀ (i:Nat) (o:Oper),ops[i]? = some o->o.dst≠some s)->a.tmps.getD s undef=a0.tmps.getD s undef)->a.tmps.size=n →
   Region.wanted o (yielded ops a.tmps)=true/\Oper.wp P o a w' (fun a' w''=>∃ v,a'=a.put o.dst v/\F i v w''/\Rl i w' w'') Q)
  (dU:∀ (a:Act) (w':World),a.tmps.size=n->a.defers=a0.defers->(∀ (i:Nat) (o:Oper) (d:Nat),ops[i]? = some o->o.dst=some d->(∀ k,rK k i=false)->F i (a.tmps.getD d undef) w') →
   (∀ s,(∀ (i:Nat) (o:Oper),ops[i]? = some o->o.dst≠some s)->a.tmps.getD s undef=a0.tmps.getD s undef)->BwQ w w'->Q .normal a w') :
  (Code.region id ops true).wp P Q a0 w:=by
 have uT:=q4m hd;have main:∀ (fuel:Nat) (listed:Array Bool) (a:Act) (w':World),listed.size=ops.size->unl ops listed<=fuel->St2 .any ops rK F a0 w listed a w'->wpAny P .any ops Q fuel listed a w':=by
  intro fuel;have fin:∀ (listed:Array Bool) (a:Act) (w':World),listed.size=ops.size->St2 .any ops rK F a0 w listed a w'->(∀ i:Nat,i < ops.size->listed.getD i false=true)->Q .normal a w':=fun listed a w' _ h aG =>dU a w' (h.sz.trans hn) h.df (fun i o d ho rF Ha=>h.fact i o d ho rF (aG i (gp.1 ho).1) (fun k _=>Ha k)) h.base h.below
  have mX:∀ (listed:Array Bool),unl ops listed=0->∀ i:Nat,i < ops.size->listed.getD i false=true:=fun listed h0 i hi=>by
   cases hc:listed.getD i false with
   | true=>rfl
   | false =>
    have:i∈(List.range ops.size).filter fun i=>!listed.getD i false:=gK.2 ⟨gD.2 hi,by rw[hc];rfl⟩
    rw[gz h0] at this;cases this
  induction fuel with
  | zero =>intro listed a w' hl hu h;have aG:=mX listed (by omega);refine⟨?_,fin listed a w' hl h aG⟩;rw[List.eq_nil_iff_forall_not_mem];intro j hj;obtain⟨h1,o,ho,_⟩:=mem_ready.1 hj;have dS:=(gp.1 ho).1;have h2:=aG j dS;simp[hl,dS] at h1 h2;rw[h1] at h2;cases h2
  | succ fuel ih =>
   intro listed a w' hl hu h;refine⟨fun il=>?_,fun i hi=>?_⟩
   ·refine fin listed a w' hl h fun i hi=>?_
    induction i using Nat.strongRecOn with
    | _ i DE =>
     cases hc:listed.getD i false with
     | true=>rfl
     | false =>
      exfalso
      obtain⟨o,ho⟩ : ∃ o,ops[i]? = some o:=⟨_,Array.getElem?_eq_getElem hi⟩
      have cG:i∈Region.ready .any ops listed:=mem_ready.2 ⟨by simpa [hl,hi] using hc,o,ho,fun e he hb=>by
       have h1:=bj.1 mx i (gD.2 hi);rw[ho] at h1;simp only [Option.map_some,Option.getD_some,Array.all_eq_true] at h1;obtain⟨k,hk,rfl⟩:=Array.getElem_of_mem he;have h2:=h1 k hk;rw[hb] at h2;have h3:(o.after[k]).on < i:=by simpa using h2
       exact DE _ h3 (by omega)⟩
      rw[il] at cG;cases cG
   ·obtain⟨h1,o,ho,aG⟩:=mem_ready.1 hi;have ed:=(gp.1 ho).1;have pY:listed.getD i false=false:=by simpa [hl,ed] using h1
    obtain⟨d,hd1,cj,eJ⟩:=uT i o ho;have s8:∀ j,dep .any ops i j=true->listed.getD j false=true:=fun j bQ=>by
     unfold dep at bQ;rw[ho] at bQ;simp only [Option.map_some,Option.getD_some,Array.any_eq_true] at bQ;obtain⟨k,hk,hb⟩:=bQ;simp only [Bool.and_eq_true,beq_iff_eq] at hb;have:=aG _ (Array.getElem_mem hk) hb.1
     rwa [hb.2] at this
    have Ha:∀ j (oj:Oper),ops[j]? = some oj->(dep .any ops i j && s7 i j)=true->∀ k,listed.getD k false=true->rK k j=false:=fun j oj hj bQ k hk=>by
     cases hc:rK k j with
     | false=>rfl
     | true =>
      exfalso
      have bF:=sr k j hc;have dS:=(gp.1 hj).1;have e1:=bj.1 (bj.1 Tv i (gD.2 ed)) j (gD.2 dS);rw[bQ,Bool.not_true,Bool.false_or] at e1;have e2:=bj.1 e1 k (gD.2 bF);rw[hc,Bool.not_true,Bool.false_or,Bool.or_eq_true,beq_iff_eq] at e2;rcases e2 with e2 | e2
      ·subst e2;rw[pY] at hk;cases hk
      ·have:=q60 h.closed fu k i e2 hk;rw[pY] at this;cases this
    obtain⟨hw,my⟩:=aX i o ho a w' h.below (fun j oj dj hj bW bQ=>h.fact j oj dj hj bW (s8 j (Bool.and_eq_true_iff.1 bQ).1) (Ha j oj hj bQ)) h.base (h.sz.trans hn);have fe:∀ j,(listed.setIfInBounds i true).getD j false=true↔(j=i\/listed.getD j false=true):=fun j=>by
     by_cases hj:i=j
     ·subst hj;simp[hl,ed]
     ·have nX:¬ j=i:=fun e=>hj e.symm
      simp[hj,nX]
    unfold wpOp;rw[ho];dsimp only;rw[if_pos hw];refine .inl (Oper.wp_mono (fun a' w'' hx=>?_) my);obtain⟨v,rfl,hv,hb⟩:=hx;have NU:=qdi hl ed pY;refine ih _ _ _ (by simpa using hl) (by omega) ⟨?_,?_,fun j oj dj hj bW ez DF=>?_,fun s hs=>?_,h.below.trans (hR i _ _ h.below hb),fun m hm j Ov=>?_⟩
    ·rw[hd1];show (a.tmps.setIfInBounds d v).size=_;simpa using h.sz
    ·rw[hd1];exact h.df
    ·rw[hd1,q3s];by_cases cE:j=i
     ·subst cE;rw[ho] at hj;injection hj with hj;subst hj
      rw[hd1] at bW;injection bW with bW;subst bW
      rw[if_pos ⟨rfl,by rw[h.sz,hn];exact cj⟩];exact hv
     ·rw[if_neg (fun e=>eJ j oj hj cE (by rw[bW,e.1]))];have dS:listed.getD j false=true:=by
       rcases (fe j).1 ez with e | e
       ·exact absurd e cE
       ·exact e
      have uu:late i j=false:=by
       cases hc:late i j with
       | false=>rfl
       | true =>
        exfalso
        have e1:=bj.1 (bj.1 hlt i (gD.2 ed)) j (gD.2 (gp.1 hj).1);rw[hc,Bool.not_true,Bool.false_or] at e1;have:=q60 h.closed fu j i e1 dS;rw[pY] at this;cases this
      refine hF i _ _ _ _ (DF i ((fe i).2 (.inl rfl))) cE uu (h.fact j oj dj hj bW ?_ fun k hk=>DF k ((fe k).2 (.inr hk))) hb;rcases (fe j).1 ez with e | e
      ·exact absurd e cE
      ·exact e
    ·rw[hd1,q3s,if_neg (fun e=>hs i o ho (by rw[hd1,e.1]))];exact h.base s hs
    ·rcases (fe m).1 hm with e | e
     ·subst e;exact(fe j).2 (.inr (s8 j Ov))
     ·exact(fe j).2 (.inr (h.closed m e j Ov))
 refine wp_region_any hm (main _ _ _ _ (by simp) ?_ ⟨rfl,rfl,fun i o d _ _ ez _=>?_,fun _ _=>rfl,(qb (Below.refl _ w) 1),fun i ez=>?_⟩)
 ·unfold unl;exact gl (gQ _ _) (by simp)
 all_goals
  exfalso
  simp only [Array.getD_eq_getD_getElem?,Array.getElem?_replicate] at ez;split at ez <;> simp at ez
end Go.Cx
namespace Go.Proofs.YtlhicnfeajejhaaGreatDoor
open Go.RowKit Go.Cx
attribute [local go_sem ↓] Go.wp_at_zero Go.wp_at_succ
theorem q8p (w:World) (t:TypeId) (st:Nat) (xs:List Value) (n:Nat) (h:xs.length=n*st) (hn:n<=maxLen):Sl (w.alloc (.cells xs.toArray t)) st (.slice (some ⟨w.heap.size,0,none⟩) n n) xs :=
 ⟨_,n,n,rfl,nlr _,hn,h,(fun e=>by cases e),fun ad ha j u hj=>by cases ha;exact q7l w t xs j u hj⟩
end Go.Proofs.YtlhicnfeajejhaaGreatDoor
