/- Steps towards SequenceChecks. Conditions: none. -/
import Derived.Deep.DeepCutAuto
import Derived.Deep.OwnRows
import Derived.Deep.SlicePairs
import Derived.Great.BuildSlice
import Derived.OpenShut
import Derived.ProofKit
import Derived.StillTailTactics
import Derived.Test.YtmkpbhaoalbhjaaGreatDoorXMk
set_option maxRecDepth 1000000
set_option maxHeartbeats 0
open Go.Value renaming slice→O,agg→I,pointer→σ,bool→τ,int→H,tuple→ψ,string→ω
open Option renaming none→Z,some→Y
open Go renaming undef→V,World→δ,Value→ε
open Go.IntKind renaming i64→φ
open Go.Cx renaming keep→J
namespace Go.Cx
open Go.RowKit
variable {P:Program}{ops:Array Oper}{Q:Exit->Act->δ->Prop}{md:Region.Mode}
def dep (md:Region.Mode)(ops:Array Oper)(i j:Nat):Bool:=((ops[i]?).map fun o=>o.after.any fun e=>Region.binds md e && e.on == j).getD false
def qbx (ops:Array Oper)(n:Nat):Bool:=(List.range ops.size).all fun i=>((ops[i]?).bind (·.dst)).isSome && decide ((((ops[i]?).bind (·.dst)).getD 0)<n) && (List.range i).all fun j=>(ops[j]?).bind (·.dst) != (ops[i]?).bind (·.dst)
theorem q4m {n:Nat}(h:qbx ops n=true):∀(i:Nat) (o:Oper),ops[i]? =Y o->∃d,o.dst=Y d/\d<n/\∀(j:Nat) (oj:Oper),ops[j]? =Y oj->j≠i->oj.dst≠Y d:=by
 have key:∀(i:Nat) (o:Oper),ops[i]? =Y o->(∃d,o.dst=Y d/\d<n)/\∀(j:Nat) (oj:Oper),ops[j]? =Y oj->j<i->oj.dst≠o.dst:=fun i o ho=>by have hi:=(gh.1 ho).1;have h1:=gE.1 h i (gF.2 hi);simp only [Bool.and_eq_true,ho,Option.bind_some,decide_eq_true_eq]at h1;obtain⟨⟨h2,h3⟩,h4⟩:=h1;obtain⟨d,hd⟩:=Option.isSome_iff_exists.1 h2;refine⟨⟨d,hd,by rw[hd]at h3;exact h3⟩,fun j oj hj ak=>?_⟩;have:=gE.1 h4 j (gF.2 ak);rw[hj]at this;simpa using this
 intro i o ho;obtain⟨⟨d,hd,hn⟩,h1⟩:=key i o ho;refine⟨d,hd,hn,fun j oj hj ah e=>?_⟩;rcases gG j i with ak|B0
 ·exact h1 j oj hj ak (e.trans hd.symm)
 ·exact(key j oj hj).2 i o ho (by omega) (hd.trans e.symm)
def qmk (md:Region.Mode)(ops:Array Oper):Bool:=(List.range ops.size).all fun i=>((ops[i]?).map fun o=>o.after.all fun e=>!(Region.binds md e) || decide (e.on<i)).getD true
structure St (ops:Array Oper)(F:Nat->ε->δ->Prop)(a0:Act)(w0:δ)(listed:Array Bool)(a:Act)(w:δ):Prop where
 sz:a.tmps.size=a0.tmps.size
 df:a.defers=a0.defers
 fact:∀(i:Nat) (o:Oper) (d:Nat),ops[i]? =Y o->o.dst=Y d->listed.getD i false=true->F i (a d V) w
 base:∀s,(∀(i:Nat) (o:Oper),ops[i]? =Y o->o.dst≠Y s)->a s V=a0 s V
 below:Below w0 w0 w
def unl (ops:Array Oper)(listed:Array Bool):Nat:=((List.range ops.size).filter fun i=>!listed.getD i false).length
theorem qdi {listed:Array Bool}(hl:listed.size=ops.size){i:Nat}(hi:i<ops.size)(hf:listed.getD i false=false):unl ops (listed.setIfInBounds i true)<unl ops listed:=by
 unfold unl;have oZ:∀j,(listed.setIfInBounds i true).getD j false=(listed.getD j false || (i == j)):=fun j=>by
  by_cases hj:i=j
  ·subst hj;simp[hl,hi]
  ·have:(i == j)=false:=by simpa using hj
   rw[this,Bool.or_false];simp[hj]
 have h1:((List.range ops.size).filter fun j=>!(listed.setIfInBounds i true).getD j false)=((List.range ops.size).filter fun j=>!listed.getD j false).filter (fun j=>!(i == j)):=by
  rw[List.filter_filter];refine List.filter_congr fun j _=>?_
  rw[oZ];cases listed.getD j false <;> cases (i == j) <;> rfl
 rw[h1];refine List.length_filter_lt_length_iff_exists.2 ⟨i,gS.2 ⟨gF.2 hi,by rw[hf];rfl⟩,by simp⟩
theorem q3s (a:Act)(d s:Nat)(v:ε):(a.put (Y d) v).tmps.getD s V=if d=s/\d<a.tmps.size then v else a s undef:=by
 show (a.tmps.setIfInBounds d v).getD s V=_;by_cases h:d=s
 ·subst h;by_cases hd:d<a.tmps.size
  ·rw[if_pos ⟨rfl,hd⟩];simp[hd]
  ·rw[if_neg (fun h=>hd h.2)];simp[hd]
 ·rw[if_neg (fun h'=>h h'.1)];simp[h]
theorem q0m {id:Nat}{a0:Act}{w:δ}(hm:P.follows .mixedOrders=true)(F:Nat->ε->δ->Prop)(n:Nat)(hn:a0.tmps.size=n)(hd:qbx ops n=true)(lP:qmk .any ops=true)
  (hF:∀i v w w',F i v w->Below w w w'->F i v w')
  (dq:∀(i:Nat) (o:Oper),ops[i]? =Y o->∀(a:Act) (w':δ),Below w w w'->(∀(j:Nat) (oj:Oper) (dj:Nat),ops[j]? =Y oj->oj.dst=Y dj->dep .any ops i j=true->F j (a dj V) w') →
   (∀s,(∀(i:Nat) (o:Oper),ops[i]? =Y o->o.dst≠Y s)->a s V=a0 s V)->a.tmps.size=n →
   Region.wanted o (yielded ops a.tmps)=true/\Oper.wp P o a w' (fun a' w''=>∃v,a'=a.put o.dst v/\F i v w''/\Below w' w' w'') Q)
  (cZ:∀(a:Act) (w':δ),a.tmps.size=n->a.defers=a0.defers->(∀(i:Nat) (o:Oper) (d:Nat),ops[i]? =Y o->o.dst=Y d->F i (a d V) w') →
   (∀s,(∀(i:Nat) (o:Oper),ops[i]? =Y o->o.dst≠Y s)->a s V=a0 s V)->Below w w w'->Q .normal a w') :
  (Code.region id ops true).wp P Q a0 w:=by
 have lQ:=q4m hd;have main:∀(fuel:Nat) (listed:Array Bool) (a:Act) (w':δ),listed.size=ops.size->unl ops listed<=fuel->St ops F a0 w listed a w'->wpAny P .any ops Q fuel listed a w':=by
  intro fuel;have fin:∀(listed:Array Bool) (a:Act) (w':δ),listed.size=ops.size->St ops F a0 w listed a w'->(∀i:Nat,i<ops.size->listed.getD i false=true)->Q .normal a w':=fun listed a w' _ h ao =>cZ a w' (h.sz.trans hn) h.df (fun i o d ho eT=>h.fact i o d ho eT (ao i (gh.1 ho).1)) h.base h.below
  have mE:∀(listed:Array Bool),unl ops listed=0->∀i:Nat,i<ops.size->listed.getD i false=true:=fun listed h0 i hi=>by
   cases hc:listed.getD i false with
   |true=>rfl
   |false =>
    have:i∈(List.range ops.size).filter fun i=>!listed.getD i false:=gS.2 ⟨gF.2 hi,by rw[hc];rfl⟩
    rw[gl h0]at this;cases this
  induction fuel with
  |zero =>intro listed a w' hl hu h;have ao:=mE listed (by omega);refine⟨?_,fin listed a w' hl h ao⟩;rw[List.eq_nil_iff_forall_not_mem];intro j hj;obtain⟨h1,o,ho,_⟩:=mem_ready.1 hj;have eV:=(gh.1 ho).1;have h2:=ao j eV;simp[hl,eV]at h1 h2;rw[h1]at h2;cases h2
  |succ fuel ih =>
   intro listed a w' hl hu h;refine⟨fun jS=>?_,fun i hi=>?_⟩
   ·refine fin listed a w' hl h fun i hi=>?_
    induction i using Nat.strongRecOn with
    |_ i Dg =>
     cases hc:listed.getD i false with
     |true=>rfl
     |false =>
      exfalso
      obtain⟨o,ho⟩:∃o,ops[i]? =Y o:=⟨_,Array.getElem?_eq_getElem hi⟩
      have cG:i∈Region.ready .any ops listed:=mem_ready.2 ⟨by simpa [hl,hi]using hc,o,ho,fun e he hb=>by
       have h1:=gE.1 lP i (gF.2 hi);rw[ho]at h1;simp only [Option.map_some,Option.getD_some,Array.all_eq_true]at h1;obtain⟨k,hk,rfl⟩:=Array.getElem_of_mem he;have h2:=h1 k hk;rw[hb]at h2;have h3:(o.after[k]).on<i:=by simpa using h2
       exact Dg _ h3 (by omega)⟩
      rw[jS]at cG;cases cG
   ·obtain⟨h1,o,ho,ao⟩:=mem_ready.1 hi;have dT:=(gh.1 ho).1;have B4:listed.getD i false=false:=by simpa [hl,dT]using h1
    obtain⟨d,eD,iZ,nN⟩:=lQ i o ho;obtain⟨hw,fB⟩:=dq i o ho a w' h.below (fun j oj dj hj ar aK=>h.fact j oj dj hj ar (by
     unfold dep at aK;rw[ho]at aK;simp only [Option.map_some,Option.getD_some,Array.any_eq_true]at aK;obtain⟨k,hk,hb⟩:=aK;simp only [Bool.and_eq_true,beq_iff_eq]at hb;have:=ao _ (Array.getElem_mem hk) hb.1
     rwa [hb.2]at this)) h.base (h.sz.trans hn)
    unfold wpOp;rw[ho];dsimp only;rw[if_pos hw];refine .inl (Oper.wp_mono (fun a' w'' hx=>?_) fB);obtain⟨v,rfl,hv,hb⟩:=hx;have ak:=qdi hl dT B4;refine ih _ _ _ (by simpa using hl) (by omega) ⟨?_,?_,fun j oj dj hj ar cy=>?_,fun s hs=>?_,(btr h.below hb)⟩
    ·rw[eD];show (a.tmps.setIfInBounds d v).size=_;simpa using h.sz
    ·rw[eD];exact h.df
    ·rw[eD,q3s];by_cases aH:j=i
     ·subst aH;rw[ho]at hj;injection hj with hj;subst hj
      rw[eD]at ar;injection ar with ar;subst ar
      rw[if_pos ⟨rfl,by rw[h.sz,hn];exact iZ⟩];exact hv
     ·rw[if_neg (fun e=>nN j oj hj aH (by rw[ar,e.1]))];refine hF _ _ _ _ (h.fact j oj dj hj ar ?_) hb;simp only [Array.getD_eq_getD_getElem?,Array.getElem?_setIfInBounds,Ne.symm aH,if_false]at cy;simpa using cy
    ·rw[eD,q3s,if_neg (fun e=>hs i o ho (by rw[eD,e.1]))];exact h.base s hs
 refine wp_region_any hm (main _ _ _ _ (by simp) ?_ ⟨rfl,rfl,fun i o d _ _ cy=>?_,fun _ _=>rfl,(qb (Below.refl _ w) 1)⟩)
 ·unfold unl;exact gd (gY _ _) (by simp)
 ·exfalso
  simp only [Array.getD_eq_getD_getElem?,Array.getElem?_replicate]at cy;split at cy <;> simp at cy
section
variable {o:Oper}{a:Act}{w:δ}{K:Act->δ->Prop}
theorem q1b (x:Operand)(aX:o.op=.move x\/o.op=.assign x)(h:K (a.put o.dst (a.eval x)) w):Oper.wp P o a w K Q:=by unfold Oper.wp;rcases aX with aX|aX <;> simp[execOp,aX] <;> exact h
theorem qka (c x y:Operand)(aX:o.op=.pick c x y)(hc:a.eval c=τ true)(h:K (a.put o.dst (a.eval x)) w):Oper.wp P o a w K Q:=by unfold Oper.wp;simp[execOp,aX,hc,asBool];exact h
theorem qdj (f:Nat)(xs:Array Operand)(ts:Array TypeId)(aX:o.op=.call { callee:=.value (.func f),args:=xs,argTypes:=ts })(ef:∀args w,(callFunc f args).run P w=.ok (.enter f args) w)
  (vs:Array ε) (hv:xs.map a.eval=vs) (h:Calls P f vs w fun e w'=>∃v,e=.returned v/\K (a.put o.dst v) w'):Oper.wp P o a w K Q:=by
 subst hv;have key:(execOp a.eval o).run P w=.ok (.enter f (xs.map a.eval)) w:=by have h0:a.eval (.func f)=.func (.func f) #[] #[]:=rfl;generalize a.eval=ρ at h0;simp[execOp,aX,resolve,invoke,h0,ef,Deferred.ofValue]
 unfold Oper.wp;rw[key];exact h.mono fun e w' ⟨v,he,hk⟩=>by subst he;exact hk
theorem q5z (t n:Nat)(parts:Array (Nat×Operand))(aX:o.op=.buildSlice t n parts)(rF:Array (Nat×ε))(hp:parts.map (fun p=>(p.1,a.eval p.2))=rF)(v:ε)(w2:δ)
  (bP:(Instr.buildSlice t n rF).run P w=.ok v w2) (h:K (a.put o.dst v) w2):Oper.wp P o a w K Q:=by
 subst hp;unfold Oper.wp;simp[execOp,aX,bP,Result.andThen];exact h
theorem qh5 (t:Nat)(parts:Array (Nat×Operand))(aX:o.op=.build t parts)(rF:Array (Nat×ε))(hp:parts.map (fun p=>(p.1,a.eval p.2))=rF)(v:ε)
  (bP:(Instr.build t rF).run P w=.ok v w) (h:K (a.put o.dst v) w):Oper.wp P o a w K Q:=by
 subst hp;unfold Oper.wp;simp[execOp,aX,bP,Result.andThen];exact h
theorem q8o (t:Nat)(x:Operand)(aX:o.op=.load t x)(v1:ε)(h1:a.eval x=v1)(v:ε)(bP:(Instr.loadAt t v1).run P w=.ok v w)(h:K (a.put o.dst v) w):Oper.wp P o a w K Q:=by subst h1;unfold Oper.wp;simp[execOp,aX,bP,Result.andThen];exact h
theorem q3g (op:UnOp)(t:Nat)(x:Operand)(aX:o.op=.unOp op t x)(v1:ε)(h1:a.eval x=v1)(v:ε)(bP:(Op.unary op v1).run P w=.ok v w)(h:K (a.put o.dst v) w):Oper.wp P o a w K Q:=by subst h1;unfold Oper.wp;simp[execOp,aX,bP,Result.andThen];exact h
theorem qnf (op:BinOp)(t t2:Nat)(x y:Operand)(aX:o.op=.binOp op t x y t2)(v1 v2:ε)(h1:a.eval x=v1)(h2:a.eval y=v2)(v:ε)(he:(eqGuard op t x y v1 v2).run P w=.ok () w)(bP:(Go.binOp op t v1 v2).run P w=.ok v w)(h:K (a.put o.dst v) w):Oper.wp P o a w K Q:=by subst h1 h2;unfold Oper.wp;simp[execOp,aX,he,bP,Result.andThen];exact h
end
end Go.Cx
namespace Go.Proofs.YtmkpbhaoalbhjaaGreatDoor
open Go.RowKit Go.Cx
attribute [local go_sem ↓] Go.wp_at_zero Go.wp_at_succ
theorem q8p (w:δ)(t:TypeId)(st:Nat)(xs:List ε)(n:Nat)(h:xs.length=n*st)(hn:n<=maxLen):Sl (w.alloc (.cells xs.toArray t)) st (O w n n) xs :=
 ⟨_,n,n,rfl,nlr _,hn,h,(fun e=>by cases e),fun ad ha j u hj=>by cases ha;exact q7l w t xs j u hj⟩
end Go.Proofs.YtmkpbhaoalbhjaaGreatDoor
namespace Go.Proofs.YtmkpbhaoalbhjaaGreatDoor
open Go.RowKit Go.Cx
inductive Fk
 |any
 |tt
 |val (v:ε)
 |cx (K:List Cl)
 |ints (l:List (Int×Int))
 |ch (L:List (Int×Int))
 |cf (f:Int->Int) (N S:Nat)
 |wd (l:List Int)
 |tup (l:List Int)
 |own (b:Nat) (L:List (Int×Int))
def Fk.holds:Fk->ε->δ->Prop
 | .any,_,_=>True
 | .tt,v,_=>v=τ true
 | .val x,v,_=>v=x
 | .cx K,v,w=>∃u l,v=I #[u]/\SlC w u l/\l.map Ce.cl=K
 | .ints l,v,w=>Sl w 1 v (pv l)
 | .ch L,v,w=>Sl w 3 v (tv (ctm L))
 | .cf f N S,v,w=>∃L,Cn L/\(∀c,co L c=f c)/\L.length<=N/\TOk S (ctm L)/\Sl w 3 v (tv (ctm L))
 | .wd l,v,w=>Sl w 2 v (wvs l)
 | .own b L,v,w=>b<=w/\w.ownsRow b 167 3 v L.length (tv (ctm L))
 | .tup l,v,w=>∃r,v=ψ #[r,τ true]/\Sl w 2 r (wvs l)
theorem Fk.keep {k:Fk}{v:ε}{w w':δ}(h:k.holds v w)(hb:Below w w w'):k.holds v w':=by
 cases k with
 |any=>trivial
 |tt=>exact h
 |val x=>exact h
 |cx K=>obtain⟨u,l,h1,h2,h3⟩:=h;exact⟨u,l,h1,h2.mono fun p u hc=>J hb hc,h3⟩
 |ints l=>exact Sl.keep h hb
 |ch L=>exact Sl.keep h hb
 |cf f N S=>obtain⟨L,h1,h2,h3,h4,h5⟩:=h;exact⟨L,h1,h2,h3,h4,h5.keep hb⟩
 |wd l=>exact Sl.keep h hb
 |own b L=>exact⟨gd h.1 hb.size,qa h.2 hb⟩
 |tup l=>obtain⟨r,h1,h2⟩:=h;exact⟨r,h1,h2.keep hb⟩
def qaj (k:Fk)(w:δ)(e:Ending)(w':δ):Prop:=∃r,e=.returned r/\k.holds r w'/\Below w w w'
theorem q2p {P:Program}(w:δ)(t e:TypeId)(len:Nat)(parts:Array (Nat×ε))(cells:Array ε)(z:ε)(s b:Nat)(hu:P.underlying t=Y (.slice e))
  (hi:(P.info? e).map (fun i=>(i.zero,i.size,i.bytes))=Y (Y z,s,b)) (zG:¬len*s > 2^24) (jX:¬len*s=0)
  (hf:Instr.fill (fun i=>Y (i*s,s)) ((Array.range (len*s)).map (z.cells[· % z.cells.size]!)) parts.toList=Y cells) :
  (Instr.buildSlice t len parts).run P w=.ok (O w len len) (w.alloc (.cells cells e)):=by
 cases hie:P.info? e with
 |none=>rw[hie]at hi;simp at hi
 |some ie =>rw[hie]at hi;simp only [Option.map_some,Option.some.injEq,Prod.mk.injEq]at hi;obtain⟨h1,h2,_⟩:=hi;subst h2;exact run_buildSlice w t e len parts cells ie z hu hie h1 zG jX hf
theorem qks {L:List (Int×Int)}{c:Int}(h:∀p∈L,p.1≠c):co L c=0:=q0j L c h
def z8 (K:List Cl):List (Int×Sd):=K.flatMap fun x=>x.s.map fun y=>(x.id,y)
theorem q2q (l:List Ce):q2o l=z8 (l.map Ce.cl):=by
 induction l with
 |nil=>rfl
 |cons x l ih=>show _++q2o l=_;rw[ih];rfl
def KOk (K:List Cl):Prop:=∀x∈K,(I64 x.id/\I64 x.dim)/\x.s.length<=19/\∀s∈x.s,I64 s.c/\I64 s.g
theorem KOk.cok {K:List Cl}{l:List Ce}(h:KOk K)(hl:l.map Ce.cl=K):COk l:=fun x hx=>by have:=h x.cl (by rw[<-hl];exact gj.2 ⟨x,hx,rfl⟩);exact this
def LOk (S:Nat)(L:List (Int×Int)):Prop:=∀p∈L,I64 p.1/\nb p.2<=S
theorem LOk.tok {S:Nat}{L:List (Int×Int)}(h:LOk S L):TOk S (ctm L):=fun t ht=>by obtain⟨p,hp,rfl⟩:=gj.1 ht;exact⟨(h p hp).1.1,(h p hp).1.2,by show (mg p.2).size<=S;rw[j5];exact(h p hp).2⟩
section
variable {P:Program}{Q:Exit->Act->δ->Prop}{o:Oper}{a:Act}{w:δ}{K:Act->δ->Prop}
theorem qj8 (x:Operand)(i:Nat)(aX:o.op=.extract x i)(vs:Array ε)(hx:a.eval x=ψ vs)(v:ε)(hv:vs[i]? =Y v)(h:K (a.put o.dst v) w):Oper.wp P o a w K Q:=by unfold Oper.wp;simp[execOp,aX,hx,Instr.extract,hv];exact h
variable {k:Fk}
theorem qm2 {ops:Array Oper}(j d:Nat)(hg:o.guard=Y (j,true))(hj:(ops[j]?).bind (·.dst)=Y d)(hs:d<a.tmps.size)(h:a d V=τ true):Region.wanted o (yielded ops a.tmps)=true:=by
 have h1:a.tmps[d]? =τ true:=by rw[Array.getD_eq_getD_getElem?,Array.getElem?_eq_getElem hs]at h;rw[Array.getElem?_eq_getElem hs];exact congrArg Y h
 unfold Region.wanted;rw[hg];show (yielded ops a.tmps j == Y true)=true;unfold yielded;rw[hj];show ((match a.tmps[d]? with|some (τ b)=>Y b|_=>Z) == Y true)=true;rw[h1];rfl
def qhv (ops:Array Oper)(s:Nat):Bool:=(List.range ops.size).all fun i=>(ops[i]?).bind (·.dst) != Y s
theorem qu {ops:Array Oper}{s:Nat}(h:qhv ops s=true)(i:Nat)(o:Oper)(ho:ops[i]? =Y o):o.dst≠Y s:=fun e=>by have h1:=gE.1 h i (gF.2 (gh.1 ho).1);rw[ho]at h1;simp[e]at h1
end
end Go.Proofs.YtmkpbhaoalbhjaaGreatDoor
namespace Go.Cx
open Go.RowKit
variable {P:Program}{Q:Exit->Act->δ->Prop}{o:Oper}{a:Act}
def qhw (K:Act->δ->Prop):Exit->Act->δ->Prop
 | .normal,a,w=>K a w
 |_,_,_=>False
theorem q7t {K next:Act->δ->Prop}{r:Result Next}(h:o.upon P a next (qhw K) r):o.upon P a next Q r:=by
 cases r with
 |ok n w =>
  cases n
  case value=>exact h
  case skip=>exact h
  case defer=>exact h
  case row=>exact h
  case enter f args =>
   refine Calls.mono h fun e w' he=>?_
   cases e with
   |returned v=>exact he
   |panicked c=>exact he.elim
   |outgrown=>obtain⟨_,_,h⟩:=he;exact h.elim
  all_goals exact h.elim
 |halt x w =>
  cases x
  case panic=>exact h.elim
  all_goals exact h.elim
theorem qfe {wr:δ}{K:Act->δ->Prop}(s x:Operand)(t:TypeId)
  (ho:o.op=.call { callee:=.builtin .append,args:=#[s,x],argTypes:=#[t,t] })
  (base:Nat) (e:TypeId) {z:ε} {size bytes:Nat} (fE:(P.info? e).map (fun i=>(i.zero,i.size,i.bytes))=Y (Y z,size,bytes)) (ht:P.underlying t=Y (.slice e))
  (jJ:z.cells.size=size) (hsz:0<size) (iO:0<bytes)
  (v:ε) (n:Nat) (xs:List ε) (hs:a.eval s=v) (af:wr.ownsRow base e size v n xs)
  (u:ε) (m:Nat) (ys:List ε) (hx:a.eval x=u) (mo:Sl wr size u ys) (hl:ys.length=m*size) (h1:∀u∈ys,u.oneCell'=true)
  (dR:(n+m)*bytes<=140737488355328) (ab:base<=wr)
  (h:∀v' w',w'.ownsRow base e size v' (n+m) (xs++ys)->Below base wr w'->K (a.put o.dst v') w'):Oper.wp P o a wr K Q:=by
 have key:wpList P #[] (qhw K) [{ o with guard:=Z }] a wr :=
  q2f (W:=wr) rfl s x t ho base e fE ht jJ hsz iO v n xs hs af u m ys hx mo hl h1 dR q9 ab fun v' w' r1 _ r3=>h v' w' r1 r3
 unfold wpList at key;split at key
 ·rcases key with key|⟨_,_,_,key⟩
  ·exact q7t key
  ·exact key.elim
 ·rename_i hn;exact absurd rfl hn
end Go.Cx
namespace Go.Proofs.YtmkpbhaoalbhjaaGreatDoor
open Go.RowKit Go.Cx
theorem qku {w w':δ}{r:ε}{f:Int->Int}{N S:Nat}(h:qbv w w' r f N)(hS:∀c,nb (f c)<=S)(hI:∀c,f c≠0->I64 c):(Fk.cf f N S).holds r w':=by
 obtain⟨⟨L,h1,h2,h3,h4⟩,_⟩:=h;refine⟨L,h1,h2,h3,LOk.tok fun p hp=>?_,Sl.qc h4⟩;have e:f p.1=p.2:=by rw[<-h2,zl h1.1 hp]
 exact⟨hI _ (by rw[e];exact h1.2 p hp),by rw[<-e];exact hS _⟩
theorem qhx {F:Nat}{args:Array ε}{w:δ}{f:Int->Int}{N S:Nat}(h:Calls Tryz.prog F args w fun e w'=>∃r,e=.returned r/\qbv w w' r f N)(hS:∀c,nb (f c)<=S)(hI:∀c,f c≠0->I64 c) :
  Calls Tryz.prog F args w (qaj (.cf f N S) w):=h.mono fun _ _ ⟨r,he,hc⟩=>⟨r,he,qku hc hS hI,hc.below⟩
section
variable (v u:ε)(L M:List (Int×Int))(w:δ)(h:(Fk.ch L).holds v w)(k:(Fk.ch M).holds u w)(hL:LOk 8 L)(hM:LOk 8 M)(nL:L.length<=100)(nM:M.length<=100)
include h hL nL
include k hM nM
end
section
variable (z:Int)(v:ε)(L:List (Int×Int))(w:δ)(h:(Fk.ch L).holds v w)(hz:I64 z)(hL:LOk 8 L)(nL:L.length<=100)
include hz hL nL
include h
end
end Go.Proofs.YtmkpbhaoalbhjaaGreatDoor
namespace Go.Proofs.YtmkpbhaoalbhjaaGreatDoor
open Go.RowKit Go.Cx Go.ChangeShapes Go.WideShapes
theorem Tryz.qhy:Tryz.prog.cellsOf 3=1:=by kernel_rfl
theorem wfI {n:Int}(h:(Lit.int φ n).wf=true):I64 n:=by have h1:IntKind.i64.min=-9223372036854775808:=rfl;have h2:IntKind.i64.max=9223372036854775807:=rfl;simp only [Lit.wf,Bool.and_eq_true,decide_eq_true_eq]at h;unfold I64;omega
section
variable {Eq:Type}{enc:TypeId×ε->Eq}{W:δ}
theorem qak {t:TypeId}{fuel:Nat}{v:ε}{x:DataW Eq×List MemPlace}(ht:Tryz.prog.underlying t=Y (.slice 3))(h:DataW.trod enc Tryz.prog W 0 (fun _=>true) true fuel t [v]=Y x):∃l:List Int,Sl W 1 v (ints l)/\∀x∈l,I64 x:=by
 rcases open_ints ht Tryz.underlying3 Tryz.qhy h with ⟨h1,_⟩|⟨a,len,cap,zs,h1,_,hl,hm,hz,_,hc,hw⟩
 ·simp only [List.cons.injEq,and_true]at h1;subst h1;exact⟨[],Sl.nil _ _,fun x hx=>by cases hx⟩
 ·simp only [List.cons.injEq,and_true]at h1;subst h1;simp only [if_true]at hz;refine⟨zs.take len,⟨Y a,len,cap,rfl,hl,by omega,by rw[xl,gD];omega,(fun e=>by cases e),fun ad ha j u hj=>?_⟩,fun x hx=>wfI (hw x (gX hx))⟩;cases ha
  have eV:j<(zs.take len).length:=by
   have:=(gk.1 hj).1
   rwa [xl]at this
  rw[q9r _ _ eV]at hj;cases hj
  rw[gD]at eV;rw[hc j (by omega)];simp[List.getD_eq_getElem?_getD,show j<len by omega]
theorem qnu {base:Nat}{v:ε}{d:DataW Eq}{p:List MemPlace}(hv:Value.okWide Tryz.prog W .any base 3 v)(h:DataW.Trod enc Tryz.prog W 0 (fun _=>true) true 3 v d p):∃z,v=H φ z/\I64 z:=by obtain⟨z,rfl,_,_,wz⟩:=open_int Tryz.underlying3 hv h;exact⟨z,rfl,wfI wz⟩
end
end Go.Proofs.YtmkpbhaoalbhjaaGreatDoor
namespace Go.Proofs.YtmkpbhaoalbhjaaGreatDoor
open Go.RowKit Go.Cx
theorem qr2 {S:Nat}{l:List Tm}(h:TOk S l)(c:Int)(hc:co (prs l) c≠0):I64 c:=by
 rcases Classical.em (∃y∈l,y.c=c)with ⟨y,hy,rfl⟩|fk
 ·have:=h y hy;exact⟨this.1,this.2.1⟩
 ·exact absurd (q0j (prs l) c (fun r hr e=>by obtain⟨y,hy,rfl⟩:=gj.1 hr;exact fk ⟨y,hy,e⟩)) hc
section
variable (v u:ε)(l m:List Tm)(S:Nat)(f:Int->Int)(w:δ)(h:Sl w 3 v (tv l))(k:Sl w 3 u (tv m))(hS:TOk S l)(kS:TOk S m)(hl:l.length<=100)(km:m.length<=100)(hb:S<=100)
include h hS hl hb
include k kS km
end
end Go.Proofs.YtmkpbhaoalbhjaaGreatDoor
namespace Go.Proofs.YtmkpbhaoalbhjaaGreatDoor
open Go.RowKit Go.Cx
theorem qfa {K:List Cl}{p:Int×Sd}(h:p∈z8 K):∃x∈K,x.id=p.1/\p.2∈x.s:=by obtain⟨x,hx,hp⟩:=List.mem_flatMap.1 h;obtain⟨y,hy,rfl⟩:=gj.1 hp;exact⟨x,hx,rfl,hy⟩
theorem qab {K:List Cl}(hK:KOk K){p:Int×Sd}(h:p∈z8 K):I64 p.1/\I64 p.2.c/\I64 p.2.g:=by obtain⟨x,hx,e,hs⟩:=qfa h;have:=hK x hx;exact⟨e ▸ this.1.1,this.2.2 _ hs⟩
section
variable (v u:ε)(K:List Cl)(l:List Tm)(S:Nat)(f:Int->Int)(w:δ)(h:(Fk.cx K).holds v w)(k:Sl w 3 u (tv l))(hK:KOk K)(hS:TOk S l)(hl:l.length<=100)(RZ:S<=100)(hR:(z8 K).length<=500)
include hK hS hl RZ hR
include h k
end
end Go.Proofs.YtmkpbhaoalbhjaaGreatDoor
namespace Go.Cx
open Go.RowKit
def SlI (w:δ)(v:ε)(ls:List (List Int)):Prop :=
 ∃vs:List ε,Sl w 1 v vs/\vs.length=ls.length/\∀(i:Nat) (u:ε) (l:List Int),vs[i]? =Y u->ls[i]? =Y l->Sl w 1 u (ints l)
end Go.Cx
namespace Go.Proofs.YtmkpbhaoalbhjaaGreatDoor
open Go.RowKit Go.Cx
attribute [local go_sem ↓] Go.wp_at_zero Go.wp_at_succ
theorem q65 (l:List Int):∀u∈ints l,u.oneCell'=true:=fun u hu=>by obtain⟨x,_,rfl⟩:=gj.1 hu;rfl
theorem Tryz.q06:(Tryz.prog.info? 23).map (fun i=>(i.zero,i.size,i.bytes))=Y (Y (O Z 0 0),1,24):=by kernel_rfl
end Go.Proofs.YtmkpbhaoalbhjaaGreatDoor
namespace Go.Cx
open Go.RowKit
variable {P:Program}{Q:Exit->Act->δ->Prop}{o:Oper}{a:Act}{w:δ}{K:Act->δ->Prop}
theorem qht (x:Operand)(f:Nat)(cb:Array ε)(xs:Array Operand)(ts:Array TypeId)(aX:o.op=.call { callee:=.value x,args:=xs,argTypes:=ts })(ef:∀args w,(callFunc f args).run P w=.ok (.enter f args) w)
  (hx:a.eval x=.func (.func f) #[] cb) (vs:Array ε) (hv:xs.map a.eval=vs) (h:Calls P f (vs++cb) w fun e w'=>∃v,e=.returned v/\K (a.put o.dst v) w'):Oper.wp P o a w K Q:=by
 subst hv;have key:(execOp a.eval o).run P w=.ok (.enter f (xs.map a.eval++cb)) w:=by generalize a.eval=ρ at hx;simp[execOp,aX,resolve,invoke,hx,ef,Deferred.ofValue]
 unfold Oper.wp;rw[key];exact h.mono fun e w' ⟨v,he,hk⟩=>by subst he;exact hk
end Go.Cx
namespace Go.Proofs.YtmkpbhaoalbhjaaGreatDoor
open Go.RowKit Go.Cx
theorem qss {f:Int->Int}{N S:Nat}{v:ε}{w:δ}(h:(Fk.cf f N S).holds v w)(c:Int):nb (f c)<=S:=by
 obtain⟨L,h1,h2,_,h4,_⟩:=h;rw[<-h2];rcases Classical.em (∃p∈L,p.1=c)with ⟨p,hp,rfl⟩|hn
 ·rw[zl h1.1 hp,<-j5];exact(h4 _ (gj.2 ⟨p,hp,rfl⟩)).2.2
 ·rw[qks fun p hp e=>hn ⟨p,hp,e⟩];simp[q0g]
theorem qnv {f:Int->Int}{N S:Nat}{v:ε}{w:δ}(h:(Fk.cf f N S).holds v w)(c:Int)(hc:f c≠0):I64 c:=by obtain⟨L,h1,h2,_,h4,_⟩:=h;rw[<-h2]at hc;have:=qr2 h4 c;rw[zv]at this;exact this hc
theorem qko {f g:Int->Int}{N S N' S':Nat}{v:ε}{w:δ}(h:(Fk.cf f N S).holds v w)(he:∀c,f c=g c)(hN:N<=N')(hS:S<=S'):(Fk.cf g N' S').holds v w:=by obtain⟨L,h1,h2,h3,h4,h5⟩:=h;exact⟨L,h1,fun c=>(h2 c).trans (he c),gd h3 hN,h4.mono hS,h5⟩
theorem qvh (v u:ε)(K:List Cl)(f g:Int->Int)(N S R T:Nat)(w:δ)(h:(Fk.cx K).holds v w)(k:(Fk.cf f N S).holds u w)(hK:KOk K)(hR:(z8 K).length<=R)(hT:S+8+R<=T)(hb:N+T<=1000000)(hg:∀c,co (bdL f (z8 K)) c=g c) :
  Calls Tryz.prog 117 #[v,u] w (qaj (.cf g R T) w):=by
 have n1:=qss k;obtain⟨x,m,rfl,h3,h4⟩:=h;obtain⟨L,k1,k2,k3,k4,k5⟩:=k;have hc:=q5y x m u (ctm L) S w h3 (hK.cok h4) k5 k4 (by rw[q2q,h4,q4s];omega);rw[q2q,h4,zv,show co L=f from funext k2,show co (bdL f (z8 K))=g from funext hg]at hc;refine(qhx hc (S:=T) (fun c=>?_) (fun c lO=>?_)).mono fun e w' ⟨r,he,hr,hb⟩=>⟨r,he,qko hr (fun _=>rfl) hR (nlr _),hb⟩
 ·rw[<-hg];have h1:=q0y (S+8) (bdL f (z8 K)) (fun p hp=>by obtain⟨q,hq,rfl⟩:=gj.1 hp;have h1:=qc5 (f q.1) q.2.g;have h2:=n1 q.1;have h3:=(qab hK hq).2.2;have h4:=q49 q.2.g h3.1 h3.2;show nb (f q.1*q.2.g)<=_;omega) c
  rw[q5c]at h1;omega
 ·rw[<-hg]at lO;rcases Classical.em (∃p∈bdL f (z8 K),p.1=c)with ⟨p,hp,rfl⟩|hn
  ·obtain⟨q,hq,rfl⟩:=gj.1 hp;exact(qab hK hq).2.1
  ·exact absurd (qks fun p hp e=>hn ⟨p,hp,e⟩) lO
end Go.Proofs.YtmkpbhaoalbhjaaGreatDoor
namespace Go.Cx
open Go.RowKit
variable {P:Program}{ops:Array Oper}{Q:Exit->Act->δ->Prop}
theorem qdc {id:Nat}{a0:Act}{w:δ}(hm:P.follows .mixedOrders=true)(lP:qmk .any ops=true)(An:(Nat->Bool)->Act->δ->Prop)
  (h0:An (fun _=>false) a0 { w with drawn:=w.drawn+1 })
  (dq:∀(i:Nat) (o:Oper),ops[i]? =Y o->∀(l:Nat->Bool) (a:Act) (w':δ),l i=false->(∀j,dep .any ops i j=true->l j=true)->An l a w' →
   Region.wanted o (yielded ops a.tmps)=true/\Oper.wp P o a w' (fun a' w''=>An (fun j=>j == i || l j) a' w'') Q)
  (cZ:∀(l:Nat->Bool) (a:Act) (w':δ),(∀i,i<ops.size->l i=true)->An l a w'->Q .normal a w') :
  (Code.region id ops true).wp P Q a0 w:=by
 have main:∀(fuel:Nat) (listed:Array Bool) (a:Act) (w':δ),listed.size=ops.size->unl ops listed<=fuel->An (fun i=>listed.getD i false) a w'->wpAny P .any ops Q fuel listed a w':=by
  intro fuel;have mE:∀(listed:Array Bool),unl ops listed=0->∀i:Nat,i<ops.size->listed.getD i false=true:=fun listed h0 i hi=>by
   cases hc:listed.getD i false with
   |true=>rfl
   |false =>
    have:i∈(List.range ops.size).filter fun i=>!listed.getD i false:=gS.2 ⟨gF.2 hi,by rw[hc];rfl⟩
    rw[gl h0]at this;cases this
  induction fuel with
  |zero =>intro listed a w' hl hu h;have ao:=mE listed (by omega);refine⟨?_,cZ _ a w' ao h⟩;rw[List.eq_nil_iff_forall_not_mem];intro j hj;obtain⟨h1,o,ho,_⟩:=mem_ready.1 hj;have eV:=(gh.1 ho).1;have h2:=ao j eV;simp[hl,eV]at h1 h2;rw[h1]at h2;cases h2
  |succ fuel ih =>
   intro listed a w' hl hu h;refine⟨fun jS=>?_,fun i hi=>?_⟩
   ·refine cZ _ a w' (fun i hi=>?_) h;show listed.getD i false=true;induction i using Nat.strongRecOn with
    |_ i Dg =>
     cases hc:listed.getD i false with
     |true=>rfl
     |false =>
      exfalso
      obtain⟨o,ho⟩:∃o,ops[i]? =Y o:=⟨_,Array.getElem?_eq_getElem hi⟩
      have cG:i∈Region.ready .any ops listed:=mem_ready.2 ⟨by simpa [hl,hi]using hc,o,ho,fun e he hb=>by
       have h1:=gE.1 lP i (gF.2 hi);rw[ho]at h1;simp only [Option.map_some,Option.getD_some,Array.all_eq_true]at h1;obtain⟨k,hk,rfl⟩:=Array.getElem_of_mem he;have h2:=h1 k hk;rw[hb]at h2;have h3:(o.after[k]).on<i:=by simpa using h2
       exact Dg _ h3 (by omega)⟩
      rw[jS]at cG;cases cG
   ·obtain⟨h1,o,ho,ao⟩:=mem_ready.1 hi;have dT:=(gh.1 ho).1;have B4:listed.getD i false=false:=by simpa [hl,dT]using h1
    obtain⟨hw,fB⟩:=dq i o ho (fun i=>listed.getD i false) a w' B4 (fun j aK=>by
     unfold dep at aK;rw[ho]at aK;simp only [Option.map_some,Option.getD_some,Array.any_eq_true]at aK;obtain⟨k,hk,hb⟩:=aK;simp only [Bool.and_eq_true,beq_iff_eq]at hb;have:=ao _ (Array.getElem_mem hk) hb.1
     rwa [hb.2]at this) h
    unfold wpOp;rw[ho];dsimp only;rw[if_pos hw];refine .inl (Oper.wp_mono (fun a' w'' hx=>?_) fB);have ak:=qdi hl dT B4;refine ih _ _ _ (by simpa using hl) (by omega) ?_;have e:(fun j=>(listed.setIfInBounds i true).getD j false)=fun j=>j == i || listed.getD j false:=funext fun j=>by
     by_cases hj:i=j
     ·subst hj;simp[hl,dT]
     ·have:(j == i)=false:=by simpa using fun e=>hj e.symm
      rw[this,Bool.false_or];simp[hj]
    rw[e];exact hx
 refine wp_region_any hm (main _ _ _ _ (by simp) ?_ ?_)
 ·unfold unl;exact gd (gY _ _) (by simp)
 ·have e:(fun i=>(Array.replicate ops.size false).getD i false)=fun _=>false:=funext fun i=>by simp only [Array.getD_eq_getD_getElem?,Array.getElem?_replicate];split <;> rfl
  rw[e];exact h0
def q6a (ops:Array Oper)(n:Nat):Bool:=(List.range ops.size).all fun i=>match (ops[i]?).bind (·.dst)with
 |none=>true
 |some d=>decide (d<n) && (List.range i).all fun j=>(ops[j]?).bind (·.dst) != Y d
theorem qbq {n:Nat}(h:q6a ops n=true):∀(i:Nat) (o:Oper) (d:Nat),ops[i]? =Y o->o.dst=Y d->d<n/\∀(j:Nat) (oj:Oper),ops[j]? =Y oj->j≠i->oj.dst≠Y d:=by
 have key:∀(i:Nat) (o:Oper) (d:Nat),ops[i]? =Y o->o.dst=Y d->d<n/\∀(j:Nat) (oj:Oper),ops[j]? =Y oj->j<i->oj.dst≠Y d:=fun i o d ho hd=>by have hi:=(gh.1 ho).1;have h1:=gE.1 h i (gF.2 hi);simp only [ho,Option.bind_some,hd,Bool.and_eq_true,decide_eq_true_eq]at h1;obtain⟨h3,h4⟩:=h1;refine⟨h3,fun j oj hj ak=>?_⟩;have:=gE.1 h4 j (gF.2 ak);rw[hj]at this;simpa using this
 intro i o d ho hd;obtain⟨h0,h1⟩:=key i o d ho hd;refine⟨h0,fun j oj hj ah e=>?_⟩;rcases gG j i with ak|B0
 ·exact h1 j oj hj ak e
 ·exact(key j oj d hj e).2 i o ho (by omega) hd
end Go.Cx
namespace Go.Proofs.YtmkpbhaoalbhjaaGreatDoor
open Go.RowKit Go.Cx
attribute [local go_sem ↓] Go.wp_at_zero Go.wp_at_succ
theorem q8z {ops:Array Oper}{a a0:Act}{n:Nat}(hn:a.tmps.size=n)(aO:a.defers=a0.defers)(hb:∀s,(∀(i:Nat) (o:Oper),ops[i]? =Y o->o.dst≠Y s)->a s V=a0 s V):a=⟨((List.range n).map fun i=>if qhv ops i then a0 i V else a i V).toArray,a0.defers⟩:=by
 obtain⟨t,d⟩:=a;simp only at hn aO hb;subst aO
 congr 1
 refine Array.ext (by simp[hn]) fun i h1 h2=>?_
 have e:t[i]=t.getD i undef:=by rw[Array.getD_eq_getD_getElem?,Array.getElem?_eq_getElem h1];rfl
 show t[i]=_;rw[e];simp only [List.getElem_toArray,List.getElem_map,List.getElem_range];by_cases h:qhv ops i=true
 ·rw[if_pos h];exact hb i (qu h)
 ·rw[if_neg h]
theorem qc9 {P:Program}{Q:Exit->Act->δ->Prop}{o:Oper}{a:Act}{w:δ}{K:Act->δ->Prop}(t:Nat)(x y:Operand)(aX:o.op=.indexAddr t x y)(v1 v2:ε)(h1:a.eval x=v1)(h2:a.eval y=v2)(v:ε)(bP:(Instr.indexAt t v1 v2).run P w=.ok v w)(h:K (a.put o.dst v) w):Oper.wp P o a w K Q:=by subst h1 h2;unfold Oper.wp;simp[execOp,aX,bP,Result.andThen];exact h
theorem qe0 (w:δ)(p:Addr)(x:Int)(h1:w p=x):(Instr.loadAt 3 (σ (Y p))).run Tryz.prog w=.ok x w:=by simp[go_sem,h1]
theorem mod_eq (n m:Int)(h1:1<=m):(n.tmod m+m)%m=n%m:=by
 rw[Int.add_emod_right,Int.tmod_eq_emod];split
 ·simp
 ·rw[Int.sub_emod];have:(m.natAbs:Int)%m=0:=by rw[show (m.natAbs:Int)=m by omega,Int.emod_self]
  rw[this,Int.sub_zero,Int.emod_emod,Int.emod_emod]
theorem qub (n m:Int)(w:δ)(h1:1<=m)(h2:m<=1000):Calls Tryz.prog 6 #[n,m] w fun e w'=>e=.returned (n%m:Int)/\Below w w w':=by
 have hm:¬m=0:=by omega
 have h3:=Int.lt_tmod_of_pos n (show 0<m by omega);have h4:=Int.tmod_lt_of_pos n (show 0<m by omega);have he:=mod_eq n m h1;have HE:=lhd he;clear he;go_enter Tryz.func6,Tryz.ntmps6;go_wp2;go_ret;exact⟨by rw[<-HE.out];rfl,q9⟩
end Go.Proofs.YtmkpbhaoalbhjaaGreatDoor
namespace Go.Cx
open Go.RowKit Go.Proofs.YtmkpbhaoalbhjaaGreatDoor
theorem qc8 (h:Int->Int)(a b:List (Int×Sd)):bdL h (a++b)=bdL h a++bdL h b:=by simp[bdL]
theorem q8y (a b:List Cl):z8 (a++b)=z8 a++z8 b:=by simp[z8]
theorem qfh (x:Cl):z8 [x]=x.s.map fun y=>(x.id,y):=by simp[z8]
end Go.Cx
namespace Go.Cx
open Go.RowKit
def Asc (K:List Cl):Prop:=K.Pairwise fun x y=>x.id<y.id
theorem q08 {K:List Cl}(h:Asc K):xb Cl.id K=K:=by
 induction K with
 |nil=>rfl
 |cons x K ih =>
  obtain⟨h1,h2⟩:=gJ.1 h;show x :: (xb Cl.id K).filter _=_;rw[ih h2]
  congr 1
  refine List.filter_eq_self.2 fun y hy=>?_
  have:=h1 y hy;simpa using show ¬y.id=x.id by omega
end Go.Cx
namespace Go.Proofs.YtmkpbhaoalbhjaaGreatDoor
open Go.RowKit Go.Cx
theorem x8 {w:δ}{a p:Addr}{u x:ε}(h:w p=Y x)(ah:p≠a):(w.setCell a u) p=Y x:=by rw[World.cell?_setCell_other _ _ _ _ (fun e=>ah e.symm)];exact h
theorem qi5 {Q:Exit->Act->δ->Prop}{K:Act->δ->Prop}{o:Oper}{a:Act}{w:δ}{t e:TypeId}(x:Operand)(aX:o.op=.call { callee:=.builtin .len,args:=#[x],argTypes:=#[t] })(ht:Tryz.prog.underlying t=Y (.slice e))(ad:Option Addr)(n c:Nat)(hx:a.eval x=O ad n c)(h:K (a.put o.dst (H φ n)) w):Oper.wp Tryz.prog o a w K Q:=by
 unfold Oper.wp;have:(execOp a.eval o).run Tryz.prog w=.ok (.value (H φ n)) w:=by generalize a.eval=ρ at hx;simp[execOp,aX,resolve,invoke,hx,builtin,Builtin.len_,run_underlying ht,goInt,Result.andThen]
 rw[this];exact h
attribute [local go_sem ↓] Go.wp_at_zero Go.wp_at_succ
theorem q5a (L:List (Int×Int))(p:Int×Int)(c:Int):co (L++[p]) c=co L c+if p.1=c then p.2 else 0:=by rw[ji];show _+((if p.1=c then p.2 else 0)+0)=_;rw[bA]
def EW (w:δ)(E N:Nat)(f:Nat->Int):Prop:=∀i,i<N->w ⟨E,i*2,Z⟩=τ (decide (f i<0))/\w ⟨E,i*2+1,Z⟩=ω (mg (f i))/\w.frozen? ⟨E,i*2,Z⟩=false/\w.frozen? ⟨E,i*2+1,Z⟩=false
theorem EW.keep {w w':δ}{B E N:Nat}{f:Nat->Int}(h:EW w E N f)(hb:Below B w w')(hE:E<B):EW w' E N f:=fun i hi =>
 have h:=h i hi
 ⟨(hb.cell (by exact hE)).trans h.1,(hb.cell (by exact hE)).trans h.2.1,(hb.frozen (by exact hE)).trans h.2.2.1,(hb.frozen (by exact hE)).trans h.2.2.2⟩
theorem EW.put {w:δ}{E N:Nat}{f:Nat->Int}(h:EW w E N f)(k:Nat)(x:Int):EW ((w.setCell ⟨E,k*2,Z⟩ (τ (decide (x<0)))).setCell ⟨E,k*2+1,Z⟩ (ω (mg x))) E N (fun i=>if i=k then x else f i):=fun i hi=>by
 obtain⟨h1,h2,h3,h4⟩:=h i hi;refine⟨?_,?_,by simpa [World.frozen?_setCell]using h3,by simpa [World.frozen?_setCell]using h4⟩
 ·dsimp only
  by_cases uz:i=k
  ·subst uz;simp only [↓reduceIte];exact x8 (World.cell?_setCell_same' _ _ _ (by rw[h1];rfl)) (by simp)
  ·simp only [uz,↓reduceIte];exact x8 (x8 h1 (by simp <;> omega)) (by simp <;> omega)
 ·dsimp only
  by_cases uz:i=k
  ·subst uz;simp only [↓reduceIte];exact World.cell?_setCell_same' _ _ _ (by rw[x8 h2 (by simp)];rfl)
  ·simp only [uz,↓reduceIte];exact x8 (x8 h2 (by simp <;> omega)) (by simp <;> omega)
theorem EW.congr {w:δ}{E N:Nat}{f g:Nat->Int}(h:EW w E N f)(Sa:∀i,i<N->f i=g i):EW w E N g:=fun i hi=>by rw[<-Sa i hi];exact h i hi
theorem qt4 (l:List Int)(j:Nat)(u:ε)(h:(wvs l)[j]? =Y u):∃x,l[j / 2]? =Y x/\((j%2=0/\u=τ (decide (x<0)))\/(j%2=1/\u=ω (mg x))):=by
 have hj:j<l.length*2:=by
  have:=(gk.1 h).1
  rwa [q2j]at this
 obtain⟨x,hx⟩:∃x,l[j / 2]? =Y x:=⟨_,gg (by omega)⟩
 obtain⟨e0,e1⟩:=q7p l (j / 2) x hx;refine⟨x,hx,?_⟩;rcases Nat.mod_two_eq_zero_or_one j with hm|hm
 ·rw[show j / 2*2=j by omega,h]at e0;exact .inl ⟨hm,osi e0⟩
 ·rw[show j / 2*2+1=j by omega,h]at e1;exact .inr ⟨hm,osi e1⟩
theorem EW.sl {w:δ}{E N:Nat}{f:Nat->Int}(h:EW w E N f)(hN:N<=1000000):Sl w 2 (O E N N) (wvs ((List.range N).map f)):=by
 refine⟨Y ⟨E,0,Z⟩,N,N,rfl,nlr _,by unfold maxLen;omega,by rw[q2j];simp,fun e=>(by cases e),fun ad bR j u hj=>?_⟩;cases bR
 have eV:j<N*2:=by have:=(gk.1 hj).1;rw[q2j]at this;simpa using this
 obtain⟨x,hx,hu⟩:=qt4 _ j u hj;rw[List.getElem?_map,List.getElem?_range (by omega)]at hx;obtain rfl:f (j / 2)=x:=osi hx;have eX:(E:Addr).add j=⟨E,j,Z⟩:=by simp[Addr.add];intro h;omega
 rw[eX];obtain⟨g1,g2,_⟩:=h (j / 2) (by omega);rcases hu with ⟨hm,rfl⟩|⟨hm,rfl⟩
 ·rw[show (⟨E,j,Z⟩ : Addr)=⟨E,j / 2*2,Z⟩ by congr 1;omega];exact g1
 ·rw[show (⟨E,j,Z⟩ : Addr)=⟨E,j / 2*2+1,Z⟩ by congr 1;omega];exact g2
def wz (n:Nat):Array Value:=madeCells #[τ false,ω ⟨#[]⟩] (n*2)
theorem qq1 (n i:Nat)(h:i<n):(wz n)[i*2]? =τ false/\(wz n)[i*2+1]? =ω ⟨#[]⟩:=by
 unfold wz madeCells;refine⟨?_,?_⟩
 ·rw[Array.getElem?_map,Array.getElem?_range,if_pos (by omega)];simp
 ·rw[Array.getElem?_map,Array.getElem?_range,if_pos (by omega)];simp[show (i*2+1)%2=1 by omega]
theorem EW.new (w:δ)(n:Nat)(t:TypeId):EW (w.alloc (.cells (wz n) t)) w n (fun _=>0):=fun i hi=>by obtain⟨h1,h2⟩:=qq1 n i hi;exact⟨by rw[qd,h1];rfl,by rw[qd,h2,Cx.q8d],jz (heap_alloc_new w _) _,jz (heap_alloc_new w _) _⟩
theorem qqr (n:Nat)(hn:n<=1000000)(w:δ):(Instr.makeSlice 73 (n:Int) (n:Int)).run Tryz.prog w=.ok (O w n n) (w.alloc (.cells (wz n) 110)):=by obtain⟨i,hi,hz⟩:=Option.map_eq_some_iff.1 Tryz.qpw;simp only [Prod.mk.injEq]at hz;have h:=run_make (P:=Tryz.prog) w 73 110 i _ Tryz.underlying73 hi hz.1 φ φ n n (by omega) (Int.le_refl _) (by rw[hz.2.2];omega) (by omega);rw[hz.2.1,Int.toNat_natCast]at h;exact h
structure Kp (E:Nat)(w w':δ):Prop where
 size:w.heap.size<=w'
 cell:∀p u,p.block≠E->w p=Y u->w' p=Y u
 q5d:∀p,p.block≠E->p.block<w.heap.size->w.frozen? p=false->w'.frozen? p=false
theorem Kp.refl (E:Nat)(w:δ):Kp E w w:=⟨nlr _,fun _ _ _ h=>h,fun _ _ _ h=>h⟩
theorem Kp.below {E:Nat}{w w' w'':δ}(h:Kp E w w')(hb:Below w'.heap.size w' w''):Kp E w w'' where
 size:=gd h.size hb.size
 cell p u hp hu:=J hb (h.cell p u hp hu)
 q5d p hp hl hf:=xf hb (gz hl h.size) (h.q5d p hp hl hf)
theorem Kp.set {E:Nat}{w w':δ}(h:Kp E w w')(k:Nat)(u:ε):Kp E w (w'.setCell ⟨E,k,Z⟩ u) where
 size:=by simpa using h.size
 cell p v hp hv:=xe (h.cell p v hp hv) hp
 q5d p hp hl hf:=by simpa [World.frozen?_setCell]using h.q5d p hp hl hf
end Go.Proofs.YtmkpbhaoalbhjaaGreatDoor
namespace Go.Cx
open Go.RowKit
variable {P:Program}{ops:Array Oper}{Q:Exit->Act->δ->Prop}
def reach (ops:Array Oper):Nat->Nat->Nat->Bool
 |0,_,_=>false
 |f+1,k,i=>dep .any ops k i || (List.range ops.size).any fun j=>dep .any ops k j && reach ops f j i
def qq7 (ops:Array Oper)(L f:Nat):Bool:=(List.range ops.size).all fun i=>i == L || reach ops f L i
theorem q1h {l:Nat->Bool}(hc:∀i,l i=true->∀j,dep .any ops i j=true->l j=true):∀(f k i:Nat),reach ops f k i=true->l k=true->l i=true:=by
 intro f;induction f with
 |zero=>intro k i h;cases h
 |succ f ih =>
  intro k i h hk;unfold reach at h;rw[Bool.or_eq_true]at h;rcases h with h|h
  ·exact hc k hk i h
  ·obtain⟨j,_,hj⟩:=List.any_eq_true.1 h;rw[gM]at hj;exact ih _ _ hj.2 (hc k hk _ hj.1)
theorem q8b {o:Oper}{a:Act}{w:δ}{K:Act->δ->Prop}(t:Nat)(x:Operand)(i:Nat)(aX:o.op=.fieldAddr t x i)(v1:ε)(h1:a.eval x=v1)(v:ε)(bP:(Instr.fieldAt t v1 i).run P w=.ok v w)(h:K (a.put o.dst v) w):Oper.wp P o a w K Q:=by subst h1;unfold Oper.wp;simp[execOp,aX,bP,Result.andThen];exact h
theorem ju {o:Oper}{a:Act}{w w':δ}{K:Act->δ->Prop}(t:Nat)(x y:Operand)(aX:o.op=.store t x y)(v1 v2:ε)(h1:a.eval x=v1)(h2:a.eval y=v2)(bP:(Instr.storeAt t v1 v2).run P w=.ok () w')(h:K (a.put o.dst V) w'):Oper.wp P o a w K Q:=by subst h1 h2;unfold Oper.wp;simp[execOp,aX,bP,Result.andThen];exact h
end Go.Cx
namespace Go.Proofs.YtmkpbhaoalbhjaaGreatDoor
open Go.RowKit Go.Cx
attribute [local go_sem ↓] Go.wp_at_zero Go.wp_at_succ
theorem qp4 {P:Program}{s:Code}{Q:Exit->Act->δ->Prop}{a:Act}{w:δ}(h:∀K:Act->δ->Prop,(∀a' w',Q .normal a' w'->K a' w')->s.wp P (Exit.then K Q) a w):s.wp P Q a w :=
 wp_mono (h (fun a w=>Q .normal a w) fun _ _ h=>h) (by intro e a' w' hq;cases e <;> exact hq)
theorem qek {ops:Array Oper}{o:Oper}{a:Act}(j d:Nat)(hg:o.guard=Y (j,false))(hj:(ops[j]?).bind (·.dst)=Y d)(hs:d<a.tmps.size)(h:a d V=τ false):Region.wanted o (yielded ops a.tmps)=true:=by
 have h1:a.tmps[d]? =τ false:=by rw[Array.getD_eq_getD_getElem?,Array.getElem?_eq_getElem hs]at h;rw[Array.getElem?_eq_getElem hs];exact congrArg Y h
 unfold Region.wanted;rw[hg];show (yielded ops a.tmps j == Y false)=true;unfold yielded;rw[hj];show ((match a.tmps[d]? with|some (τ b)=>Y b|_=>Z) == Y false)=true;rw[h1];rfl
structure GR (w:δ)(b P n m:Nat)(R:Nat->Nat)(g:Nat->Nat->Int):Prop where
 ptr:∀i,i<n->w ⟨P,i,Z⟩=O (R i:Nat) m m
 inj:∀i j,i<n->j<n->R i=R j->i=j
 rng:∀i,i<n->b<=R i/\R i<w/\R i≠P
 cel:∀i k,i<n->k<m->w ⟨R i,k,Z⟩=(g i k:Int)/\w.frozen? ⟨R i,k,Z⟩=false
theorem gwf {ops:Array Oper}{o:Oper}{a:Act}(j d:Nat)(h:a d V=τ false)(hs:d<a.tmps.size:=by rw[hsz];decide)(hg:o.guard=Y (j,false):=by exact rfl)(hj:(ops[j]?).bind (·.dst)=Y d:=by exact rfl):Region.wanted o (yielded ops a.tmps)=true:=qek j d hg hj hs h
theorem gwt {ops:Array Oper}{o:Oper}{a:Act}(j d:Nat)(h:a d V=τ true)(hs:d<a.tmps.size:=by rw[hsz];decide)(hg:o.guard=Y (j,true):=by exact rfl)(hj:(ops[j]?).bind (·.dst)=Y d:=by exact rfl):Region.wanted o (yielded ops a.tmps)=true:=qm2 j d hg hj hs h
theorem GR.keep {w w':δ}{b P n m:Nat}{R:Nat->Nat}{g:Nat->Nat->Int}(h:GR w b P n m R g)(hb:Below w w w'):GR w' b P n m R g where
 ptr i hi:=J hb (h.ptr i hi)
 inj:=h.inj
 rng i hi:=⟨(h.rng i hi).1,gz (h.rng i hi).2.1 hb.size,(h.rng i hi).2.2⟩
 cel i k hi hk:=⟨J hb (h.cel i k hi hk).1,xf hb (h.rng i hi).2.1 (h.cel i k hi hk).2⟩
theorem GR.put {w:δ}{b P n m:Nat}{R:Nat->Nat}{g:Nat->Nat->Int}(h:GR w b P n m R g){i0 k0:Nat}(zH:i0<n)(rA:k0<m)(x:Int):GR (w.setCell ⟨R i0,k0,Z⟩ x) b P n m R (fun i k=>if i=i0/\k=k0 then x else g i k) where
 ptr i hi:=xe (h.ptr i hi) (fun e=>(h.rng i0 zH).2.2 e.symm)
 inj:=h.inj
 rng i hi:=by simpa using h.rng i hi
 cel i k hi hk:=by
  refine⟨?_,by simpa [World.frozen?_setCell]using (h.cel i k hi hk).2⟩;by_cases he:i=i0/\k=k0
  ·obtain⟨rfl,rfl⟩:=he;simp only [and_self,↓reduceIte];exact World.cell?_setCell_same' _ _ _ (by rw[(h.cel i k hi hk).1];rfl)
  ·simp only [he,↓reduceIte];refine x8 (h.cel i k hi hk).1 fun e=>he ?_
   injection e with e1 e2
   exact⟨h.inj _ _ hi zH e1,e2⟩
theorem GR.sli {w:δ}{b P n m:Nat}{R:Nat->Nat}{g:Nat->Nat->Int}(h:GR w b P n m R g)(hn:n<=1000000)(hm:m<=1000000):SlI w (O P n n) ((List.range n).map fun i=>(List.range m).map (g i)):=by
 have eX:∀(E j:Nat),(E:Addr).add j=⟨E,j,Z⟩:=fun E j=>by simp[Addr.add];intro h;omega
 refine⟨(List.range n).map fun i=>O (R i:Nat) m m,⟨Y ⟨P,0,Z⟩,n,n,rfl,nlr _,by unfold maxLen;omega,by simp,fun e=>(by cases e),fun ad bR j u hj=>?_⟩,by simp,fun i u l hu hl=>?_⟩
 ·cases bR
  have ly:j<n:=by have:=(gk.1 hj).1;simpa using this
  rw[List.getElem?_map,List.getElem?_range ly]at hj;rw[eX,h.ptr j ly];exact hj
 ·have eN:i<n:=by have:=(gk.1 hu).1;simpa using this
  rw[List.getElem?_map,List.getElem?_range eN]at hu hl;obtain rfl:=osi hu;obtain rfl:=osi hl;refine⟨Y ⟨R i,0,Z⟩,m,m,rfl,nlr _,by unfold maxLen;omega,by rw[xl];simp,fun e=>(by cases e),fun ad bR j u hj=>?_⟩;cases bR
  have cj:j<m:=by have:=(gk.1 hj).1;rw[xl]at this;simpa using this
  rw[q9r _ _ (by simpa using cj)]at hj;rw[eX,(h.cel i j eN cj).1];simpa [List.getD_eq_getElem?_getD,cj]using hj
theorem qi6 (z:ε)(n i:Nat)(h:i<n):(madeCells #[z] n)[i]? =Y z:=by unfold madeCells;rw[Array.getElem?_map,Array.getElem?_range,if_pos h];simp[show i%1=0 by omega]
theorem qp7 (n:Nat)(hn:n<=1000000)(w:δ):(Instr.makeSlice 23 (n:Int) (n:Int)).run Tryz.prog w=.ok (O w n n) (w.alloc (.cells (madeCells #[H φ 0] n) 3)) :=
 run_make_row' 23 3 _ 8 Tryz.underlying23 Tryz.xg rfl φ φ n (by omega) (by omega) w
theorem quc (n:Nat)(hn:n<=1000000)(w:δ):(Instr.makeSlice 117 (n:Int) (n:Int)).run Tryz.prog w=.ok (O w n n) (w.alloc (.cells (madeCells #[O Z 0 0] n) 23)) :=
 run_make_row' 117 23 _ 24 Tryz.underlying117 Tryz.q06 rfl φ φ n (by omega) (by omega) w
def se (s:List Sd)(r:Int):Int:=co (s.map fun y=>(y.c,y.g)) r
theorem qr3 (s:List Sd)(y:Sd)(r:Int):se (s++[y]) r=se s r+if y.c=r then y.g else 0:=by unfold se;rw[gW];exact q5a _ (y.c,y.g) r
theorem qnw (s:List Sd)(r:Int)(h:∀y∈s,y.g=1\/y.g=-1):(se s r).natAbs<=s.length:=by
 induction s with
 |nil=>simp[se,co]
 |cons y s ih =>
  have h1:=ih fun z hz=>h z (bm _ hz)
  have h2:=h y (bg ..);have e:se (y :: s) r=(if y.c=r then y.g else 0)+se s r:=rfl;rw[e,gV];split <;> omega
theorem GR.grow {w:δ}{b P j m:Nat}{R:Nat->Nat}(h:GR w b P j m R (fun _ _=>0))(hb:b<=w)(hP:P<w){u:ε}(hu:w ⟨P,j,Z⟩=Y u)(t:TypeId) :
  GR ((w.setCell ⟨P,j,Z⟩ (O w m m)).alloc (.cells (madeCells #[H φ 0] m) t)) b P (j+1) m (fun i=>if i=j then w else R i) (fun _ _=>0) where
 ptr i hi:=by
  by_cases iu:i=j
  ·subst iu;simp only [↓reduceIte];exact qk (World.cell?_setCell_same' _ _ _ (by rw[hu];rfl)) _
  ·simp only [iu,↓reduceIte];exact qk (x8 (h.ptr i (by omega)) (by simp <;> omega)) _
 inj i k hi hk he:=by
  have h1:=fun i (hi:i<j)=>(h.rng i hi).2.1
  by_cases iu:i=j <;> by_cases wT:k=j
  ·omega
  ·simp only [iu,wT,↓reduceIte]at he;have:=h1 k (by omega);omega
  ·simp only [iu,wT,↓reduceIte]at he;have:=h1 i (by omega);omega
  ·simp only [iu,wT,↓reduceIte]at he;exact h.inj i k (by omega) (by omega) he
 rng i hi:=by
  by_cases iu:i=j
  ·simp only [iu,↓reduceIte];exact⟨hb,by simp,by omega⟩
  ·simp only [iu,↓reduceIte];have:=h.rng i (by omega);exact⟨this.1,by simp;omega,this.2.2⟩
 cel i k hi hk:=by
  by_cases iu:i=j
  ·simp only [iu,↓reduceIte];have h1:=qd (w.setCell ⟨P,j,Z⟩ (O w m m)) (madeCells #[H φ 0] m) t (0,0) k;have h2:=jz (heap_alloc_new (w.setCell ⟨P,j,Z⟩ (O w m m)) (.cells (madeCells #[H φ 0] m) t)) k;rw[World.size_setCell]at h1 h2;exact⟨h1.trans (qi6 _ _ _ hk),h2⟩
  ·simp only [iu,↓reduceIte];obtain⟨g1,g2⟩:=h.cel i k (by omega) hk;have hr:=h.rng i (by omega);refine⟨qk (xe g1 hr.2.2) _,?_⟩;exact xf ((Below.refl _ (w.setCell ⟨P,j,Z⟩ (O w m m))).alloc (nlr _) _) (by simpa using hr.2.1) (by simpa [World.frozen?_setCell]using g2)
def q1q (f:Int->Int)(r:Int):List Cl->Int
 |[]=>0
 |x :: K=>f x.id*se x.s r+q1q f r K
theorem ql0 (f:Int->Int)(r:Int)(x:Cl):co (bdL f (x.s.map fun y=>(x.id,y))) r=f x.id*se x.s r:=by
 generalize x.s=s;induction s with
 |nil=>show (0:Int)=f x.id*0;rw[Int.mul_zero]
 |cons y s ih =>show (if y.c=r then f x.id*y.g else 0)+co (bdL f (s.map fun y=>(x.id,y))) r=f x.id*((if y.c=r then y.g else 0)+se s r);rw[ih,Int.mul_add];split <;> simp
theorem q5f (f:Int->Int)(r:Int)(K:List Cl):co (bdL f (z8 K)) r=q1q f r K:=by
 induction K with
 |nil=>rfl
 |cons x K ih =>rw[show x :: K=[x]++K from rfl,q8y,qc8,ji,ih,qfh,ql0];rfl
theorem q6c {K:List Cl}(h:Asc K){x y:Cl}(hx:x∈K)(hy:y∈K)(he:x.id=y.id):x=y:=by
 induction K with
 |nil=>cases hx
 |cons z K ih =>
  obtain⟨h1,h2⟩:=gJ.1 h;rcases gH.1 hx with hx|hx <;> rcases gH.1 hy with hy|hy
  ·rw[hx,hy]
  ·have:=h1 y hy;rw[<-hx]at this;omega
  ·have:=h1 x hx;rw[<-hy]at this;omega
  ·exact ih h2 hx hy
end Go.Proofs.YtmkpbhaoalbhjaaGreatDoor
namespace Go.Cx
def cAt (K:List Cl)(c:Int):Option Cl:=(cellsOf K).find? fun x=>x.id == c
def xq (T:Int->Option Cl)(x:Cl)(i:Nat):Bool :=
 match x.s[i]? with
 |none=>false
 |some s=>(match T s.c with
  |none=>true
  |some y=>y.dim != x.dim-1) || (decide (0<i) && (match x.s[i-1]? with
  |some r=>r.c == s.c
  |none=>false))
def xx (T:Int->Option Cl)(x:Cl):Int :=
 if x.dim<0\/8<x.dim then 21
 else if (x.dim=0/\0<x.s.length)\/(x.dim=1/\x.s.length≠2)\/(1<x.dim/\(x.s.length<2\/64<x.s.length))then 22
 else if (List.range x.s.length).any (xq T x)=true then 22
 else if x.s.any (fun s=>s.g != 1 && s.g != -1)=true then 23
 else if x.dim=1/\(x.s.map Sd.g).sum≠0 then 23
 else 0
def occ (T:Int->Option Cl)(x:Cl):List (Int×Nat×Int) :=
 (List.range x.s.length).flatMap fun i=>match x.s[i]? with
  |none=>[]
  |some s=>match T s.c with
   |none=>[]
   |some y=>y.s.map fun r=>(r.c,i,s.g*r.g)
def occAt (o:List (Int×Nat×Int))(c:Int):List (Int×Nat×Int):=o.filter fun p=>p.1 == c
def adj (o:List (Int×Nat×Int))(i j:Nat):Prop:=∃c g h,(c,i,g)∈o/\(c,j,h)∈o
open Classical in
noncomputable def xv (T:Int->Option Cl) (x:Cl):Int :=
 if ∃p∈occ T x,((occAt (occ T x) p.1).map fun q=>q.2.2).sum≠0 then 24
 else if ∃p∈occ T x,(occAt (occ T x) p.1).length≠2 then 25
 else if ∀i<x.s.length,i=0\/Relation.TransGen (adj (occ T x)) 0 i then 0
 else 25
def q0a (T:Int->Option Cl):Int->List Cl->Option (Int×Int)
 |_,[]=>Z
 |last,x :: l=>if x.id<=last then Y (x.id,20)else if xx T x≠0 then Y (x.id,xx T x)else q0a T x.id l
def chk (K:List Cl):Int×Int :=
 if 8<K.length\/K.any (fun x=>decide (1<x.dim))=true then (0,2)
 else (q0a (cAt K) 0 (canon K)).getD (0,0)
theorem sum_cons (a:Int)(l:List Int):(a :: l).sum=a+l.sum:=bH
theorem qfi (l:List Sd)(h:∀s∈l,s.g=1\/s.g=-1) : -(l.length:Int)<=(l.map Sd.g).sum/\(l.map Sd.g).sum<=l.length:=by
 induction l with
 |nil=>simp
 |cons a l ih =>
  have h1:=ih fun s hs=>h s (bm _ hs)
  have h2:=h a bg;rw[bx,sum_cons,gV];omega
theorem q1i {T:Int->Option Cl}{l:List Cl} : ∀ {last:Int} {e:Int×Int},q0a T last l=Y e->e.2≠0:=by
 induction l with
 |nil=>intro last e h;cases h
 |cons x l ih =>
  intro last e h;unfold q0a at h;split at h
  ·cases h;exact by show (20:Int)≠0;decide
  ·split at h
   ·rename_i h1;cases h;exact h1
   ·exact ih h
theorem q4f {T:Int->Option Cl}{l:List Cl} : ∀ {last:Int},q0a T last l=Z->(∀x∈l,last<x.id/\xx T x=0)/\l.Pairwise fun x y=>x.id<y.id:=by
 induction l with
 |nil=>intro last _;exact⟨fun x hx=>(gP hx).elim,.nil⟩
 |cons x l ih =>
  intro last h;unfold q0a at h;split at h
  ·cases h
  ·rename_i h0;split at h
   ·cases h
   ·rename_i h1;obtain⟨h2,h3⟩:=ih h;refine⟨fun y hy=>?_,.cons (fun y hy=>(h2 y hy).1) h3⟩;rcases gH.1 hy with rfl|hy
    ·exact⟨by omega,Classical.not_not.1 h1⟩
    ·exact⟨by have:=(h2 y hy).1;omega,(h2 y hy).2⟩
theorem qhu {K:List Cl}(h:chk K=(0,0)):K.length<=8/\((canon K).Pairwise fun x y=>x.id<y.id)/\∀x∈canon K,0<x.id/\xx (cAt K) x=0/\x.dim<=1:=by
 unfold chk at h;split at h
 ·cases h
 rename_i h4;have hd:∀x∈canon K,x.dim<=1:=fun x hx=>by unfold canon at hx;obtain⟨y,hy,rfl⟩:=gj.1 hx;apply gN;intro hn;exact h4 (.inr (List.any_eq_true.2 ⟨y,(q2m _ _).1 hy,decide_eq_true (Int.not_le.1 hn)⟩))
 cases hc:q0a (cAt K) 0 (canon K)with
 |some e =>have h1:=q1i hc;rw[hc]at h;have h:e=(0,0):=h;rw[h]at h1;exact absurd rfl h1
 |none =>obtain⟨h1,h2⟩:=q4f hc;exact⟨Nat.le_of_not_lt fun h=>h4 (.inl h),h2,fun x hx=>⟨(h1 x hx).1,(h1 x hx).2,hd x hx⟩⟩
theorem ql2 {T:Int->Option Cl}{l:List Cl} : ∀ {last:Int},(∀x∈l,last<x.id/\xx T x=0)->(l.Pairwise fun x y=>x.id<y.id)->q0a T last l=none:=by
 induction l with
 |nil=>intro last _ _;rfl
 |cons x l ih =>intro last h hp;have h1:=h x bg;unfold q0a;rw[if_neg (by omega),if_neg (by rw[h1.2];simp)];have hp:=gJ.1 hp;exact ih (fun y hy=>⟨hp.1 y hy,(h y (bm _ hy)).2⟩) hp.2
def q6b (R:Int->Int->Prop)(z:Int)(S S':Int->Prop):Prop:=(∀b,S b->S' b)/\∀b,S' b->¬S b->b≠z/\∀c,R b c->S' c
theorem q6b.refl (R:Int->Int->Prop)(z:Int)(S:Int->Prop):q6b R z S S:=⟨fun _ h=>h,fun _ h hn=>absurd h hn⟩
theorem q6b.visit {R:Int->Int->Prop}{z n:Int}{S0 S S1 S2:Int->Prop}(h:q6b R z S0 S)(h1:∀b,S1 b↔b=n\/S b)(hz:n≠z)(h2:q6b R z S1 S2)(hn:∀c,R n c->S2 c):q6b R z S0 S2:=by
 refine⟨fun b hb=>h2.1 b ((h1 b).2 (.inr (h.1 b hb))),fun b hb dS=>?_⟩;by_cases ae:S1 b
 ·rcases (h1 b).1 ae with rfl|Sb
  ·exact⟨hz,hn⟩
  ·obtain⟨h3,h4⟩:=h.2 b Sb dS;exact⟨h3,fun c hc=>h2.1 c ((h1 c).2 (.inr (h4 c hc)))⟩
 ·exact h2.2 b hb ae
theorem q6b.reach {R:Int->Int->Prop}{z:Int}{S0 S:Int->Prop}(h0:∀b,¬S0 b)(h:q6b R z S0 S){a:Int}(ha:S a){c:Int}(hc:Relation.TransGen R a c):S c:=by
 induction hc with
 |single h1=>exact(h.2 _ ha (h0 _)).2 _ h1
 |tail _ h1 ih=>exact(h.2 _ ih (h0 _)).2 _ h1
end Go.Cx
namespace Go.Cx
open Go.Proofs.YtmkpbhaoalbhjaaGreatDoor
theorem q1j {K:List Cl}(h:Asc K)(hs:∀x∈K,Srt Sd.c x.s):canon K=K:=by
 unfold canon;rw[qh8 (h.imp fun {x y} hxy=>by omega)]
 conv=>rhs;rw[<-List.map_id K]
 refine List.map_congr_left fun x hx=>?_
 show (⟨x.id,x.dim,stb Sd.c x.s⟩ : Cl)=x;rw[qh8 (hs x hx)]
theorem qar {K:List Cl}(h:Asc K){x:Cl}(hx:x∈K):K.find? (fun y=>y.id == x.id)=Y x:=by
 cases hf:K.find? (fun y=>y.id == x.id)with
 |none=>have:=List.find?_eq_none.1 hf x hx;simp at this
 |some y =>have h1:=List.find?_some hf;rw[q6c h (gR hf) hx (by simpa using h1)]
variable {A:List (List Int)}
theorem qic {l m:List Int}(h:l.Perm m):l.sum=m.sum:=by
 induction h with
 |nil=>rfl
 |cons x _ ih=>rw[bH,bH,ih]
 |swap x y l=>simp only [List.sum_cons];omega
 |trans _ _ Sc CR=>exact Sc.trans CR
end Go.Cx
namespace Go.Cx
open Go.Proofs.YtmkpbhaoalbhjaaGreatDoor
def sgO (l:List Sd)(c:Int):Option Int:=(l.reverse.find? fun s=>s.c == c).map Sd.g
def sgL (l:List Sd)(c:Int):Int:=(sgO l c).getD 0
theorem qe3 {l:List Sd}{c g:Int}(h:sgO l c=Y g):∃s∈l,s.c=c/\s.g=g:=by unfold sgO at h;obtain⟨s,hs,rfl⟩:=Option.map_eq_some_iff.1 h;exact⟨s,by simpa using gR hs,by simpa using List.find?_some hs,rfl⟩
def zq (K:List Cl)(c:Int):List Sd:=((K.find? fun x=>x.id == c).map Cl.s).getD []
theorem q0b {K:List Cl}(h:Asc K){x:Cl}(hx:x∈K):zq K x.id=x.s:=by unfold zq;rw[qar h hx];rfl
def qw (c x:Int):Int->Int:=fun d=>if d=c then x else 0
section
variable {K:List Cl}{hi lo:Int->Int}{c x:Int}{l:List Int}
end
end Go.Cx
namespace Go.Cx
open Go.RowKit Go.Maps
structure Gs (S:Nat->Prop)(w w':δ):Prop where
 os:w'.os=w.os
 tape:w'.tape=w.tape
 output:w'.output=w.output
 size:w.heap.size<=w'
 blk:∀b,b<w.heap.size->¬S b->w'.heap[b]? =w.heap[b]?
section
variable {S S':Nat->Prop}{w w' w'':δ}
theorem Gs.refl (S:Nat->Prop)(w:δ):Gs S w w:=⟨rfl,rfl,rfl,nlr _,fun _ _ _=>rfl⟩
theorem Gs.trans (h:Gs S w w')(k:Gs S w' w''):Gs S w w'' :=
 ⟨k.os.trans h.os,k.tape.trans h.tape,k.output.trans h.output,gd h.size k.size,fun b hb hs=>(k.blk b (gz hb h.size) hs).trans (h.blk b hb hs)⟩
theorem Gs.xh (h:Below w.heap.size w w'):Gs S w w':=⟨h.os,h.tape,h.output,h.size,fun b hb _=>h.block b hb⟩
theorem Gs.q6i {row:Option Nat}(h:w.grownBy w' row)(hr:∀k,row=Y k->w.heap.size<=k\/S k):Gs S w w' :=
 ⟨h.os,h.tape,h.output,h.size,fun b hb hs=>h.block b hb fun e=>(hr b e.symm).elim (fun h=>by omega) hs⟩
theorem Gs.cell (h:Gs S w w'){p:Addr}{u:ε}(hs:¬S p.block)(hu:w.cell? p=Y u):w'.cell? p=Y u:=by rw[World.cell?_of_block (h.blk p.block (World.block_lt_of_cell? w _ hu) hs)];exact hu
end
end Go.Cx
namespace Go.Proofs.YtmkpbhaoalbhjaaGreatDoor
open Go.RowKit Go.Cx
theorem q40 (w:δ):(zeroValue 3).run Tryz.prog w=.ok (H φ 0) w:=Tryz.zeroValue3 w
theorem yx {c:Int}(h:I64 c):keyOf Tryz.prog 3 (.int .i64 c)=some (.int .i64 c):=q0k (P:=Tryz.prog) (k:=3) Tryz.underlying3 h.1 h.2
def MpI (w:δ)(b n:Nat)(h:Int->Int):Prop:=∃g,Mp Tryz.prog 3 w b n g/\∀c,(g c).getD (H φ 0)=(h c:Int)
section
variable {w w':δ}{b n:Nat}{h:Int->Int}{s:Int->Bool}{S:Nat->Prop}
theorem MpI.look (m:MpI w b n h){c:Int}(hc:I64 c):(Instr.lookup 157 (.map (some b)) (.int .i64 c) false).run Tryz.prog w=.ok (.int .i64 (h c)) w:=by
 obtain⟨g,h1,h2⟩:=m;have:=h1.look Tryz.underlying3 Tryz.underlying157 (q40 w) (yx hc)
 rwa [h2 c]at this
end
section
variable {w w':δ}{T BS BH BL n c:Nat}{nb:Int->Nat}{a:Option Addr}{m:List Ce}
end
end Go.Proofs.YtmkpbhaoalbhjaaGreatDoor
namespace Go.Cx
open Go.RowKit Go.Maps
theorem Gs.grown {S:Nat->Prop}{w w' w'':δ}{row:Option Nat}(h:Gs S w w')(g:w'.grownBy w'' row)(hr:∀k,row=Y k->w.heap.size<=k\/S k):Gs S w w'' :=
 ⟨g.os.trans h.os,g.tape.trans h.tape,g.output.trans h.output,gd h.size g.size,fun b hb hs=>(g.block b (gz hb h.size) fun e=>(hr b e.symm).elim (fun h=>by omega) hs).trans (h.blk b hb hs)⟩
def mu (U:List Int)(s:Int->Bool):Nat:=(U.filter fun c=>!s c).length
theorem qe7 {U:List Int}{s:Int->Bool}{c:Int}(hc:c∈U)(hs:s c=false):mu U (fun d=>if d=c then true else s d)<mu U s:=by
 unfold mu;have h1:(U.filter fun d=>!(if d=c then true else s d))=(U.filter fun d=>!s d).filter fun d=>!(d == c):=by
  rw[List.filter_filter];refine List.filter_congr fun d _=>?_
  by_cases h:d=c
  ·simp[h]
  ·simp[h]
 rw[h1];exact List.length_filter_lt_length_iff_exists.2 ⟨c,gS.2 ⟨hc,by rw[hs];rfl⟩,by simp⟩
theorem qe8 {U:List Int}{s s':Int->Bool}(h:∀c,s c=true->s' c=true):mu U s'<=mu U s:=by
 induction U with
 |nil=>exact nlr _
 |cons a U ih =>
  unfold mu at ih ⊢;rw[List.filter_cons,List.filter_cons];cases h1:s a with
  |true=>rw[h a h1];exact ih
  |false =>
   cases s' a with
   |true=>show _<=_+1;exact Nat.le_succ_of_le ih
   |false=>exact Nat.succ_le_succ ih
end Go.Cx
namespace Go.Proofs.YtmkpbhaoalbhjaaGreatDoor
open Go.RowKit Go.Cx
attribute [local go_sem ↓] Go.wp_at_zero Go.wp_at_succ
def q2s {α:Type}(L:List α)(f:α->Bool)(i:Int):Prop:=(i=-1/\∀t∈L,f t=false)\/∃(k:Nat) (t:α),i=k/\L[k]? =Y t/\f t=true/\∀u∈L.take k,f u=false
theorem q2s.any {α:Type}{L:List α}{f:α->Bool}{i:Int}(h:q2s L f i):decide (0<=i)=L.any f:=by
 rcases h with ⟨rfl,h⟩|⟨k,t,rfl,hk,ht,_⟩
 ·rw[List.any_eq_false.2 (fun t ht=>by rw[h t ht];simp)];rfl
 ·rw[List.any_eq_true.2 ⟨t,gi hk,ht⟩];simp
theorem qii (v:ε)(L:List Tm)(g:Nat)(cb:Array ε)(f:Tm->Bool)(w:δ)(h:Sl w 3 v (tv L))
  (eg:∀args w,(callFunc g args).run Tryz.prog w=.ok (.enter g args) w) (hf:∀W,Below w w W->∀t∈L,Calls Tryz.prog g (#[Tm.v t]++cb) W fun e w'=>e=.returned (τ (f t))/\Below W W w') :
  Calls Tryz.prog 162 #[v,.func (.func g) #[] cb] w fun e w'=>∃i:Int,e=.returned i/\q2s L f i/\Below w w w':=by
 obtain⟨a,len,cap,rfl,h1,h2,h3,h4,h5⟩:=h;unfold maxLen at h2;rw[q8u]at h3;have hl:L.length=len:=by omega
 clear h3;have Hl:=lhd hl;clear hl;have H4:=lhd h4;clear h4;have H5:=lhd h5;clear h5;have HF:=lhd hf;clear hf;go_enter Tryz.func162,Tryz.ntmps162;go_wp2;go_loopw [5,8] (fun _ i wr=>∃k:Nat,i=k/\k<=len/\Hid (∀t∈L.take k,f t=false)/\Below w w wr) (fun _ i _=>len-(vI i).toNat)
 case atStart=>exact⟨0,rfl,gm _,(lhd (fun t ht=>by simp at ht)),q9⟩
 case round =>
  obtain⟨k,rfl,hk,HN,hB⟩:=hrel;by_cases ak:k<len
  ·obtain⟨ad,rfl⟩:=sadq H4.out (by omega)
   obtain⟨t,ht⟩:∃t,L[k]? =Y t:=⟨_,gg (by rw[Hl.out];exact ak)⟩
   obtain⟨e0,e1,e2⟩:=jd L k _ ht;have d0:wr (ad.add (k*3))=t.c:=keep hB (H5.out ad rfl _ _ e0);have d1:wr ⟨(ad.add (k*3)).block,(ad.add (k*3)).off+1,Z⟩=τ t.n:=by rw[qi _ _ _ (by omega)];exact keep hB (H5.out ad rfl _ _ e1)
   have d2:wr ⟨(ad.add (k*3)).block,(ad.add (k*3)).off+2,Z⟩=ω t.m:=by rw[qi _ _ _ (by omega)];exact keep hB (H5.out ad rfl _ _ e2)
   have aq:=HF.out wr hB t (gi ht);have HC:=lhd aq;have HT:=lhd ht;clear e0 e1 e2 ht aq;go_wp2_with fail;refine HC.out.mono ?_;rintro e w2 ⟨rfl,aj⟩;by_cases o7:f t=true
   ·have rh:=lhd o7;rw[o7];go_wp2;go_ret;exact⟨k,rfl,.inr ⟨k,t,rfl,HT.out,rh.out,HN.out⟩,(btr hB aj)⟩
   ·have oS:f t=false:=by simpa using o7
    have rh:=lhd oS;rw[oS];clear o7 oS;go_wp2;go_roundw
    case measure=>simp[vI];omega
    case rel =>
     refine⟨k+1,qh (by omega),by omega,(lhd (fun u hu=>?_)),(btr hB aj)⟩;rw[gC,HT.out]at hu;rcases gO.1 hu with hu|hu
     ·exact HN.out u hu
     ·simp at hu;rw[hu];exact rh.out
  ·have aM:k=len:=by omega
   have qW:=lhd aM;clear aM;go_wp2;go_ret;refine⟨-1,rfl,.inl ⟨rfl,?_⟩,hB⟩;have hn:=HN.out;rw[gr (by rw[Hl.out,qW.out];exact nlr _)]at hn;exact hn
theorem qo0 (v:ε)(L:List Int)(g:Nat)(cb:Array ε)(f:Int->Bool)(w:δ)(h:Sl w 1 v (ints L))
  (eg:∀args w,(callFunc g args).run Tryz.prog w=.ok (.enter g args) w) (hf:∀W,Below w.heap.size w W->∀t∈L,Calls Tryz.prog g (#[H φ t]++cb) W fun e w'=>e=.returned (τ (f t))/\Below W.heap.size W w') :
  Calls Tryz.prog 85 #[v,.func (.func g) #[] cb] w fun e w'=>∃i:Int,e=.returned i/\q2s L f i/\Below w w w':=by
 obtain⟨a,len,cap,rfl,h1,h2,h3,h4,h5⟩:=h;unfold maxLen at h2;rw[xl]at h3;have hl:L.length=len:=by omega
 clear h3;have Hl:=lhd hl;clear hl;have H4:=lhd h4;clear h4;have H5:=lhd h5;clear h5;have HF:=lhd hf;clear hf;go_enter Tryz.func85,Tryz.ntmps85;go_wp2;go_loopw [5,8] (fun _ i wr=>∃k:Nat,i=k/\k<=len/\Hid (∀t∈L.take k,f t=false)/\Below w w wr) (fun _ i _=>len-(vI i).toNat)
 case atStart=>exact⟨0,rfl,gm _,(lhd (fun t ht=>by simp at ht)),q9⟩
 case round =>
  obtain⟨k,rfl,hk,HN,hB⟩:=hrel;by_cases ak:k<len
  ·obtain⟨ad,rfl⟩:=sadq H4.out (by omega)
   obtain⟨t,ht⟩:∃t,L[k]? =Y t:=⟨_,gg (by rw[Hl.out];exact ak)⟩
   have e0:(ints L)[k]? =t:=by simp[ints,ht]
   have d0:wr (ad.add k)=t:=keep hB (H5.out ad rfl _ _ e0);have aq:=HF.out wr hB t (gi ht);have HC:=lhd aq;have HT:=lhd ht;clear e0 ht aq;go_wp2_with fail;refine HC.out.mono ?_;rintro e w2 ⟨rfl,aj⟩;by_cases o7:f t=true
   ·have rh:=lhd o7;rw[o7];go_wp2;go_ret;exact⟨k,rfl,.inr ⟨k,t,rfl,HT.out,rh.out,HN.out⟩,(btr hB aj)⟩
   ·have oS:f t=false:=by simpa using o7
    have rh:=lhd oS;rw[oS];clear o7 oS;go_wp2;go_roundw
    case measure=>simp[vI];omega
    case rel =>
     refine⟨k+1,qh (by omega),by omega,(lhd (fun u hu=>?_)),(btr hB aj)⟩;rw[gC,HT.out]at hu;rcases gO.1 hu with hu|hu
     ·exact HN.out u hu
     ·simp at hu;rw[hu];exact rh.out
  ·have aM:k=len:=by omega
   have qW:=lhd aM;clear aM;go_wp2;go_ret;refine⟨-1,rfl,.inl ⟨rfl,?_⟩,hB⟩;have hn:=HN.out;rw[gr (by rw[Hl.out,qW.out];exact nlr _)]at hn;exact hn
end Go.Proofs.YtmkpbhaoalbhjaaGreatDoor
namespace Go.Cx
open Go.RowKit
def Apr (u v:ε):Prop:=∀b,u.ownBlock=Y b->v.ownBlock≠Y b
theorem qji {w:δ}{base st n:Nat}{e:TypeId}{v:ε}{xs:List ε}(h:w.ownsRow base e st v n xs){a:Addr}(ah:∀b,v.ownBlock=Y b->b≠a.block)(u:ε):(w.setCell a u).ownsRow base e st v n xs:=by
 obtain⟨h1,h2⟩:=h;refine⟨h1,?_⟩;rcases h2 with h2|⟨g,cap,cur,rfl,hg,hh,r⟩
 ·exact Or.inl h2
 ·exact Or.inr ⟨g,cap,cur,rfl,hg,by rw[Below.heap_setCell _ _ _ _ (ah g rfl)];exact hh,r⟩
theorem q0p {P:Program}{ops:Array Oper}{rest:List Oper}{o:Oper}{a:Act}{Q:Exit->Act->δ->Prop}{W wr:δ}(wj:o.guard=Z)(s x:Operand)(t:TypeId)
  (ho:o.op=.call { callee:=.builtin .append,args:=#[s,x],argTypes:=#[t,t] })
  (base:Nat) (e:TypeId) {z:ε} {size bytes:Nat} (fE:(P.info? e).map (fun i=>(i.zero,i.size,i.bytes))=Y (Y z,size,bytes)) (ht:P.underlying t=Y (.slice e))
  (jJ:z.cells.size=size) (hsz:0<size) (iO:0<bytes)
  (v:ε) (n:Nat) (xs:List ε) (hs:a.eval s=v) (af:wr.ownsRow base e size v n xs)
  (vs:List ε) (hx:a.eval x=O wr 1 1) (hl:vs.length=size) (h1:∀u∈vs,u.oneCell'=true)
  (dR:(n+1)*bytes<=140737488355328) (hb:Below base W wr) (ab:base<=wr)
  (h:∀g cap w',w'.ownsRow base e size (O g (n+1) cap) (n+1) (xs++vs)->(wr.alloc (.cells vs.toArray e)).grownBy w' v.ownBlock->(v.ownBlock=Y g\/g=(wr.alloc (.cells vs.toArray e)).heap.size)->Below base W w'->wpList P ops Q rest (a.put o.dst (O g (n+1) cap)) w') :
  wpList P ops Q (o :: rest) a (wr.alloc (.cells vs.toArray e)):=by
 obtain⟨i0,hi,dv,dB,de⟩:=info_parts fE;refine wpList_append_lies _ wj s x t ho base e i0 z size bytes ht hi dv dB de jJ hsz v n xs hs (af.alloc _) wr 1 1 vs hx (by omega) ?_ h1 (by decide) ?_ dR (by simp;omega) _ rfl ?_
 ·intro j u hj;rw[Addr.add_lit,Nat.zero_add,qd];simpa using hj
 ·have:(n+1)*1<=(n+1)*bytes:=Nat.mul_le_mul_left _ iO;unfold maxLen;omega
 ·intro g cap w' h2 h3 h4 _;exact h g cap w' h2 h3 h4 ((hb.alloc ab _).grown h3 (by simp;omega) (fun k hk=>(af.lt k hk).1))
end Go.Cx
namespace Go.Cx
open Go.RowKit Go.Proofs.YtmkpbhaoalbhjaaGreatDoor
section
variable {P:Program}{Q:Exit->Act->δ->Prop}{o:Oper}{a:Act}{w w':δ}{K:Act->δ->Prop}{W:Bool}{t:Nat}{x y:Operand}{v1 v2 v:ε}
theorem jm (aX:o.op=.load t x)(h1:a.eval x=v1)(hr:(Instr.loadAt t v1).run P w=.ok v w)(h:K (a.put o.dst v) w)(g:W=true:=by exact rfl)(d:o.dst≠none:=by exact gu _):W=true/\o.dst≠Z/\Oper.wp P o a w K Q:=⟨g,d,q8o _ _ aX _ h1 _ hr h⟩
theorem yb {i:Nat}(aX:o.op=.fieldAddr t x i)(h1:a.eval x=v1)(hr:(Instr.fieldAt t v1 i).run P w=.ok v w)(h:K (a.put o.dst v) w)(g:W=true:=by exact rfl)(d:o.dst≠none:=by exact gu _):W=true/\o.dst≠Z/\Oper.wp P o a w K Q:=⟨g,d,q8b _ _ _ aX _ h1 _ hr h⟩
theorem q0n {op:BinOp}{t2:Nat}(aX:o.op=.binOp op t x y t2)(h1:a.eval x=v1)(h2:a.eval y=v2)(he:(eqGuard op t x y v1 v2).run P w=.ok () w)(hr:(Go.binOp op t v1 v2).run P w=.ok v w)(h:K (a.put o.dst v) w)(g:W=true:=by exact rfl)(d:o.dst≠none:=by exact gu _):W=true/\o.dst≠Z/\Oper.wp P o a w K Q:=⟨g,d,qnf _ _ _ _ _ aX _ _ h1 h2 _ he hr h⟩
theorem jo (aX:o.op=.move x\/o.op=.assign x)(h:K (a.put o.dst (a.eval x)) w)(g:W=true:=by exact rfl)(d:o.dst≠none:=by exact gu _):W=true/\o.dst≠Z/\Oper.wp P o a w K Q:=⟨g,d,q1b _ aX h⟩
theorem q4r (aX:o.op=.indexAddr t x y)(h1:a.eval x=v1)(h2:a.eval y=v2)(hr:(Instr.indexAt t v1 v2).run P w=.ok v w)(h:K (a.put o.dst v) w)(g:W=true:=by exact rfl)(d:o.dst≠none:=by exact gu _):W=true/\o.dst≠Z/\Oper.wp P o a w K Q:=⟨g,d,qc9 _ _ _ aX _ _ h1 h2 _ hr h⟩
theorem q85 {i:Nat}{vs:Array ε}(aX:o.op=.extract x i)(hx:a.eval x=ψ vs)(hv:vs[i]? =Y v)(h:K (a.put o.dst v) w)(g:W=true:=by exact rfl)(d:o.dst≠none:=by exact gu _):W=true/\o.dst≠Z/\Oper.wp P o a w K Q:=⟨g,d,qj8 _ _ aX _ hx _ hv h⟩
theorem q0e {f:Nat}{xs:Array Operand}{ts:Array TypeId}(aX:o.op=.call { callee:=.value (.func f),args:=xs,argTypes:=ts })(vs:Array ε)(hv:xs.map a.eval=vs)(h:Calls P f vs w fun e w'=>∃v,e=.returned v/\K (a.put o.dst v) w')(ef:∀args w,(callFunc f args).run P w=.ok (.enter f args) w:=by exact fun _ _=>rfl)(g:W=true:=by exact rfl)(d:o.dst≠none:=by exact gu _):W=true/\o.dst≠Z/\Oper.wp P o a w K Q:=⟨g,d,qdj _ _ _ aX ef vs hv h⟩
end
