/- Steps towards SequenceChecks. Conditions: none. -/
import Derived.Deep.CutBlock
import Derived.Test.YtmkpbhaoalbhjaaGreatDoorXRg
set_option maxRecDepth 1000000
set_option maxHeartbeats 0
open Go.Value renaming slice→O,agg→I,pointer→σ,bool→τ,int→H,tuple→ψ
open Option renaming none→Z,some→Y
open Go renaming undef→V,World→δ,Value→ε
open Go.IntKind renaming i64→φ
open Go.Cx renaming keep→J
namespace Go.Cx
open Go.RowKit
variable {P:Program}{ops:Array Oper}{Q:Exit->Act->δ->Prop}
def qrj (ops:Array Oper)(E:List Nat)(f:Nat):Bool:=(List.range E.length).all fun s=>match E[s]?,E[s+1]? with
 |some i,Y j=>reach ops f j i
 |_,_=>true
structure StC (ops:Array Oper)(F:Nat->ε->Prop)(E:List Nat)(T:List ε->δ->Prop)(a0:Act)(l:Nat->Bool)(vs:List ε)(a:Act)(w:δ):Prop where
 sz:a.tmps.size=a0.tmps.size
 df:a.defers=a0.defers
 fact:∀(i:Nat) (o:Oper) (d:Nat),ops[i]? =Y o->o.dst=Y d->i ∉ E->l i=true->F i (a d V)
 base:∀s,(∀(i:Nat) (o:Oper),ops[i]? =Y o->o.dst≠Y s)->a s V=a0 s V
 len:vs.length<=E.length
 done:∀s i,E[s]? =Y i->(l i=true↔s<vs.length)
 res:∀s i o d,E[s]? =Y i->ops[i]? =Y o->o.dst=Y d->s<vs.length->a d V=vs.getD s V
 eff:T vs w
theorem yg {id:Nat}{a0:Act}{w:δ}(hm:P.follows .mixedOrders=true)(F:Nat->ε->Prop)(E:List Nat)(T:List ε->δ->Prop)(L f n:Nat)(hn:a0.tmps.size=n)(hd:q6a ops n=true)(lP:qmk .any ops=true)(hL:L<ops.size)(kO:qq7 ops L f=true)(S4:E.contains L=false)(nP:qrj ops E f=true)(oR:E.Nodup)(fS:(E.all fun j=>decide (j<ops.size))=true)
  (Fin:Act->δ->Prop) (h0:T [] w.drew)
  (D5:∀(i:Nat) (o:Oper),ops[i]? =Y o->i≠L->i ∉ E->∀(a:Act) (w':δ) (vs:List ε),T vs w'->(∀s e,E[s]? =Y e->reach ops f e i=true->vs.length<=s)->(∀(j:Nat) (oj:Oper) (dj:Nat),ops[j]? =Y oj->oj.dst=Y dj->E.contains j=false->dep .any ops i j=true->F j (a dj V)) →
   (∀s,(∀(i:Nat) (o:Oper),ops[i]? =Y o->o.dst≠Y s)->a s V=a0 s V)->a.tmps.size=n →
   Region.wanted o (yielded ops a.tmps)=true/\o.dst≠Z/\Oper.wp P o a w' (fun a' w''=>∃v,a'=a.put o.dst v/\F i v/\w'=w'') Q)
  (Kc:∀(s i:Nat) (o:Oper),E[s]? =Y i->ops[i]? =Y o->∀(a:Act) (w':δ) (vs:List ε),vs.length=s->T vs w'->(∀(j:Nat) (oj:Oper) (dj:Nat),ops[j]? =Y oj->oj.dst=Y dj->E.contains j=false->dep .any ops i j=true->F j (a dj V)) →
   (∀t j oj dj,E[t]? =Y j->ops[j]? =Y oj->oj.dst=Y dj->t<s->a dj V=vs.getD t V) →
   (∀s,(∀(i:Nat) (o:Oper),ops[i]? =Y o->o.dst≠Y s)->a s V=a0 s V)->a.tmps.size=n →
   Region.wanted o (yielded ops a.tmps)=true/\Oper.wp P o a w' (fun a' w''=>∃v,a'=a.put o.dst v/\T (vs++[v]) w'') Q)
  (rO:∀(o:Oper),ops[L]? =Y o->∀(a:Act) (w':δ) (vs:List ε),a.tmps.size=n->a.defers=a0.defers->vs.length=E.length->T vs w'->(∀(j:Nat) (oj:Oper) (dj:Nat),ops[j]? =Y oj->oj.dst=Y dj->E.contains j=false->j≠L->F j (a dj V)) →
   (∀t j oj dj,E[t]? =Y j->ops[j]? =Y oj->oj.dst=Y dj->a dj V=vs.getD t V) →
   (∀s,(∀(i:Nat) (o:Oper),ops[i]? =Y o->o.dst≠Y s)->a s V=a0 s V) →
   Region.wanted o (yielded ops a.tmps)=true/\Oper.wp P o a w' (fun a' w''=>Fin a' w'') Q)
  (cZ:∀(a:Act) (w':δ),Fin a w'->Q .normal a w') :
  (Code.region id ops true).wp P Q a0 w:=by
 have lQ:=qbq hd;have eH:∀i,i<ops.size->i≠L->reach ops f L i=true:=fun i hi ah=>by have:=gE.1 kO i (gF.2 hi);rw[Bool.or_eq_true,beq_iff_eq]at this;exact this.resolve_left ah
 have tI:∀ {j:Nat},E.contains j=false↔j ∉ E:=fun {j}=>by simp
 have dt:∀s i j,E[s]? =Y i->E[s+1]? =Y j->reach ops f j i=true:=fun s i j hi hj=>by have:=gE.1 nP s (gF.2 (by have:=(gk.1 hi).1;exact this));rw[hi,hj]at this;exact this
 have rP:∀ {l:Nat->Bool} (_:∀i,l i=true->∀j,dep .any ops i j=true->l j=true) {i:Nat} (_:∀j,dep .any ops i j=true->l j=true) {j:Nat},reach ops f i j=true->l j=true:=fun {l} hc {i} aK {j} hr=>by
  cases f with
  |zero=>cases hr
  |succ f =>
   unfold reach at hr;rw[Bool.or_eq_true]at hr;rcases hr with hr|hr
   ·exact aK j hr
   ·obtain⟨k,_,hk⟩:=List.any_eq_true.1 hr;rw[gM]at hk;exact q1h hc f k j hk.2 (aK k hk.1)
 have rQ:∀ {s t i:Nat},E[s]? =Y i->E[t]? =Y i->s=t:=fun {s t i} h1 h2=>by
  obtain⟨a1,a2⟩:=gk.1 h1;obtain⟨b1,b2⟩:=gk.1 h2;have h:=bb.1 oR;rcases Nat.lt_trichotomy s t with hl|hl|hl
  ·exact absurd (a2.trans b2.symm) (h s t a1 b1 hl)
  ·exact hl
  ·exact absurd (b2.trans a2.symm) (h t s b1 a1 hl)
 refine qdc hm lP (fun l a w'=>(∀i,l i=true->∀j,dep .any ops i j=true->l j=true)/\(l L=false->∃vs,StC ops F E T a0 l vs a w')/\(l L=true->Fin a w')) ?_ ?_ ?_
 ·refine⟨fun i h=>absurd h Bool.false_ne_true,fun _=>⟨[],rfl,rfl,fun _ _ _ _ _ _ h=>absurd h Bool.false_ne_true,fun _ _=>rfl,gm _,fun s i _=>⟨fun h=>absurd h Bool.false_ne_true,fun h=>absurd h (Nat.not_lt_zero _)⟩,fun s i o d _ _ _ h=>absurd h (Nat.not_lt_zero _),h0⟩,fun h=>absurd h Bool.false_ne_true⟩
 ·intro i o ho l a w' jA aK ⟨hc,h1,h2⟩;have dT:=(gh.1 ho).1;have dF:∀j,(fun j=>j == i || l j) j=true->∀k,dep .any ops j k=true->(fun j=>j == i || l j) k=true:=fun j hj k hk=>by
   simp only [Bool.or_eq_true,beq_iff_eq]at hj ⊢;rcases hj with rfl|hj
   ·exact .inr (aK k hk)
   ·exact .inr (hc j hj k hk)
  by_cases GZ:i=L
  ·subst GZ;obtain⟨vs,ag⟩:=h1 jA;have ao:∀j,j<ops.size->j≠i->l j=true:=fun j hj ah=>rP hc aK (eH j hj ah)
   have S5:∀j∈E,j≠i:=fun j hj e=>tI.1 S4 (e ▸ hj)
   have yJ:vs.length=E.length:=by
    have h3:=ag.len;rcases gG vs.length E.length with h4|h4
    ·obtain⟨j,hj⟩:∃j,E[vs.length]? =Y j:=⟨_,gg h4⟩
     have cj:=gi hj;have S6:j<ops.size:=by simpa using gE.1 fS j cj
     exact absurd ((ag.done vs.length j hj).1 (ao j S6 (S5 j cj))) (Nat.lt_irrefl _)
    ·omega
   obtain⟨hw,fB⟩:=rO o ho a w' vs (ag.sz.trans hn) ag.df yJ ag.eff (fun j oj dj hj ar po S7=>ag.fact j oj dj hj ar (tI.1 po) (ao j (gh.1 hj).1 S7)) (fun t j oj dj ht hj ar=>ag.res t j oj dj ht hj ar (by have:=(gk.1 ht).1;omega)) ag.base;exact⟨hw,Oper.wp_mono (fun a' w'' hx=>⟨dF,fun h=>by simp at h,fun _=>hx⟩) fB⟩
  ·have Kd:l L=false:=by
    cases hc':l L with
    |false=>rfl
    |true =>have:=q1h hc f L i (eH i dT GZ) hc';rw[jA]at this;cases this
   obtain⟨vs,ag⟩:=h1 Kd;have CE:(L == i)=false:=by simpa using fun e:L=i=>GZ e.symm
   have mK:∀(d:Nat) (v:ε),o.dst=Y d->∀s,(∀(i:Nat) (o:Oper),ops[i]? =Y o->o.dst≠Y s)->(a.put (Y d) v).tmps.getD s V=a0 s undef:=fun d v dw s hs=>by rw[q3s,if_neg (fun e=>hs i o ho (by rw[dw,e.1]))];exact ag.base s hs
   have oF:∀(d:Nat) (v:ε),o.dst=Y d->∀(j:Nat) (oj:Oper) (dj:Nat),j≠i->ops[j]? =Y oj->oj.dst=Y dj->(a.put (Y d) v).tmps.getD dj V=a dj undef:=fun d v dw j oj dj aH hj ar=>by obtain⟨_,nN⟩:=lQ i o d ho dw;rw[q3s,if_neg (fun e=>nN j oj hj aH (by rw[ar,e.1]))]
   have wU:∀(d:Nat) (v:ε),o.dst=Y d->(a.put (Y d) v).tmps.getD d V=v:=fun d v dw=>by obtain⟨iZ,_⟩:=lQ i o d ho dw;rw[q3s,if_pos ⟨rfl,by rw[ag.sz,hn];exact iZ⟩]
   by_cases BD:i∈E
   ·obtain⟨s,hs⟩:=bh BD;have aV:=(gk.1 hs).1;have nh:vs.length=s:=by
     have h3:¬s<vs.length:=fun h=>by have:=(ag.done s i hs).2 h;rw[jA]at this;cases this
     rcases gG vs.length s with h4|h4
     ·exfalso
      obtain⟨s',rfl⟩:∃s',s=s'+1:=⟨s-1,by omega⟩
      obtain⟨j,hj⟩:∃j,E[s']? =Y j:=⟨_,gg (by omega)⟩
      have:=(ag.done s' j hj).1 (rP hc aK (dt s' j i hj hs));omega
     ·omega
    obtain⟨hw,fB⟩:=Kc s i o hs ho a w' vs nh ag.eff (fun j oj dj hj ar po qI=>ag.fact j oj dj hj ar (tI.1 po) (aK j qI)) (fun t j oj dj ht hj ar ak=>ag.res t j oj dj ht hj ar (by omega)) ag.base (ag.sz.trans hn);refine⟨hw,Oper.wp_mono (fun a' w'' hx=>?_) fB⟩;obtain⟨v,rfl,hT⟩:=hx;have rR:∀t j,E[t]? =Y j->(((fun k=>k == i || l k) j=true)↔t<(vs++[v]).length):=fun t j ht=>by
     rw[gw,List.length_singleton];by_cases aH:j=i
     ·subst aH;have:=rQ ht hs;subst this;simp;omega
     ·have:(j == i)=false:=by simpa using aH
      simp only [this,Bool.false_or];have NL:t≠s:=fun e=>aH (by subst e;rw[ht]at hs;injection hs)
      rw[ag.done t j ht];omega
    refine⟨dF,fun _=>⟨vs++[v],?_⟩,fun h=>by simp only [CE,Bool.false_or]at h;rw[Kd]at h;cases h⟩;cases dw:o.dst with
    |none =>
     refine⟨ag.sz,ag.df,fun j oj dj hj ar po cy=>?_,ag.base,by rw[gw,nh];exact aV,rR,fun t j oj dj ht hj ar ak=>?_,hT⟩
     ·have aH:j≠i:=fun e=>po (e ▸ BD)
      have:(j == i)=false:=by simpa using aH
      simp only [this,Bool.false_or]at cy;exact ag.fact j oj dj hj ar po cy
     ·rw[gw,List.length_singleton]at ak;have aH:j≠i:=fun e=>by subst e;rw[ho]at hj;injection hj with hj;subst hj;rw[dw]at ar;cases ar
      have NL:t≠s:=fun e=>aH (by subst e;rw[ht]at hs;injection hs)
      rw[gb,gU (by omega),<-gb];exact ag.res t j oj dj ht hj ar (by omega)
    |some d =>
     refine⟨by show (a.tmps.setIfInBounds d v).size=_;simpa using ag.sz,ag.df,fun j oj dj hj ar po cy=>?_,mK d v dw,by rw[gw,nh];exact aV,rR,fun t j oj dj ht hj ar ak=>?_,hT⟩
     ·have aH:j≠i:=fun e=>po (e ▸ BD)
      rw[oF d v dw j oj dj aH hj ar];have:(j == i)=false:=by simpa using aH
      simp only [this,Bool.false_or]at cy;exact ag.fact j oj dj hj ar po cy
     ·rw[gw,List.length_singleton]at ak;by_cases aH:j=i
      ·subst aH;have:=rQ ht hs;subst this;rw[ho]at hj;injection hj with hj
       subst hj;rw[dw]at ar;injection ar with ar
       subst ar;rw[wU d v dw,gb,gQ (by omega),nh,Nat.sub_self];rfl
      ·have NL:t≠s:=fun e=>aH (by subst e;rw[ht]at hs;injection hs)
       rw[oF d v dw j oj dj aH hj ar,ag.res t j oj dj ht hj ar (by omega),gb,gb,gU (by omega)]
   ·obtain⟨hw,kD,fB⟩:=D5 i o ho GZ BD a w' vs ag.eff (fun s e hs hr=>by
     rcases gG s vs.length with h5|h5
     ·have:=q1h hc f e i hr ((ag.done s e hs).2 h5);rw[jA]at this;cases this
     ·exact h5) (fun j oj dj hj ar po qI=>ag.fact j oj dj hj ar (tI.1 po) (aK j qI)) ag.base (ag.sz.trans hn)
    refine⟨hw,Oper.wp_mono (fun a' w'' hx=>?_) fB⟩;obtain⟨v,rfl,hv,rfl⟩:=hx;obtain⟨d,dw⟩:=Option.ne_none_iff_exists'.1 kD;refine⟨dF,fun _=>⟨vs,?_⟩,fun h=>by simp only [CE,Bool.false_or]at h;rw[Kd]at h;cases h⟩;rw[dw];refine⟨by show (a.tmps.setIfInBounds d v).size=_;simpa using ag.sz,ag.df,fun j oj dj hj ar po cy=>?_,mK d v dw,ag.len,fun t j ht=>?_,fun t j oj dj ht hj ar ak=>?_,ag.eff⟩
    ·by_cases aH:j=i
     ·subst aH;rw[ho]at hj;injection hj with hj;subst hj
      rw[dw]at ar;injection ar with ar;subst ar
      rw[wU d v dw];exact hv
     ·rw[oF d v dw j oj dj aH hj ar];have:(j == i)=false:=by simpa using aH
      simp only [this,Bool.false_or]at cy;exact ag.fact j oj dj hj ar po cy
    ·have aH:j≠i:=fun e=>BD (e ▸ gi ht)
     have:(j == i)=false:=by simpa using aH
     simp only [this,Bool.false_or];exact ag.done t j ht
    ·have aH:j≠i:=fun e=>BD (e ▸ gi ht)
     rw[oF d v dw j oj dj aH hj ar];exact ag.res t j oj dj ht hj ar ak
 ·intro l a w' ao ⟨_,_,h2⟩;exact cZ a w' (h2 (ao L hL))
end Go.Cx
namespace Go.Cx
open Go.RowKit
theorem q51 {α:Type}{l:List α}(h:l.length=2):∃x y,l=[x,y]:=by
 match l,h with
 |[x,y],_=>exact⟨x,y,rfl⟩
def VF (l:List (Option ε))(i:Nat)(v:ε):Prop:=∀x,l.getD i Z=Y x->v=x
theorem qgh {P:Program}{Q:Exit->Act->World->Prop}{o:Oper}{a:Act}{w:World}{K:Act->World->Prop}(t:Nat)(x y z:Operand)(aX:o.op=.slice t x (some y) (some z) none)(v1 v2 v3:Value)(h1:a.eval x=v1)(h2:a.eval y=v2)(h3:a.eval z=v3)(v:Value)(bP:(Instr.sliceAt t v1 (some v2) (some v3) none).run P w=.ok v w)(h:K (a.put o.dst v) w):Oper.wp P o a w K Q:=by subst h1 h2 h3;unfold Oper.wp;simp[execOp,aX,bP,Result.andThen];exact h
end Go.Cx
namespace Go.Proofs.YtmkpbhaoalbhjaaGreatDoor
open Go.RowKit Go.Cx
theorem jv (w:δ)(p i:Nat)(hi:i<4):(Instr.fieldAt 30 (σ p) i).run Tryz.prog w=.ok (σ (Y ⟨p,i,Z⟩)) w:=by rcases (by omega:i=0\/i=1\/i=2\/i=3)with rfl|rfl|rfl|rfl <;> simp[go_sem]
theorem yy (w:δ)(p:Addr)(a:Option Addr)(n c:Nat)(h:w p=O a n c):(Instr.loadAt 23 (σ (Y p))).run Tryz.prog w=.ok (O a n c) w:=by simp[go_sem,h]
theorem q2d {x y z:Int}(h:IntKind.i64.wrap (x*y)=z)(w:δ):(Go.binOp .mul 3 x y).run Tryz.prog w=.ok z w:=by simp[go_sem,h]
theorem q1u {x y z:Int}(h:IntKind.i64.wrap (x+y)=z)(w:δ):(Go.binOp .add 3 x y).run Tryz.prog w=.ok z w:=by simp[go_sem,h]
theorem q91 {x y z:Int}(h:IntKind.i64.wrap (x-y)=z)(w:δ):(Go.binOp .sub 3 x y).run Tryz.prog w=.ok z w:=by simp[go_sem,h]
theorem q6j (w:δ)(p:Addr)(u:ε)(x:Int)(h:w p=Y u)(hf:w.frozen? p=false):(Instr.storeAt 3 (σ (Y p)) x).run Tryz.prog w=.ok () (w.setCell p x):=by simp[go_sem,h,hf]
theorem q3o (w:δ)(E o n c k:Nat)(hk:k<n):(Instr.indexAt 23 (O (Y ⟨E,o,Z⟩) n c) k).run Tryz.prog w=.ok (σ (Y ⟨E,o+k,Z⟩)) w:=by
 have h1:(0:Int)<=(k:Int):=by omega
 have h2:(k:Int)<n:=by omega
 have h3:(⟨E,o,Z⟩ : Addr).add k=⟨E,o+k,Z⟩:=Addr.add_lit _ _ _;simp[go_sem,h1,h2]
theorem qmn {w:δ}{a p:Addr}{u x y:ε}(h:w p=Y x)(ha:w a=Y y):∃v,(w.setCell a u) p=Y v:=by
 by_cases hp:p=a
 ·subst hp;exact⟨u,World.cell?_setCell_same' _ _ _ (by rw[ha];rfl)⟩
 ·exact⟨x,x8 h hp⟩
theorem qbs (w:δ)(p:Addr)(u:ε)(b:Option Addr)(m d:Nat)(h:w p=Y u)(hf:w.frozen? p=false):(Instr.storeAt 23 (σ (Y p)) (O b m d)).run Tryz.prog w=.ok () (w.setCell p (O b m d)):=by simp[go_sem,h,hf]
end Go.Proofs.YtmkpbhaoalbhjaaGreatDoor
namespace Go.Cx
theorem qmo {p:Int}{m:Nat}{ra:List Int}{b:List (List Int)}{k:Nat}(h:j6 ra k=0):q2c p m ra b (k+1)=q2c p m ra b k:=by
 unfold q2c;refine List.map_congr_left fun j _=>?_
 rw[qeq,h,Int.zero_mul,bA]
end Go.Cx
namespace Go.Proofs.YtmkpbhaoalbhjaaGreatDoor
open Go.RowKit Go.Cx
attribute [local go_sem ↓] Go.wp_at_zero Go.wp_at_succ
theorem qvl (p:Int)(r n m:Nat)(v u:ε)(A B:List (List Int))(w:δ)(h:Sl w 1 v (ints A.flatten))(k:Sl w 1 u (ints B.flatten))(hp:prI p=true)(hA:FM p r n A)(hB:FM p n m B)(hr:r<=400)(hn:n<=400)(hm:m<=400) :
  Calls Tryz.prog 19 #[I #[p,r,n,v],I #[p,n,m,u]] w fun e w'=>∃E:Nat,e=.returned (ψ #[I #[p,r,m,O E (r*m) (r*m)],τ true])/\w<=E/\E<w'/\IL w' E (mulM p m A B).flatten/\Below w w w':=by
 obtain⟨jL,iR,_⟩:=q3r hp;obtain⟨a,an,ac,rfl⟩:=qg h;obtain⟨b,bn,bc,rfl⟩:=qg k;have oD:an=r*n:=by have:=h.open.2.2.1;rw[xl,hA.q1d]at this;omega
 have qE:bn=n*m:=by have:=k.open.2.2.1;rw[xl,hB.q1d]at this;omega
 have hC:=q4t (m:=m) (b:=B) (show (0:Int)<p by omega) hA;obtain⟨C,rI⟩:=x4 (mulM p m A B);rw[<-rI]at hC ⊢;have l7:r*m<=160000:=gd (Nat.mul_le_mul hr hm) (by decide);obtain⟨NN,Dx⟩:=x4 (r*m);have fb:=jg Dx l7;have HH:=qan h k hp hA hB hC rI oD qE;have HO:=jg (q3d hp hA hr hn) (q3d hp hB hn hm);clear h k hp hA hB hC rI Dx l7 oD qE;go_enter Tryz.func19,Tryz.ntmps19;go_wp2_with fail;obtain⟨W,hW⟩:=x4 (((w.alloc (.cells #[p,r,n,O a an ac] 30)).alloc (.cells #[p,n,m,O b bn bc] 30)).alloc (.cells #[H φ 0,H φ 0,H φ 0,O Z 0 0] 30));rw[<-hW];have hw:Below w w W:=by rw[hW];exact(((q9).alloc (nlr _) _).alloc (by simp) _).alloc (by simp;omega) _
 have aG:W.heap.size=w+3:=by rw[hW];simp
 have p0:W w=p:=by rw[hW];exact qk (qk (qd w _ _ (0,0) 0) _) _
 have p1:W ⟨w,1,Z⟩=r:=by rw[hW];exact qk (qk (qd w _ _ (0,0) 1) _) _
 have p2:W ⟨w,2,Z⟩=n:=by rw[hW];exact qk (qk (qd w _ _ (0,0) 2) _) _
 have p3:W ⟨w,3,Z⟩=O a an ac:=by rw[hW];exact qk (qk (qd w _ _ (0,0) 3) _) _
 have q1:W ⟨w+1,1,Z⟩=n:=by rw[hW];have h0:=qd (w.alloc (.cells #[p,r,n,O a an ac] 30)) #[p,n,m,O b bn bc] 30 (0,0) 1;rw[World.size_alloc]at h0;exact qk h0 _
 have q2:W ⟨w+1,2,Z⟩=m:=by rw[hW];have h0:=qd (w.alloc (.cells #[p,r,n,O a an ac] 30)) #[p,n,m,O b bn bc] 30 (0,0) 2;rw[World.size_alloc]at h0;exact qk h0 _
 have q3:W ⟨w+1,3,Z⟩=O b bn bc:=by rw[hW];have h0:=qd (w.alloc (.cells #[p,r,n,O a an ac] 30)) #[p,n,m,O b bn bc] 30 (0,0) 3;rw[World.size_alloc]at h0;exact qk h0 _
 have s0:W (w+1+1:Nat)=H φ 0:=by rw[hW];have h0:=qd ((w.alloc (.cells #[p,r,n,O a an ac] 30)).alloc (.cells #[p,n,m,O b bn bc] 30)) #[H φ 0,H φ 0,H φ 0,O Z 0 0] 30 (0,0) 0;rw[World.size_alloc,World.size_alloc]at h0;exact h0
 have s1:W ⟨w+1+1,1,Z⟩=H φ 0:=by rw[hW];have h0:=qd ((w.alloc (.cells #[p,r,n,O a an ac] 30)).alloc (.cells #[p,n,m,O b bn bc] 30)) #[H φ 0,H φ 0,H φ 0,O Z 0 0] 30 (0,0) 1;rw[World.size_alloc,World.size_alloc]at h0;exact h0
 have s2:W ⟨w+1+1,2,Z⟩=H φ 0:=by rw[hW];have h0:=qd ((w.alloc (.cells #[p,r,n,O a an ac] 30)).alloc (.cells #[p,n,m,O b bn bc] 30)) #[H φ 0,H φ 0,H φ 0,O Z 0 0] 30 (0,0) 2;rw[World.size_alloc,World.size_alloc]at h0;exact h0
 have s3:W ⟨w+1+1,3,Z⟩=O Z 0 0:=by rw[hW];have h0:=qd ((w.alloc (.cells #[p,r,n,O a an ac] 30)).alloc (.cells #[p,n,m,O b bn bc] 30)) #[H φ 0,H φ 0,H φ 0,O Z 0 0] 30 (0,0) 3;rw[World.size_alloc,World.size_alloc]at h0;exact h0
 have z:∀i,W.frozen? ⟨w+1+1,i,Z⟩=false:=fun i=>by have h0:=jz (heap_alloc_new ((w.alloc (.cells #[p,r,n,O a an ac] 30)).alloc (.cells #[p,n,m,O b bn bc] 30)) (.cells #[H φ 0,H φ 0,H φ 0,O Z 0 0] 30)) i;simp at h0;rw[hW];exact h0
 have HC:=qhs p0 p1 p2 p3 q1 q2 q3 s0 s1 s2 s3 z hw aG;clear hW aG z hw p0 p1 p3 q2 q3 s0 s1 s2 s3;obtain⟨HW,aG⟩:=HC.b12;have mJ:=lhd HW;have Dy:=lhd aG;clear HW aG;refine(qvk p r n n m _ _ _ _ W (HH.out.1.keep mJ.out) (HH.a1.keep mJ.out) HO.out.1 HO.out.2).mono ?_;rintro e w1 ⟨rfl,ae⟩;have cX:=lhd ae
 replace p2:=J ae p2
 replace q1:=J ae q1
 have p0:=J ae HC.out.1;have p1:=J ae HC.a1;have q2:=J ae HC.a5;clear ae;have B9:((n:Int) != (n:Int))=false:=by simp
 go_wp2_with fail;refine(qur p r m HH.a2 hr hm _).mono ?_;rintro e w3 ⟨E,rfl,dr,dN,l8,aw⟩;rw[<-fb.out.1]at l8 ⊢;have aJ:Below W W w3:=(btr cX.out aw);have fR:W<=E:=gd cX.out.size dr;have HZ:=yt l8 aJ fR dN;clear l8 aw aJ p0 p1 p2 q1 q2 B9 dr dN fR;go_wp2_with fail;obtain⟨W5,dZ⟩:=x4 (w3.alloc (.cells #[p,r,m,O E NN NN] 30));rw[<-dZ];have o:∀i,W5 ⟨w3,i,Z⟩=(#[p,r,m,O E NN NN] : Array ε)[i]?:=fun i=>by rw[dZ];exact qd w3 _ _ (0,0) i
 have jV:Below w3 w3 W5:=by rw[dZ];exact(q9).alloc (nlr _) _
 have JU:w3.heap.size<W5:=by rw[dZ];simp
 have dG:Below W W W5:=(btr HZ.a1 jV);have uD:IL W5 E (List.replicate NN 0):=HZ.out.1.keep jV HZ.b3;have fR:=HZ.a2;have JV:=HZ.b3;have aG:=Dy.out;have aL:w3≠E:=by omega
 have cY:w≠E:=by omega
 have eR:w+1≠E:=by omega
 have bZ:w+1+1≠E:=by omega
 have bT:E<W5:=by omega
 have o0:=o 0;have o1:=o 1;have o2:=o 2;have o3:=o 3;simp at o0 o1 o2 o3;have HG:=q4q o0 o1 o2 o3 dG uD bT;have p0:=J dG HC.out.1;have p1:=J dG HC.a1;have p2:=J dG HC.a2;have p3:=J dG HC.a3;have q2:=J dG HC.a5;have q3:=J dG HC.a6;have HP:=kp p0 p1 p2 p3 q2 q3;have HN:=kg aL cY eR bZ fR;clear o o0 o1 o2 o3 dG uD bT aL cY eR bZ fR JV aG jV JU dZ p0 p2 p3 q2 q3;go_loopw [8] (fun x wr=>∃i:Nat,x=i/\i<=r/\Hid (IL wr E (q8e C (List.replicate m 0) r i).flatten)/\Hid (Kp E W5 wr)/\Hid (Below W W wr)) (fun x _=>r-(vI x).toNat)
 case atStart =>refine⟨0,rfl,gm _,(show Hid _ from ?_),(lhd (Kp.refl _ _)),(lhd HG.a4)⟩;rw[qcl,qat,<-fb.out.1];exact HG.a5
 case round =>
  obtain⟨i,rfl,hi,HE,HK,HB⟩:=hrel;have c1:=HK.out.cell _ _ HN.a1 HP.a1;by_cases db:i<r
  ·have rJ:(i:Int)<r:=by omega
   have nO:=HE;have qG:=HK;have Dz:=HB;clear HE HK HB;obtain⟨wo,eE⟩:=x4 wr;subst eE;go_wp2_with fail;go_loopw [9] (fun x wr=>∃k:Nat,x=k/\k<=n/\Hid (IL wr E (q2b C (List.replicate m 0) r i (q2c p m (zm A i) B k)).flatten)/\Hid (Kp E W5 wr)/\Hid (Below W W wr)) (fun x _=>n-(vI x).toNat)
   case atStart =>refine⟨0,rfl,gm _,(show Hid _ from ?_),qG,Dz⟩;rw[qer,<-qkt db];exact nO.out
   case round =>
    clear nO qG Dz c1;obtain⟨k,rfl,hk,HE,HK,HB⟩:=hrel;have c2:=HK.out.cell _ _ HN.a1 HP.a2;by_cases dy:k<n
    ·have cV:(k:Int)<n:=by omega
     have c3:=HK.out.cell _ _ HN.a1 HP.a3;obtain⟨ix,lR⟩:=x4 (i*n);obtain⟨mL,rS⟩:=x4 (i*n+k);have wV:mL<an:=by rw[HH.a7,rS];exact q2x db dy
     have NM:(mL:Int)<an:=by omega
     have rK:IntKind.i64.wrap ((i:Int)*(n:Int))=(ix:Int):=by rw[lR];exact kd (by omega) (by omega)
     have Ke:an<=160000:=by rw[HH.a7];exact gd (Nat.mul_le_mul hr hn) (by decide)
     have pj:IntKind.i64.wrap ((ix:Int)+(k:Int))=(mL:Int):=by rw[rS,<-lR,Int.natCast_add];exact IntWalk.i64_in _ (by omega)
     obtain⟨ad,x,iH,hx,d0⟩:=q00 (HH.out.1.keep ((btr mJ.out HB.out))) wV;subst iH;have dO:j6 (zm A i) k=x:=by
      have h5:=flat_get HH.a3.wid (i:=i) (c:=k) (by rw[HH.a3.len];exact db) dy;rw[<-rS,hx]at h5;injection h5 with h5
      exact h5.symm
     have nu:0<=x/\x<p:=HH.a3.qt6 x (gi hx);have HX:=jg nu dO;have nO:=HE;have qG:=HK;have rf:=HB;have q2:=HK.out.cell _ _ HN.a2 HP.a4;clear HE HK HB lR rS hx nu dO wV Ke;obtain⟨Sw,zL⟩:=x4 wr;subst zL;go_wp2_with fail;go_loopw [11] (fun y wr=>∃j:Nat,y=j/\j<=m/\Hid (j=0\/0<x)/\Hid (IL wr E (q2b C (List.replicate m 0) r i (kt (q2c p m (zm A i) B (k+1)) (q2c p m (zm A i) B k) j)).flatten)/\Hid (Kp E W5 wr)/\Hid (Below W W wr)) (fun y _=>m-(vI y).toNat)
     case atStart =>refine⟨0,rfl,gm _,(show Hid _ from .inl rfl),(show Hid _ from ?_),qG,rf⟩;rw[q17];exact nO.out
     case round =>
      clear nO qG rf c2 c3 d0 q2;obtain⟨j,rfl,hj,S8,HE,HK,HB⟩:=hrel;have c2:=HK.out.cell _ _ HN.a2 HP.a4;by_cases cj:j<m
      ·have pk:(j:Int)<m:=by omega
       by_cases lS:0<x
       ·obtain⟨kx,rM⟩:=x4 (k*m);obtain⟨Kf,nQ⟩:=x4 (k*m+j);have wW:Kf<bn:=by rw[HH.b8,nQ];exact q2x dy cj
        have NO:(Kf:Int)<bn:=by omega
        have lT:IntKind.i64.wrap ((k:Int)*(m:Int))=(kx:Int):=by rw[rM];exact kd (by omega) (by omega)
        have Kg:bn<=160000:=by rw[HH.b8];exact gd (Nat.mul_le_mul hn hm) (by decide)
        have Xl:IntKind.i64.wrap ((kx:Int)+(j:Int))=(Kf:Int):=by rw[nQ,<-rM,Int.natCast_add];exact IntWalk.i64_in _ (by omega)
        obtain⟨bd,y,D6,hy,d0⟩:=q00 (HH.a1.keep ((btr mJ.out HB.out))) wW;subst D6;have jZ:j6 (zm B k) j=y:=by
         have h5:=flat_get HH.a4.wid (i:=k) (c:=j) (by rw[HH.a4.len];exact dy) cj;rw[<-nQ,hy]at h5;injection h5 with h5
         exact h5.symm
        have kX:0<=y/\y<p:=HH.a4.qt6 y (gi hy);have q3:=HK.out.cell _ _ HN.a2 HP.b5;have kC:=HH.a5;have aA:=q2v p m (zm A i) B k;have ig:=q2v p m (zm A i) B (k+1);have eW:(kt (q2c p m (zm A i) B (k+1)) (q2c p m (zm A i) B k) j).length=m:=by rw[q1p (by rw[aA,ig]),aA]
        have l9:=qfd (z:=List.replicate m 0) kC.len kC.wid (by simp) db eW cj;rw[q3h (by rw[aA,ig]) (by rw[aA];exact cj)]at l9;obtain⟨o,ho⟩:=x4 (j6 (q2c p m (zm A i) B k) j);have uE:0<=o/\o<p:=by rw[ho];exact qc7 (by omega) m (zm A i) B k _ (gi (q09 (by rw[aA];exact cj)))
        rw[<-ho]at l9;obtain⟨fZ,iF⟩:=HE.out _ _ l9;obtain⟨nu,dO⟩:=HX.out;obtain⟨D2,JY,zM,zN⟩:=q41 iR uE nu kX;have hQ:(o+x*y).tmod p=(o+x*y)%p:=q4g (by omega);have fr:j6 (q2c p m (zm A i) B (k+1)) j=(o+x*y)%p:=by rw[qes p m (zm A i) B cj,<-ho,dO,jZ]
        obtain⟨im,aD⟩:=x4 (i*m);obtain⟨at',bY⟩:=x4 (i*m+j);have zO:at'<NN:=by rw[fb.out.1,bY];exact q2x db cj
        have D4:IntKind.i64.wrap ((i:Int)*(m:Int))=(im:Int):=by rw[aD];exact kd (by omega) (by omega)
        have Sx:IntKind.i64.wrap ((im:Int)+(j:Int))=(at':Int):=by rw[bY,<-aD,Int.natCast_add];exact IntWalk.i64_in _ (by have h5:=fb.out.2;rw[<-fb.out.1]at h5;omega)
        have JZ:(at':Int)<NN:=by omega
        rw[<-bY]at fZ iF;obtain⟨aL,cY,eR,bZ,fR⟩:=HN.out;have c0:=HK.out.cell _ _ cY HP.out.1;have o3:=HK.out.cell _ _ aL HG.a3;have cp:¬(p=0):=by omega
        have ng:(p == 0)=false:=by simpa using cp
        obtain⟨q,hq⟩:=x4 (x*y)
        replace D2:IntKind.i64.wrap (x*y)=q:=by rw[hq];exact D2
        rw[<-hq]at JY hQ fr;obtain⟨nv,qH⟩:=x4 ((o+q)%p);rw[<-qH]at hQ fr;have zK:=kg fr bY aA ig eW;clear rM nQ wW Kg kX jZ hy kC aA ig eW l9 ho uE nu dO zM zN fr aD bY aL cY eR bZ hq qH;go_upto_region 15 with fail
        go_still_tail 34,(by kernel_rfl)
        change wpList _ _ _ _ _ wr.drew;obtain⟨w8,fJ⟩:=x4 wr.drew;have eG:Below wr wr w8:=by rw[fJ];exact qb (Below.refl _ wr) 1
        have Ka:Hid (IL w8 E (q2b C (List.replicate m 0) r i (kt (q2c p m (zm A i) B (k+1)) (q2c p m (zm A i) B k) j)).flatten):=(lhd (by rw[fJ];exact HE.out))
        rw[<-fJ]
        replace iF:=xf eG (World.block_lt_of_cell? wr ⟨E,at',Z⟩ fZ) iF
        replace fZ:=J eG fZ
        have H8:=lhd eG;have NP:=lhd lS;clear eG fJ c0 c2 q3 o3 d0;go_wp2;go_roundw
        case measure=>simp[vI];omega
        case rel =>obtain⟨fr,bY,aA,ig,eW⟩:=zK.out;have kC:=HH.a5;have h5:=Ka.out.put (k:=at') (by rw[q6u (q7s kC.wid (by simp) eW),q7r kC.len db,<-fb.out.1];exact zO) nv;rw[bY,qff (z:=List.replicate m 0) kC.len kC.wid (by simp) db eW cj,<-fr,q2t (by rw[aA,ig]) (by rw[aA];exact cj),<-bY,fr]at h5;refine⟨j+1,qh (by omega),by omega,(show Hid _ from .inr NP.out),(lhd h5),(lhd ((HK.out.below H8.out).set _ _)),(lhd (((btr HB.out H8.out)).setCell (by have:=HN.b4;exact this) _))⟩
       ·have eZ:¬(0<x):=lS;have S9:=lhd (show j6 (zm A i) k=0 from by have:=HX.out;omega);have Ha:=lhd (show j=0 from S8.out.resolve_right lS);go_wp2;go_roundw
        case measure=>simp[vI];omega
        case rel =>refine⟨k+1,qh (by omega),by omega,(show Hid _ from ?_),HK,HB⟩;have:=HE.out;rw[Ha.out,q17]at this;rw[qmo S9.out];exact this
      ·have np:j=m:=by omega
       subst np;go_wp2;go_roundw
       case measure=>simp[vI];omega
       case rel =>refine⟨k+1,qh (by omega),by omega,(show Hid _ from ?_),HK,HB⟩;have:=HE.out;rw[q26 (q2v ..) (q2v ..)]at this;exact this
    ·have aM:k=n:=by omega
     go_wp2;go_roundw
     case measure=>simp[vI];omega
     case rel =>
      refine⟨i+1,qh (by omega),by omega,(show Hid _ from ?_),HK,HB⟩;have h5:=HE.out;have kC:=HH.a5;rw[<-qkv kC.len db];have h6:zm C i=q2c p m (zm A i) B k:=by have h7:(zm A i).length=n:=(HH.a3.row db).1;rw[HH.a6,aM,<-h7];unfold mulM;show (A.map _).getD i []=_;rw[gb,List.getElem?_map,q1k (by rw[HH.a3.len];exact db)];rfl
      rw[h6];exact h5
  ·have hie:i=r:=by omega
   obtain⟨aL,cY,eR,bZ,fR⟩:=HN.out;have o0:=HK.out.cell _ _ aL HG.out.1;have o1:=HK.out.cell _ _ aL HG.a1;have o2:=HK.out.cell _ _ aL HG.a2;have o3:=HK.out.cell _ _ aL HG.a3;have dG:=HG.a4;have aG:=Dy.out;have aV:w.heap.size+1+1<W:=by omega
   obtain⟨s0,s1,s2,s3,z,_⟩:=HC.b7;have r0:=HK.out.cell _ _ bZ (J dG s0);have r1:=HK.out.cell _ _ bZ (J dG s1);have r2:=HK.out.cell _ _ bZ (J dG s2);have r3:=HK.out.cell _ _ bZ (J dG s3);have f:∀j,wr.frozen? ⟨w+1+1,j,Z⟩=false:=fun j=>HK.out.q5d _ bZ (gz aV dG.size) (xf dG aV (z j))
   have f0:=f 0;have f1:=f 1;have f2:=f 2;have f3:=f 3;have HL:=yh bZ fR aG;clear s0 s1 s2 s3 f dG z aV aL cY eR bZ fR aG;go_wp2_with fail;have e0:∀(x y z u:ε),((((wr.setCell (w+1+1:Nat) x).setCell ⟨w+1+1,1,Z⟩ y).setCell ⟨w+1+1,2,Z⟩ z).setCell ⟨w+1+1,3,Z⟩ u) (w+1+1:Nat)=Y x:=fun x y z u =>x8 (x8 (x8 (World.cell?_setCell_same' _ _ _ (by rw[r0];rfl)) (by simp)) (by simp)) (by simp)
   have e1:∀(x y z u:ε),((((wr.setCell (w+1+1:Nat) x).setCell ⟨w+1+1,1,Z⟩ y).setCell ⟨w+1+1,2,Z⟩ z).setCell ⟨w+1+1,3,Z⟩ u) ⟨w+1+1,1,Z⟩=Y y:=fun x y z u =>x8 (x8 (World.cell?_setCell_same' _ _ _ (by rw[x8 r1 (by simp)];rfl)) (by simp)) (by simp)
   have e2:∀(x y z u:ε),((((wr.setCell (w+1+1:Nat) x).setCell ⟨w+1+1,1,Z⟩ y).setCell ⟨w+1+1,2,Z⟩ z).setCell ⟨w+1+1,3,Z⟩ u) ⟨w+1+1,2,Z⟩=Y z:=fun x y z u =>x8 (World.cell?_setCell_same' _ _ _ (by rw[x8 (x8 r2 (by simp)) (by simp)];rfl)) (by simp)
   have e3:∀(x y z u:ε),((((wr.setCell (w+1+1:Nat) x).setCell ⟨w+1+1,1,Z⟩ y).setCell ⟨w+1+1,2,Z⟩ z).setCell ⟨w+1+1,3,Z⟩ u) ⟨w+1+1,3,Z⟩=Y u:=fun x y z u =>World.cell?_setCell_same' _ _ _ (by rw[x8 (x8 (x8 r3 (by simp)) (by simp)) (by simp)];rfl)
   rw[<-fb.out.1];have aT:Below w w wr:=(btr mJ.out HB.out);have h2:w.heap.size<=w+1+1:=by omega
   refine bodyPost_ret (v:=ψ #[I #[p,r,m,O E NN NN],τ true]) (by simp[results,Tryz.results19,go_sem,e0,e1,e2,e3]) rfl ⟨E,rfl,?_,?_,?_,(((aT.setCell (by exact h2) _).setCell (by exact h2) _).setCell (by exact h2) _).setCell (by exact h2) _⟩
   ·have:=HL.a1;have:=HL.b2;omega
   ·have h1:=HG.b6;have h2:=HK.out.size;simp only [World.size_setCell];omega
   ·have h5:=HE.out;rw[hie,qcm HH.a5.len]at h5;exact(((h5.set _ _ HL.out.1).set _ _ HL.out.1).set _ _ HL.out.1).set _ _ HL.out.1
theorem qsw (v u:ε)(E F:List Int)(w:δ)(h:Sl w 1 v (ints E))(k:Sl w 1 u (ints F)) :
  Calls Tryz.prog 11 #[v,u] w fun e w'=>e=.returned (τ (decide (E=F)))/\Below w w w':=by
 obtain⟨a,n,ac,rfl⟩:=qg h;obtain⟨b,m,bc,rfl⟩:=qg k;have hn:=h.open.2.2.1;have hm:=k.open.2.2.1;have tI:=h.open.1;have oy:=h.open.2.1;unfold maxLen at oy;rw[xl,gK]at hn hm;have HH:=yt h k hn hm;clear h k hn hm;by_cases he:n=m
 ·subst he;go_enter Tryz.func11,Tryz.ntmps11;have B9:((n:Int) != (n:Int))=false:=by simp
  go_wp2_with fail;go_loopw [5] (fun x wr=>∃i:Nat,x=i/\i<=n/\Hid (E.take i=F.take i)/\Hid (Below w w wr)) (fun x _=>n-(vI x).toNat)
  case atStart=>exact⟨0,rfl,gm _,(lhd (by rfl)),(lhd q9)⟩
  case round =>
   obtain⟨i,rfl,hi,HI,HB⟩:=hrel;by_cases eN:i<n
   ·have BC:(i:Int)<n:=by omega
    obtain⟨ad,x,rfl,hx,d0⟩:=q00 (HH.out.1.keep HB.out) eN;obtain⟨bd,y,rfl,hy,d1⟩:=q00 (HH.a1.keep HB.out) eN;have HX:=jg hx hy;clear hx hy;by_cases hxy:x=y
    ·have ht:(x != y)=false:=by simpa using hxy
     have HE:=lhd hxy;clear hxy;go_wp2_with fail
     go_quiet (fail)
     go_wp2;go_roundw
     case measure=>simp[vI];omega
     case rel =>refine⟨i+1,qh (by omega),by omega,(show Hid _ from ?_),(lhd (qb HB.out _))⟩;rw[gC,gC,HI.out,HX.out.1,HX.out.2,HE.out];exact rfl
    ·have ht:(x != y)=true:=by simpa using hxy
     have HE:=lhd hxy;clear hxy;go_wp2_with fail
     go_quiet (fail)
     go_wp2;go_ret;refine⟨?_,qb HB.out _⟩;rw[decide_eq_false fun e=>?_]
     ·rfl
     ·have h1:=HX.out.1;rw[e,HX.out.2]at h1;injection h1 with h1
      exact HE.out h1.symm
   ·have hie:i=n:=by omega
    have NQ:=lhd hie;clear hie;go_wp2;go_ret;refine⟨?_,HB.out⟩;have h1:=HI.out;rw[gr (by rw[HH.a2,NQ.out];exact nlr _),gr (by rw[HH.b3,NQ.out];exact nlr _)]at h1;rw[decide_eq_true h1];rfl
 ·have SA:((n:Int) != (m:Int))=true:=by simp;omega
  have HE:=lhd he;clear he;go_enter Tryz.func11,Tryz.ntmps11;go_wp2;go_ret;refine⟨?_,q9⟩;rw[decide_eq_false fun e=>?_]
  ·rfl
  ·subst e;exact HE.out (HH.a2.symm.trans HH.b3)
section
variable (w:δ)(o o' o'':Obj)(c:Array ε)(t:TypeId)(i:Nat){u:ε}(h:c[i]? =Y u)
include h
theorem xz:(w.alloc (.cells c t)) ⟨w,i,Z⟩=Y u:=(qd w c t (0,0) i).trans h
theorem zx:((w.alloc o).alloc (.cells c t)) ⟨w+1,i,Z⟩=Y u:=by have:=xz (w.alloc o) c t i h;rwa [World.size_alloc]at this
theorem jw:(((w.alloc o).alloc o').alloc (.cells c t)) ⟨w+1+1,i,Z⟩=Y u:=by have:=zx (w.alloc o) o' c t i h;rwa [World.size_alloc]at this
theorem q9k:((((w.alloc o).alloc o').alloc o'').alloc (.cells c t)) ⟨w+1+1+1,i,Z⟩=Y u:=by have:=jw (w.alloc o) o' o'' c t i h;rwa [World.size_alloc]at this
omit h
theorem q6w:(w.alloc (.cells c t)).frozen? ⟨w,i,Z⟩=false:=jz (heap_alloc_new w _) i
theorem vo:((w.alloc o).alloc (.cells c t)).frozen? ⟨w+1,i,Z⟩=false:=by have:=q6w (w.alloc o) c t i;rwa [World.size_alloc]at this
theorem q1e:(((w.alloc o).alloc o').alloc (.cells c t)).frozen? ⟨w+1+1,i,Z⟩=false:=by have:=vo (w.alloc o) o' c t i;rwa [World.size_alloc]at this
theorem qon:((((w.alloc o).alloc o').alloc o'').alloc (.cells c t)).frozen? ⟨w+1+1+1,i,Z⟩=false:=by have:=q1e (w.alloc o) o' o'' c t i;rwa [World.size_alloc]at this
end
theorem q27 {w:δ}{p:Addr}(hp:p.block<w)(h:w.frozen? p=false)(o:Obj):(w.alloc o).frozen? p=false:=xf (bal w o) hp h
theorem q1f {w:δ}{B:Nat}{x0 x1 x2 x3:ε}(r0:w B=Y x0)(r1:w ⟨B,1,Z⟩=Y x1)(r2:w ⟨B,2,Z⟩=Y x2)(r3:w ⟨B,3,Z⟩=Y x3) :
  (∀a b c d:ε,((((w.setCell B a).setCell ⟨B,1,Z⟩ b).setCell ⟨B,2,Z⟩ c).setCell ⟨B,3,Z⟩ d) B=Y a)/\(∀a b c d:ε,((((w.setCell B a).setCell ⟨B,1,Z⟩ b).setCell ⟨B,2,Z⟩ c).setCell ⟨B,3,Z⟩ d) ⟨B,1,Z⟩=Y b) ∧
  (∀a b c d:ε,((((w.setCell B a).setCell ⟨B,1,Z⟩ b).setCell ⟨B,2,Z⟩ c).setCell ⟨B,3,Z⟩ d) ⟨B,2,Z⟩=Y c)/\(∀a b c d:ε,((((w.setCell B a).setCell ⟨B,1,Z⟩ b).setCell ⟨B,2,Z⟩ c).setCell ⟨B,3,Z⟩ d) ⟨B,3,Z⟩=Y d) :=
 ⟨fun a b c d=>x8 (x8 (x8 (World.cell?_setCell_same' _ _ _ (by rw[r0];rfl)) (by simp)) (by simp)) (by simp),
  fun a b c d=>x8 (x8 (World.cell?_setCell_same' _ _ _ (by rw[x8 r1 (by simp)];rfl)) (by simp)) (by simp),
  fun a b c d=>x8 (World.cell?_setCell_same' _ _ _ (by rw[x8 (x8 r2 (by simp)) (by simp)];rfl)) (by simp),
  fun a b c d=>World.cell?_setCell_same' _ _ _ (by rw[x8 (x8 (x8 r3 (by simp)) (by simp)) (by simp)];rfl)⟩
theorem jj {b B:Nat}{w w':δ}(h:Below b w w')(hB:b<=B)(x0 x1 x2 x3:ε):Below b w ((((w'.setCell B x0).setCell ⟨B,1,Z⟩ x1).setCell ⟨B,2,Z⟩ x2).setCell ⟨B,3,Z⟩ x3) :=
 (((h.setCell (p:=B) hB _).setCell (p:=⟨B,1,Z⟩) hB _).setCell (p:=⟨B,2,Z⟩) hB _).setCell (p:=⟨B,3,Z⟩) hB _
theorem vl {w:δ}{base st n B:Nat}{e:TypeId}{v:ε}{xs:List ε}(h:w.ownsRow base e st v n xs)(hB:∀b,v.ownBlock=Y b->b≠B)(x0 x1 x2 x3:ε):((((w.setCell B x0).setCell ⟨B,1,Z⟩ x1).setCell ⟨B,2,Z⟩ x2).setCell ⟨B,3,Z⟩ x3).ownsRow base e st v n xs :=
 qji (qji (qji (qji h hB _) hB _) hB _) hB _
theorem qmp {p:Int}{r n m:Nat}{A B:List (List Int)}(hA:FM p r n A)(hB:FM p r m B){i:Nat}(hi:i<r):((jl A B).take (i+1)).flatten=((jl A B).take i).flatten++(zm A i++zm B i):=by rw[gC,q1k (by rw[(q0u hA hB).len];exact hi),qci hA hB hi,Option.toList_some,List.flatten_append,List.flatten_cons,List.flatten_nil,bl]
theorem qoo (p:Int)(r n m:Nat)(v u:Value)(A B:List (List Int))(w:World)(h:Sl w 1 v (ints A.flatten))(k:Sl w 1 u (ints B.flatten))(hA:FM p r n A)(hB:FM p r m B)(hr:r<=400)(hn:n<=400)(hm:m<=400) :
  Calls Tryz.prog 53 #[.agg #[p,r,n,v],.agg #[p,r,m,u]] w fun e w'=>∃s,e=.returned (.agg #[p,r,((n+m:Nat):Int),s])/\w'.ownsRow w 3 1 s (r*(n+m)) (ints (jl A B).flatten)/\Below w w w':=by
 obtain⟨a,an,ac,rfl⟩:=qg h;obtain⟨b,bn,bc,rfl⟩:=qg k;have oD:an=r*n:=by have:=h.open.2.2.1;rw[xl,hA.q1d]at this;omega
 have qE:bn=r*m:=by have:=k.open.2.2.1;rw[xl,hB.q1d]at this;omega
 obtain⟨s,hs⟩:=x4 (n+m);rw[<-hs];have ws:IntKind.i64.wrap ((n:Int)+(m:Int))=(s:Int):=by rw[hs,Int.natCast_add];exact IntWalk.i64_in _ (by omega)
 have HH:=q4q h k hA hB oD qE hs;clear h k hA hB oD qE hs;go_enter Tryz.func53,Tryz.ntmps53;go_wp2_with fail;obtain⟨W,hW⟩:=x4 ((((w.alloc (.cells #[p,r,n,.slice a an ac] 30)).alloc (.cells #[p,r,m,.slice b bn bc] 30)).alloc (.cells #[.int .i64 0,.int .i64 0,.int .i64 0,.slice none 0 0] 30)).alloc (.cells #[p,r,s,.slice none 0 0] 30));rw[<-hW];have hw:Below w w W:=by rw[hW];exact((((q9).alloc (nlr _) _).alloc (by simp) _).alloc (by simp;omega) _).alloc (by simp;omega) _
 have aG:W.heap.size=w+4:=by rw[hW];simp
 have p2:W ⟨w,2,none⟩=n:=by rw[hW];exact qk (qk (qk (xz w _ _ 2 rfl) _) _) _
 have p3:W ⟨w,3,none⟩=Value.slice a an ac:=by rw[hW];exact qk (qk (qk (xz w _ _ 3 rfl) _) _) _
 have q2:W ⟨w+1,2,none⟩=m:=by rw[hW];exact qk (qk (zx w _ _ _ 2 rfl) _) _
 have q3:W ⟨w+1,3,none⟩=Value.slice b bn bc:=by rw[hW];exact qk (qk (zx w _ _ _ 3 rfl) _) _
 have s0:W (w+1+1:Nat)=Value.int .i64 0:=by rw[hW];exact qk (jw w _ _ _ _ 0 rfl) _
 have s1:W ⟨w+1+1,1,none⟩=Value.int .i64 0:=by rw[hW];exact qk (jw w _ _ _ _ 1 rfl) _
 have s2:W ⟨w+1+1,2,none⟩=Value.int .i64 0:=by rw[hW];exact qk (jw w _ _ _ _ 2 rfl) _
 have s3:W ⟨w+1+1,3,none⟩=Value.slice none 0 0:=by rw[hW];exact qk (jw w _ _ _ _ 3 rfl) _
 have sz:∀i,W.frozen? ⟨w+1+1,i,none⟩=false:=fun i=>by rw[hW];exact q27 (by simp) (q1e w _ _ _ _ i) _
 have o0:W (w+1+1+1:Nat)=p:=by rw[hW];exact q9k w _ _ _ _ _ 0 rfl
 have o1:W ⟨w+1+1+1,1,none⟩=r:=by rw[hW];exact q9k w _ _ _ _ _ 1 rfl
 have o2:W ⟨w+1+1+1,2,none⟩=s:=by rw[hW];exact q9k w _ _ _ _ _ 2 rfl
 have o3:W ⟨w+1+1+1,3,none⟩=Value.slice none 0 0:=by rw[hW];exact q9k w _ _ _ _ _ 3 rfl
 have oz:W.frozen? ⟨w+1+1+1,3,none⟩=false:=by rw[hW];exact qon w _ _ _ _ _ 3
 have HC:=qb4 p2 p3 q2 q3 s0 s1 s2 s3 sz hw aG;have HO:=kg o0 o1 o2 o3 oz;clear hW p2 p3 q2 q3 s0 s1 s2 s3 sz hw aG o0 o1 o2 o3 oz;go_loopw [19] (fun x wr=>∃(i:Nat) (o:Value),x=i/\i<=r/\Hid (wr (w+1+1+1:Nat)=p/\wr ⟨w+1+1+1,1,none⟩=r/\wr ⟨w+1+1+1,2,none⟩=s/\wr ⟨w+1+1+1,3,none⟩=some o/\wr.frozen? ⟨w+1+1+1,3,none⟩=false/\wr.ownsRow (w+4) 3 1 o (i*s) (ints ((jl A B).take i).flatten))/\Hid (Below (w+3) W wr)) (fun x _=>r-(vI x).toNat)
 case atStart=>exact⟨0,.slice none 0 0,rfl,gm _,(lhd ⟨HO.out.1,HO.a1,HO.a2,HO.a3,HO.b4,by rw[Nat.zero_mul];exact World.ownsRow_nil _ _ _ _⟩),(lhd q9)⟩
 case round =>
  obtain⟨i,o,rfl,hi,HR,HB⟩:=hrel;by_cases db:i<r
  ·have rJ:(i:Int)<r:=by omega
   have bX:∀ {q:Nat} {c:Nat} {x:Value},q<w+3->W ⟨q,c,none⟩=some x->wr ⟨q,c,none⟩=some x:=fun hq hx=>(HB.out.cell (by exact hq)).trans hx
   have c2:=bX (by omega) HC.out.1;have c3:=bX (by omega) HC.a1;have d2:=bX (by omega) HC.a2;have d3:=bX (by omega) HC.a3;have e3:=HR.a3;have ez:=HR.a4;have rK:IntKind.i64.wrap ((i:Int)*(n:Int))=((i*n:Nat):Int):=kd (by omega) (by omega);have pj:IntKind.i64.wrap ((i:Int)+1)=((i+1:Nat):Int):=IntWalk.i64_in _ (by omega);have qF:IntKind.i64.wrap (((i+1:Nat):Int)*(n:Int))=(((i+1)*n:Nat):Int):=kd (by omega) (by omega);have wX:IntKind.i64.wrap ((i:Int)*(m:Int))=((i*m:Nat):Int):=kd (by omega) (by omega);have Kh:IntKind.i64.wrap (((i+1:Nat):Int)*(m:Int))=(((i+1)*m:Nat):Int):=kd (by omega) (by omega);obtain⟨ra,rc,hcut,aV⟩:=qdk HH.out.1 (x:=i*n) (y:=(i+1)*n) (gI n (by omega)) (by rw[HH.a4];exact gI n db);rw[succ_sub]at hcut aV;rw[q3z HH.a2 db]at aV;obtain⟨rb,rd,fK,uF⟩:=qdk HH.a1 (x:=i*m) (y:=(i+1)*m) (gI m (by omega)) (by rw[HH.a5];exact gI m db);rw[succ_sub]at fK uF;rw[q3z HH.a3 db]at uF;obtain⟨ix,lR⟩:=x4 (i*n);obtain⟨iy,oE⟩:=x4 ((i+1)*n);obtain⟨jx,CL⟩:=x4 (i*m);obtain⟨jy,NR⟩:=x4 ((i+1)*m);obtain⟨i1,eu⟩:=x4 (i+1);rw[<-lR]at rK hcut;rw[<-CL]at wX fK;rw[<-eu]at pj;rw[<-oE]at qF hcut;rw[<-NR]at Kh fK;rw[<-eu]at qF Kh;have al:=HR.b5;have aT:Below w w wr:=HC.a9.trans (HB.out.mono (by omega));obtain⟨is,oO⟩:=x4 (i*s);rw[<-oO]at al;obtain⟨oa,oc,pq⟩:=qj al;subst pq;have rT:is<=320000:=by rw[oO];exact gd (Nat.mul_le_mul (show i<=400 by omega) (show s<=800 by have:=HH.b6;omega)) (by decide)
   have hz:w.heap.size+4<=wr:=by have h1:=HB.out.size;have h2:=HC.b10;omega
   have HK:=q93 al aT aV uF (HH.a2.row db).1 (HH.a3.row db).1 eu oO rT hz;have tJ:=jg e3 ez;clear al aT aV uF eu lR oE CL NR oO rT hz bX;go_wp2_with fail;refine qp4 fun KO cD=>?_
   go_cut [22]from 23 to 50 (fun _ wx=>∃w2 fa fc,Hid (w2.ownsRow (w+4) 3 1 (.slice fa (is+n+m) fc) (is+n+m) (ints ((jl A B).take i).flatten++ints (zm A i)++ints (zm B i))/\Below (w+4) wr w2)/\wx=w2.setCell ⟨w+1+1+1,3,none⟩ (.slice fa (is+n+m) fc))
   case first =>
    rename_i At K2 hJ aQ;refine yg (by kernel_rfl) (VF [some (.pointer (some ⟨w+1+1+1,3,none⟩)),some (.slice oa is oc),some (.pointer (some ⟨w,3,none⟩)),some (.slice a an ac),some (i:Int),some (.pointer (some ⟨w,2,none⟩)),some (n:Int),some (ix:Int),some (i:Int),some (i1:Int),some (.pointer (some ⟨w,2,none⟩)),some (n:Int),some (iy:Int),some (.slice ra n rc),none,some (.pointer (some ⟨w+1,3,none⟩)),some (.slice b bn bc),some (i:Int),some (.pointer (some ⟨w+1,2,none⟩)),some (m:Int),some (jx:Int),some (i:Int),some (i1:Int),some (.pointer (some ⟨w+1,2,none⟩)),some (m:Int),some (jy:Int),some (.slice rb m rd),none,some (.pointer (some ⟨w+1+1+1,3,none⟩)),none]) [14,27] (fun vs w2=>Below (w+4) wr w2/\match vs with|[]=>w2.ownsRow (w+4) 3 1 (.slice oa is oc) is (ints ((jl A B).take i).flatten)|[v]=>w2.ownsRow (w+4) 3 1 v (is+n) (ints ((jl A B).take i).flatten++ints (zm A i))|[_,v]=>w2.ownsRow (w+4) 3 1 v (is+n+m) (ints ((jl A B).take i).flatten++ints (zm A i)++ints (zm B i))|_=>False) 29 20 53 rfl (by kernel_rfl) (by kernel_rfl) (by decide) (by kernel_rfl) (by kernel_rfl) (by kernel_rfl) (by decide) (by decide) (fun a w2=>K2 a w2) ?start ?pure ?eff ?last ?done
    case start=>exact⟨qb (Below.refl _ wr) 1,HK.out.1.drew⟩
    case pure =>
     intro i o ho hL hE a w' vs hT ai hd ab hsz;have fO:=(hT.1.cell (p:=⟨w,2,none⟩) (by simp <;> omega)).trans c2;have uy:=(hT.1.cell (p:=⟨w,3,none⟩) (by simp <;> omega)).trans c3;have iZ:=(hT.1.cell (p:=⟨w+1,2,none⟩) (by simp <;> omega)).trans d2;have nN:=(hT.1.cell (p:=⟨w+1,3,none⟩) (by simp <;> omega)).trans d3;have Ki:=(hT.1.cell (p:=⟨w+1+1+1,3,none⟩) (by simp <;> omega)).trans tJ.out.1
     match i,ho,hL,hE,ai,hd with
     |0,rfl,_,_,_,_ =>exact yb rfl (zr qu ab 5) (jv _ _ _ (by decide)) (gone rfl)
     |1,rfl,_,_,_,hd =>exact jm rfl (j8 hd 0) (yy _ _ _ _ _ (Ki)) (gone rfl)
     |2,rfl,_,_,_,_ =>exact yb rfl (zr qu ab 2) (jv _ _ _ (by decide)) (gone rfl)
     |3,rfl,_,_,_,hd =>exact jm rfl (j8 hd 2) (yy _ _ _ _ _ (uy)) (gone rfl)
     |4,rfl,_,_,_,_ =>exact jo (.inl rfl) ⟨_,rfl,fun _ h=>(zr qu ab 6).trans (osi h),rfl⟩
     |5,rfl,_,_,_,_ =>exact yb rfl (zr qu ab 2) (jv _ _ _ (by decide)) (gone rfl)
     |6,rfl,_,_,_,hd =>exact jm rfl (j8 hd 5) (qe0 _ _ _ (fO)) (gone rfl)
     |7,rfl,_,_,_,hd =>exact q0n rfl (j8 hd 4) (j8 hd 6) rfl (q2d rK _) (gone rfl)
     |8,rfl,_,_,_,_ =>exact jo (.inl rfl) ⟨_,rfl,fun _ h=>(zr qu ab 6).trans (osi h),rfl⟩
     |9,rfl,_,_,_,hd =>exact q0n rfl (j8 hd 8) rfl rfl (q1u pj _) (gone rfl)
     |10,rfl,_,_,_,_ =>exact yb rfl (zr qu ab 2) (jv _ _ _ (by decide)) (gone rfl)
     |11,rfl,_,_,_,hd =>exact jm rfl (j8 hd 10) (qe0 _ _ _ (fO)) (gone rfl)
     |12,rfl,_,_,_,hd =>exact q0n rfl (j8 hd 9) (j8 hd 11) rfl (q2d qF _) (gone rfl)
     |13,rfl,_,_,_,hd =>exact⟨rfl,gu _,qgh _ _ _ _ rfl _ _ _ (j8 hd 3) (j8 hd 7) (j8 hd 12) _ (hcut _) (gone rfl)⟩
     |14,ho,hL,hE,ai,hd =>exact absurd (by decide) hE
     |15,rfl,_,_,_,_ =>exact yb rfl (zr qu ab 3) (jv _ _ _ (by decide)) (gone rfl)
     |16,rfl,_,_,_,hd =>exact jm rfl (j8 hd 15) (yy _ _ _ _ _ (nN)) (gone rfl)
     |17,rfl,_,_,_,_ =>exact jo (.inl rfl) ⟨_,rfl,fun _ h=>(zr qu ab 6).trans (osi h),rfl⟩
     |18,rfl,_,_,_,_ =>exact yb rfl (zr qu ab 3) (jv _ _ _ (by decide)) (gone rfl)
     |19,rfl,_,_,_,hd =>exact jm rfl (j8 hd 18) (qe0 _ _ _ (iZ)) (gone rfl)
     |20,rfl,_,_,_,hd =>exact q0n rfl (j8 hd 17) (j8 hd 19) rfl (q2d wX _) (gone rfl)
     |21,rfl,_,_,_,_ =>exact jo (.inl rfl) ⟨_,rfl,fun _ h=>(zr qu ab 6).trans (osi h),rfl⟩
     |22,rfl,_,_,_,hd =>exact q0n rfl (j8 hd 21) rfl rfl (q1u pj _) (gone rfl)
     |23,rfl,_,_,_,_ =>exact yb rfl (zr qu ab 3) (jv _ _ _ (by decide)) (gone rfl)
     |24,rfl,_,_,_,hd =>exact jm rfl (j8 hd 23) (qe0 _ _ _ (iZ)) (gone rfl)
     |25,rfl,_,_,_,hd =>exact q0n rfl (j8 hd 22) (j8 hd 24) rfl (q2d Kh _) (gone rfl)
     |26,rfl,_,_,_,hd =>exact⟨rfl,gu _,qgh _ _ _ _ rfl _ _ _ (j8 hd 16) (j8 hd 20) (j8 hd 25) _ (fK _) (gone rfl)⟩
     |27,ho,hL,hE,ai,hd =>exact absurd (by decide) hE
     |28,rfl,_,_,_,_ =>exact yb rfl (zr qu ab 5) (jv _ _ _ (by decide)) (gone rfl)
     |29,ho,hL,hE,ai,hd =>exact absurd rfl hL
     |i+30,ho,hL,hE,ai,hd =>have:i+30<30:=(gh.1 ho).1;omega
    case eff =>
     intro s i o hs ho a w' vs hl hT hd hr ab hsz
     match s,hs,hr,hl with
     |0,hs,hr,hl =>obtain rfl:=osi hs;obtain rfl:=osi ho;obtain rfl:=gl hl;have f1:a 23 undef=.slice oa is oc:=j8 hd 1;have f13:a 35 undef=.slice ra n rc:=j8 hd 13;exact⟨rfl,qfe _ _ 23 rfl (w+4) 3 Tryz.xg Tryz.underlying23 rfl (by decide) (by decide) _ is _ f1 hT.2 (.slice ra n rc) n (ints (zm A i)) f13 (HK.a2.keep (HK.a1.trans (hT.1.mono (by omega)))) (by rw[xl,HK.a4,gK]) (q65 _) (by have:=HK.a8;omega) (gd HK.b9 hT.1.size) fun v' w2 h1 h2=>⟨v',rfl,hT.1.trans h2,h1⟩⟩
     |1,hs,hr,hl =>obtain rfl:=osi hs;obtain rfl:=osi ho;obtain⟨v1,rfl⟩:=List.length_eq_one_iff.1 hl;have f1:a 36 undef=v1:=hr 0 14 _ _ rfl rfl rfl (by decide);have f26:a 48 undef=.slice rb m rd:=j8 hd 26;exact⟨rfl,qfe _ _ 23 rfl (w+4) 3 Tryz.xg Tryz.underlying23 rfl (by decide) (by decide) _ (is+n) _ f1 hT.2 (.slice rb m rd) m (ints (zm B i)) f26 (HK.a3.keep (HK.a1.trans (hT.1.mono (by omega)))) (by rw[xl,HK.a5,gK]) (q65 _) (by have:=HK.a8;omega) (gd HK.b9 hT.1.size) fun v' w2 h1 h2=>⟨v',rfl,hT.1.trans h2,h1⟩⟩
     |s+2,hs,hr,hl=>cases hs
    case last =>intro o ho a w' vs hsz aO hl hT hf hr ab;obtain rfl:=osi ho;obtain⟨v1,v2,rfl⟩:=q51 hl;obtain⟨fa,fc,iI⟩:=qj hT.2;have g0:a 50 undef=.pointer (some ⟨w+1+1+1,3,none⟩):=hf 28 _ _ rfl rfl (by kernel_rfl) (by decide) _ rfl;have g1:a 49 undef=.slice fa (is+n+m) fc:=(hr 1 27 _ _ rfl rfl rfl).trans iI;refine⟨rfl,ju _ _ _ rfl _ _ g0 g1 (qbs _ _ _ _ _ _ ((hT.1.cell (p:=⟨w+1+1+1,3,none⟩) (by simp)).trans tJ.out.1) ((hT.1.frozen (p:=⟨w+1+1+1,3,none⟩) (by simp)).trans tJ.out.2)) ?_⟩;refine aQ _ _ (Met.intro (hJ _ _ ⟨a 22 undef,a 23 undef,a 24 undef,a 25 undef,a 26 undef,a 27 undef,a 28 undef,a 29 undef,a 30 undef,a 31 undef,a 32 undef,a 33 undef,a 34 undef,a 35 undef,a 36 undef,a 37 undef,a 38 undef,a 39 undef,a 40 undef,a 41 undef,a 42 undef,a 43 undef,a 44 undef,a 45 undef,a 46 undef,a 47 undef,a 48 undef,a 49 undef,a 50 undef,⟨w',fa,fc,(lhd ⟨iI ▸ hT.2,hT.1⟩),rfl⟩,(q8z hsz aO ab).trans ?_⟩));kernel_rfl
    case done=>exact fun _ _ h=>h
   case rest =>
    obtain⟨w2,fa,fc,HW,rfl⟩:=hcut;refine cD _ _ ?_;go_wp2;go_roundw
    case measure=>have h9:=HK.a6;simp[vI];omega
    case rel =>
     have h9:=HK.a6;have cC:is+n+m=i1*s:=by rw[HK.a7,h9,Nat.add_mul,Nat.one_mul,HH.b6,Nat.add_assoc]
     have dC:=fun (q:Nat) (x:Value) (hx:wr ⟨w+1+1+1,q,none⟩=some x)=>(HW.out.2.cell (p:=⟨w+1+1+1,q,none⟩) (by simp)).trans hx
     have cL:=(HW.out.2.frozen (p:=⟨w+1+1+1,3,none⟩) (by simp)).trans tJ.out.2;refine⟨i1,.slice fa (is+n+m) fc,rfl,by omega,(lhd ⟨x8 (dC 0 _ HR.out.1) (by simp),x8 (dC 1 _ HR.a1) (by simp),x8 (dC 2 _ HR.a2) (by simp),World.cell?_setCell_same' _ _ _ (by rw[dC 3 _ tJ.out.1];rfl),by simpa [World.frozen?_setCell]using cL,?_⟩),(lhd ((HB.out.trans (HW.out.2.mono (by omega))).setCell (by simp) _))⟩;rw[<-cC];refine qji ?_ (fun b hb=>?_) _
     ·rw[h9,qmp HH.a2 HH.a3 db,vk,vk,<-bj];exact HW.out.1
     ·have:=(HW.out.1.lt b hb).1;show b≠w+1+1+1;omega
  ·have hie:i=r:=by omega
   have bX:∀ {q:Nat} {c:Nat} {x:Value},q<w+3->W ⟨q,c,none⟩=some x->wr ⟨q,c,none⟩=some x:=fun hq hx=>(HB.out.cell (by exact hq)).trans hx
   obtain⟨s0,s1,s2,s3,sz,hw,aG⟩:=HC.b4;have r0:=bX (by omega) s0;have r1:=bX (by omega) s1;have r2:=bX (by omega) s2;have r3:=bX (by omega) s3;have z0:=(HB.out.frozen (p:=(w+1+1:Nat)) (by simp)).trans (sz 0);have z1:=(HB.out.frozen (p:=⟨w+1+1,1,none⟩) (by simp)).trans (sz 1);have z2:=(HB.out.frozen (p:=⟨w+1+1,2,none⟩) (by simp)).trans (sz 2);have z3:=(HB.out.frozen (p:=⟨w+1+1,3,none⟩) (by simp)).trans (sz 3);have x0:=HR.out.1;have x1:=HR.a1;have x2:=HR.a2;obtain⟨oa,oc,pq⟩:=qj HR.b5;subst pq;have x3:=HR.a3;have aT:Below w w wr:=hw.trans (HB.out.mono (by omega));have HQ:=jg aT HR.b5;clear bX s0 s1 s2 s3 sz hw aG aT;go_wp2_with fail;obtain⟨e0,e1,e2,e3⟩:=q1f r0 r1 r2 r3;have al:=HQ.out.2;rw[hie,gr (by rw[(q0u HH.a2 HH.a3).len];exact nlr _)]at al;have ak:∀b,(Value.slice oa (r*s) oc).ownBlock=some b->b≠w+1+1:=fun b hb=>by have:=(al.lt b hb).1;omega
   refine bodyPost_ret (v:=.agg #[p,r,s,.slice oa (r*s) oc]) (by simp[results,Tryz.results53,go_sem,e0,e1,e2,e3]) rfl ⟨.slice oa (r*s) oc,rfl,?_,jj HQ.out.1 (by omega) _ _ _ _⟩;exact vl (qf al (by omega)) ak _ _ _ _
theorem qop (p:Int)(r n m:Nat)(v u:ε)(A B:List (List Int))(w:δ)(h:Sl w 1 v (ints A.flatten))(k:Sl w 1 u (ints B.flatten))(hp:prI p=true)(hA:FM p r n A)(hB:FM p r m B)(hr:r<=400)(oy:n+m<=400) :
  Calls Tryz.prog 28 #[I #[p,r,n,v],I #[p,r,m,u]] w fun e w'=>∃s,e=.returned (ψ #[I #[p,r,((n+m:Nat):Int),s],τ true])/\w'.ownsRow w 3 1 s (r*(n+m)) (ints (jl A B).flatten)/\Below w w w':=by
 have HH:=yt h k hA hB;have HO:=jg (q3d hp hA hr (by omega)) (q3d hp hB hr (by omega));have ws:IntKind.i64.wrap ((n:Int)+(m:Int))=((n+m:Nat):Int):=by rw[Int.natCast_add];exact IntWalk.i64_in _ (by omega)
 obtain⟨s,hs⟩:=x4 (n+m);have Dh:¬((400:Int)<(s:Int)):=by omega
 rw[<-hs]at ws;have HS:=lhd hs;clear h k hA hB hp hs;go_enter Tryz.func28,Tryz.ntmps28;go_wp2_with fail;obtain⟨W,hW⟩:=x4 (((w.alloc (.cells #[p,r,n,v] 30)).alloc (.cells #[p,r,m,u] 30)).alloc (.cells #[H φ 0,H φ 0,H φ 0,O Z 0 0] 30));rw[<-hW];have hw:Below w w W:=by rw[hW];exact(((q9).alloc (nlr _) _).alloc (by simp) _).alloc (by simp;omega) _
 have aG:w.heap.size+3<=W:=by rw[hW];simp
 have p0:W w=p:=by rw[hW];exact qk (qk (xz w _ _ 0 rfl) _) _
 have p1:W ⟨w,1,Z⟩=r:=by rw[hW];exact qk (qk (xz w _ _ 1 rfl) _) _
 have p2:W ⟨w,2,Z⟩=n:=by rw[hW];exact qk (qk (xz w _ _ 2 rfl) _) _
 have p3:W ⟨w,3,Z⟩=Y v:=by rw[hW];exact qk (qk (xz w _ _ 3 rfl) _) _
 have q0:W (w+1:Nat)=p:=by rw[hW];exact qk (zx w _ _ _ 0 rfl) _
 have q1:W ⟨w+1,1,Z⟩=r:=by rw[hW];exact qk (zx w _ _ _ 1 rfl) _
 have q2:W ⟨w+1,2,Z⟩=m:=by rw[hW];exact qk (zx w _ _ _ 2 rfl) _
 have q3:W ⟨w+1,3,Z⟩=Y u:=by rw[hW];exact qk (zx w _ _ _ 3 rfl) _
 have s0:W (w+1+1:Nat)=H φ 0:=by rw[hW];exact jw w _ _ _ _ 0 rfl
 have s1:W ⟨w+1+1,1,Z⟩=H φ 0:=by rw[hW];exact jw w _ _ _ _ 1 rfl
 have s2:W ⟨w+1+1,2,Z⟩=H φ 0:=by rw[hW];exact jw w _ _ _ _ 2 rfl
 have s3:W ⟨w+1+1,3,Z⟩=O Z 0 0:=by rw[hW];exact jw w _ _ _ _ 3 rfl
 have sz:∀i,W.frozen? ⟨w+1+1,i,Z⟩=false:=fun i=>by rw[hW];exact q1e w _ _ _ _ i
 have HC:=q4q s0 s1 s2 s3 sz hw aG;clear hW s0 s1 s2 s3 sz hw aG;refine(qte p r n r m _ _ _ _ W (HH.out.1.keep HC.a5) (HH.a1.keep HC.a5) HO.out.1 HO.out.2).mono ?_;rintro e w1 ⟨rfl,ae⟩;have cX:=lhd ae
 replace p0:=J ae p0
 replace p1:=J ae p1
 replace p2:=J ae p2
 replace p3:=J ae p3
 replace q0:=J ae q0
 replace q1:=J ae q1
 replace q2:=J ae q2
 replace q3:=J ae q3
 clear ae;have Hb:((r:Int) != (r:Int))=false:=by simp
 go_wp2_with fail;refine(qoo p r n m _ _ A B w1 (HH.out.1.keep ((btr HC.a5 cX.out))) (HH.a1.keep ((btr HC.a5 cX.out))) HH.a2 HH.b3 hr (by omega) (by omega)).mono ?_;rintro e w2 ⟨js,rfl,Kj,aj⟩;rw[<-HS.out];obtain⟨ja,jc,np⟩:=qj Kj;subst np;have aI:Below W W w2:=(btr cX.out aj);obtain⟨s0,s1,s2,s3,sz,hw,aG⟩:=HC.out;have r0:=J aI s0;have r1:=J aI s1;have r2:=J aI s2;have r3:=J aI s3;have z0:=xf aI (p:=⟨w.heap.size+1+1,0,Z⟩) (by show w.heap.size+1+1<_;omega) (sz 0);have z1:=xf aI (p:=⟨w.heap.size+1+1,1,Z⟩) (by show w.heap.size+1+1<_;omega) (sz 1);have z2:=xf aI (p:=⟨w.heap.size+1+1,2,Z⟩) (by show w.heap.size+1+1<_;omega) (sz 2);have z3:=xf aI (p:=⟨w.heap.size+1+1,3,Z⟩) (by show w.heap.size+1+1<_;omega) (sz 3);have HQ:=jg Kj ((btr hw aI));clear s0 s1 s2 s3 sz hw aG aj aI Kj p0 p1 p2 p3 q0 q1 q2 q3 Hb;go_wp2_with fail;obtain⟨e0,e1,e2,e3⟩:=q1f r0 r1 r2 r3;obtain⟨al,aT⟩:=HQ.out;have ak:∀b,(O ja (r*(n+m)) jc).ownBlock=Y b->b≠w+1+1:=fun b hb=>by have:=(al.lt b hb).1;have:=HC.b6;have:=cX.out.size;omega
 refine bodyPost_ret (v:=ψ #[I #[p,r,s,O ja (r*(n+m)) jc],τ true]) (by simp[results,Tryz.results28,go_sem,e0,e1,e2,e3]) rfl ⟨O ja (r*(n+m)) jc,by rw[HS.out],vl (qf al (by have:=HC.a5.size;have:=cX.out.size;omega)) ak _ _ _ _,jj aT (by omega) _ _ _ _⟩
