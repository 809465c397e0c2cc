/- Steps towards SequenceChecks. Conditions: none. -/
import Derived.Test.YtmkpbhaoalbhjaaGreatDoorXRo
set_option maxRecDepth 1000000
set_option maxHeartbeats 0
open Go.Value renaming slice→O,agg→I,pointer→σ,bool→τ,int→H,tuple→ψ,string→ω
open Option renaming none→Z,some→Y
open Go renaming undef→V,World→δ,Value→ε
open Go.IntKind renaming i64→φ
open Go.Cx renaming keep→J
namespace Go.Cx
open Go.RowKit
variable {P:Program}{ops:Array Oper}{Q:Exit->Act->δ->Prop}
structure StB (bk:ε->Option Nat)(C:List (Nat×Nat))(g:Nat->ε->ε)(ops:Array Oper)(m:Nat)(F:Nat->ε->δ->Prop)(B:Nat->Bool)(a0:Act)(w0:δ)(l:Nat->Bool)(a:Act)(w:δ):Prop where
 sz:a.tmps.size=a0.tmps.size
 df:a.defers=a0.defers
 fact:∀(i:Nat) (o:Oper) (d:Nat),ops[i]? =Y o->o.dst=Y d->l i=true->F i (a d V) w
 base:∀s,(∀(i:Nat) (o:Oper),i<m->ops[i]? =Y o->o.dst≠Y s)->a s V=a0 s V
 below:Below w0 w0 w
 box:∀(i:Nat) (o:Oper) (d:Nat),ops[i]? =Y o->o.dst=Y d->l i=true->B i=true->∃p,bk (a d V)=Y p/\p<w
 apart:∀(i:Nat) (o:Oper) (d:Nat) (j:Nat) (o':Oper) (d':Nat),ops[i]? =Y o->o.dst=Y d->ops[j]? =Y o'->o'.dst=Y d'->l i=true->l j=true->B i=true->B j=true->i≠j->bk (a d V)≠bk (a.tmps.getD d' V)
 copy:∀c∈C,l c.1=true->∀(o:Oper) (d:Nat) (o':Oper) (d':Nat),ops[c.1]? =Y o->o.dst=Y d->ops[c.2]? =Y o'->o'.dst=Y d'->a d V=g c.1 (a.tmps.getD d' V)
theorem qei {id:Nat}{a0:Act}{w:δ}(hm:P.follows .mixedOrders=true)(F:Nat->ε->δ->Prop)(B:Nat->Bool)(bk:ε->Option Nat)(C:List (Nat×Nat))(g:Nat->ε->ε)(hC:C.all (fun c=>dep .any ops c.1 c.2)=true)(m f n:Nat)(hn:a0.tmps.size=n)(hd:q6a ops n=true)(lP:qmk .any ops=true)(kO:q5r ops m f=true)
  (Fin:Nat->Act->δ->Prop)
  (hF:∀i v w w',F i v w->Below w w w'->F i v w')
  (dq:∀(i:Nat) (o:Oper),ops[i]? =Y o->i<m->∀(a:Act) (w':δ),Below w w w'->(∀(j:Nat) (oj:Oper) (dj:Nat),ops[j]? =Y oj->oj.dst=Y dj->dep .any ops i j=true->F j (a dj V) w') →
   (∀s,(∀(i:Nat) (o:Oper),i<m->ops[i]? =Y o->o.dst≠Y s)->a s V=a0 s V)->a.tmps.size=n →
   Region.wanted o (yielded ops a.tmps)=true/\o.dst≠Z/\Oper.wp P o a w' (fun a' w''=>∃v,a'=a.put o.dst v/\F i v w''/\Below w' w' w''/\(B i=true->∃p,bk v=Y p/\w'<=p/\p<w''.heap.size)/\(∀c∈C,c.1=i->∀(o':Oper) (d':Nat),ops[c.2]? =Y o'->o'.dst=Y d'->v=g i (a.tmps.getD d' V))) Q)
  (rV:∀(a:Act) (w':δ),a.tmps.size=n->a.defers=a0.defers->(∀(i:Nat) (o:Oper) (d:Nat),ops[i]? =Y o->o.dst=Y d->i<m->F i (a d V) w') →
   (∀s,(∀(i:Nat) (o:Oper),i<m->ops[i]? =Y o->o.dst≠Y s)->a s V=a0 s V)->Below w w w' →
   (∀(i:Nat) (o:Oper) (d:Nat) (j:Nat) (o':Oper) (d':Nat),ops[i]? =Y o->o.dst=Y d->ops[j]? =Y o'->o'.dst=Y d'->i<m->j<m->B i=true->B j=true->i≠j->bk (a d V)≠bk (a.tmps.getD d' V))->(∀c∈C,c.1<m->∀(o:Oper) (d:Nat) (o':Oper) (d':Nat),ops[c.1]? =Y o->o.dst=Y d->ops[c.2]? =Y o'->o'.dst=Y d'->a d V=g c.1 (a.tmps.getD d' V))->Fin 0 a w')
  (rW:∀(k:Nat) (o:Oper),ops[m+k]? =Y o->∀(a:Act) (w':δ),Fin k a w'->Region.wanted o (yielded ops a.tmps)=true/\Oper.wp P o a w' (fun a' w''=>Fin (k+1) a' w'') Q)
  (cZ:∀(a:Act) (w':δ),Fin (ops.size-m) a w'->Q .normal a w') :
  (Code.region id ops true).wp P Q a0 w:=by
 have lQ:=qbq hd;unfold q5r at kO;rw[gM,gM,decide_eq_true_eq]at kO;obtain⟨⟨D8,iI⟩,nP⟩:=kO;have eH:∀i,i<m->reach ops f m i=true:=fun i hi=>gE.1 iI i (gF.2 hi)
 have dt:∀k,m<k->k<ops.size->dep .any ops k (k-1)=true:=fun k h1 h2=>by have:=gE.1 nP k (gF.2 h2);rw[Bool.or_eq_true,decide_eq_true_eq]at this;exact this.resolve_left (by omega)
 have down:∀(l:Nat->Bool),(∀i,l i=true->∀j,dep .any ops i j=true->l j=true)->(∀j,l j=true->j<ops.size)->∀k j,j<=k->l (m+k)=true->l (m+j)=true:=fun l hc hb k j mH hk=>by
  induction k with
  |zero=>rw[show j=0 by omega];exact hk
  |succ k ih =>
   rcases gG j (k+1)with ak|B0
   ·refine ih (by omega) ?_;have:=hc _ hk _ (dt (m+(k+1)) (by omega) (hb _ hk))
    rwa [show m+(k+1)-1=m+k by omega]at this
   ·rw[show j=k+1 by omega];exact hk
 refine qdc hm lP (fun l a w'=>(∀i,l i=true->∀j,dep .any ops i j=true->l j=true)/\(∀j,l j=true->j<ops.size)/\(l m=false->StB bk C g ops m F B a0 w l a w')/\(∀k,l (m+k)=true->l (m+(k+1))=false->Fin (k+1) a w')) ?_ ?_ ?_
 ·exact⟨fun i h=>absurd h Bool.false_ne_true,fun i h=>absurd h Bool.false_ne_true,fun _=>⟨rfl,rfl,fun _ _ _ _ _ h=>absurd h Bool.false_ne_true,fun _ _=>rfl,qb (Below.refl _ w) 1,fun _ _ _ _ _ h=>absurd h Bool.false_ne_true,fun _ _ _ _ _ _ _ _ _ _ h=>absurd h Bool.false_ne_true,fun _ _ h=>absurd h Bool.false_ne_true⟩,fun k h=>absurd h Bool.false_ne_true⟩
 ·intro i o ho l a w' jA aK ⟨hc,hb,h1,h2⟩;have dT:=(gh.1 ho).1;have dF:∀j,(fun j=>j == i || l j) j=true->∀k,dep .any ops j k=true->(fun j=>j == i || l j) k=true:=fun j hj k hk=>by
   simp only [Bool.or_eq_true,beq_iff_eq]at hj ⊢;rcases hj with rfl|hj
   ·exact .inr (aK k hk)
   ·exact .inr (hc j hj k hk)
  have bX:∀j,(fun j=>j == i || l j) j=true->j<ops.size:=fun j hj=>by
   simp only [Bool.or_eq_true,beq_iff_eq]at hj;rcases hj with rfl|hj
   ·exact dT
   ·exact hb j hj
  by_cases aD:i<m
  ·have dU:l m=false:=by
    cases hc':l m with
    |false=>rfl
    |true =>have:=q1h hc f m i (eH i aD) hc';rw[jA]at this;cases this
   have ag:=h1 dU;obtain⟨hw,kD,fB⟩:=dq i o ho aD a w' ag.below (fun j oj dj hj ar qI=>ag.fact j oj dj hj ar (aK j qI)) ag.base (ag.sz.trans hn);refine⟨hw,Oper.wp_mono (fun a' w'' hx=>?_) fB⟩;obtain⟨v,rfl,hv,ni,fF,uf⟩:=hx;obtain⟨d,dw⟩:=Option.ne_none_iff_exists'.1 kD;obtain⟨iZ,nN⟩:=lQ i o d ho dw;refine⟨dF,bX,fun _=>?_,fun k hk=>?_⟩
   ·rw[dw];have old:∀j (oj:Oper) dj,ops[j]? =Y oj->oj.dst=Y dj->j≠i->(a.put (Y d) v).tmps.getD dj V=a dj undef:=fun j oj dj hj ar aH=>by rw[q3s,if_neg (fun e=>nN j oj hj aH (by rw[ar,e.1]))]
    have new:(a.put (Y d) v).tmps.getD d V=v:=by rw[q3s,if_pos ⟨rfl,by rw[ag.sz,hn];exact iZ⟩]
    have ij:∀j,j≠i->(j == i || l j)=true->l j=true:=fun j aH cy=>by
     have:(j == i)=false:=by simpa using aH
     rwa [this,Bool.false_or]at cy
    have same:∀(oj:Oper) dj,ops[i]? =Y oj->oj.dst=Y dj->dj=d:=fun oj dj hj ar=>by
     rw[ho]at hj;injection hj with hj;subst hj
     rw[dw]at ar;injection ar with ar;exact ar.symm
    refine⟨by show (a.tmps.setIfInBounds d v).size=_;simpa using ag.sz,ag.df,fun j oj dj hj ar cy=>?_,fun s hs=>?_,(btr ag.below ni),fun j oj dj hj ar cy hB=>?_,fun j oj dj k ok dk hj ar hk bN cy eh pw px ah=>?_,fun c ej E5 oj dj ok dk hj ar hk bN=>?_⟩
    ·by_cases aH:j=i
     ·subst aH;rw[same oj dj hj ar,new];exact hv
     ·rw[old j oj dj hj ar aH];exact hF _ _ _ _ (ag.fact j oj dj hj ar (ij j aH cy)) ni
    ·rw[q3s,if_neg (fun e=>hs i o aD ho (by rw[dw,e.1]))];exact ag.base s hs
    ·by_cases aH:j=i
     ·subst aH;obtain⟨p,h3,_,h4⟩:=fF hB;exact⟨p,by rw[same oj dj hj ar,new];exact h3,h4⟩
     ·obtain⟨p,h3,h4⟩:=ag.box j oj dj hj ar (ij j aH cy) hB;exact⟨p,by rw[old j oj dj hj ar aH];exact h3,gz h4 ni.size⟩
    ·by_cases aH:j=i
     ·subst aH;have eO:k≠j:=fun e=>ah e.symm
      obtain⟨p,h3,h5,_⟩:=fF pw;obtain⟨q,h6,h7⟩:=ag.box k ok dk hk bN (ij k eO eh) px;rw[same oj dj hj ar,new,old k ok dk hk bN eO,h3,h6];intro e;injection e with e;omega
     ·by_cases eO:k=i
      ·subst eO;obtain⟨p,h3,h5,_⟩:=fF px;obtain⟨q,h6,h7⟩:=ag.box j oj dj hj ar (ij j aH cy) pw;rw[same ok dk hk bN,new,old j oj dj hj ar aH,h3,h6];intro e;injection e with e;omega
      ·rw[old j oj dj hj ar aH,old k ok dk hk bN eO];exact ag.apart j oj dj k ok dk hj ar hk bN (ij j aH cy) (ij k eO eh) pw px ah
    ·have uA:dep .any ops c.1 c.2=true:=gE.1 hC c ej;by_cases aH:c.1=i
     ·have A2:c.2≠i:=fun e=>by have:=aK c.2 (aH ▸ uA);rw[e,jA]at this;cases this
      rw[old c.2 ok dk hk bN A2,same oj dj (aH ▸ hj) ar,new,aH];exact uf c ej aH ok dk hk bN
     ·have oT:=ij c.1 aH E5;have A2:c.2≠i:=fun e=>by have:=hc c.1 oT c.2 uA;rw[e,jA]at this;cases this
      rw[old c.2 ok dk hk bN A2,old c.1 oj dj hj ar aH];exact ag.copy c ej oT oj dj ok dk hj ar hk bN
   ·exfalso
    simp only [Bool.or_eq_true,beq_iff_eq]at hk;rcases hk with hk|hk
    ·omega
    ·have:=down l hc hb k 0 (gm _) hk;rw[Nat.add_zero,dU]at this;cases this
  ·obtain⟨k,rfl⟩:∃k,i=m+k:=⟨i-m,by omega⟩
   have zQ:Fin k a w':=by
    cases k with
    |zero =>
     rw[Nat.add_zero]at jA aK;have ag:=h1 jA;have ao:∀j,j<m->l j=true:=fun j hj=>by
      have hr:=eH j hj;cases f with
      |zero=>cases hr
      |succ f =>
       unfold reach at hr;rw[Bool.or_eq_true]at hr;rcases hr with hr|hr
       ·exact aK j hr
       ·obtain⟨k,_,hk⟩:=List.any_eq_true.1 hr;rw[gM]at hk;exact q1h hc f k j hk.2 (aK k hk.1)
     exact rV a w' (ag.sz.trans hn) ag.df (fun i o d ho dw aD=>ag.fact i o d ho dw (ao i aD)) ag.base ag.below (fun i o d j o' d' hi eI hj ar h1 h2 aF aI ah=>ag.apart i o d j o' d' hi eI hj ar (ao i h1) (ao j h2) aF aI ah) (fun c ej h1=>ag.copy c ej (ao c.1 h1))
    |succ k =>
     refine h2 k ?_ jA;have:=aK _ (dt (m+(k+1)) (by omega) dT)
     rwa [show m+(k+1)-1=m+k by omega]at this
   obtain⟨hw,fB⟩:=rW k o ho a w' zQ;refine⟨hw,Oper.wp_mono (fun a' w'' hx=>⟨dF,bX,fun h=>?_,fun j hj zS=>?_⟩) fB⟩
   ·exfalso
    simp only [Bool.or_eq_false_iff,beq_eq_false_iff_ne]at h;cases k with
    |zero=>exact h.1 rfl
    |succ k =>have h3:=aK _ (dt (m+(k+1)) (by omega) dT);rw[show m+(k+1)-1=m+k by omega]at h3;have:=down l hc hb k 0 (gm _) h3;rw[Nat.add_zero,h.2]at this;cases this
   ·have mH:j=k:=by
     simp only [Bool.or_eq_true,beq_iff_eq]at hj;simp only [Bool.or_eq_false_iff,beq_eq_false_iff_ne]at zS;rcases hj with hj|hj
     ·omega
     ·rcases Nat.lt_trichotomy j k with h|h|h
      ·exfalso
       obtain⟨k',rfl⟩:∃k',k=k'+1:=⟨k-1,by omega⟩
       have h3:=aK _ (dt (m+(k'+1)) (by omega) dT);rw[show m+(k'+1)-1=m+k' by omega]at h3;rcases gG j k' with h4|h4
       ·have:=down l hc hb k' (j+1) (by omega) h3;rw[zS.2]at this;cases this
       ·exact zS.1 (by omega)
      ·exact h
      ·exfalso
       have:=down l hc hb j k (by omega) hj;rw[jA]at this;cases this
    rw[mH];exact hx
 ·intro l a w' ao ⟨_,hb,_,h2⟩;have h3:=h2 (ops.size-m-1) (ao _ (by omega)) (by
   cases hc':l (m+(ops.size-m-1+1))with
   |false=>rfl
   |true=>have:=hb _ hc';omega)
  rw[show ops.size-m-1+1=ops.size-m by omega]at h3;exact cZ a w' h3
theorem q01 {id:Nat}{a0:Act}{w:δ}(hm:P.follows .mixedOrders=true)(F:Nat->ε->δ->Prop)(B:Nat->Bool)(bk:ε->Option Nat)(C:List (Nat×Nat))(g:Nat->ε->ε)(hC:C.all (fun c=>dep .any ops c.1 c.2)=true)(m f n:Nat)(hn:a0.tmps.size=n)(hd:q6a ops n=true)(lP:qmk .any ops=true)(kO:q5r ops m f=true)
  (hF:∀i v w w',F i v w->Below w w w'->F i v w')
  (dq:∀(i:Nat) (o:Oper),ops[i]? =Y o->i<m->∀(a:Act) (w':δ),Below w w w'->(∀(j:Nat) (oj:Oper) (dj:Nat),ops[j]? =Y oj->oj.dst=Y dj->dep .any ops i j=true->F j (a dj V) w') →
   (∀s,(∀(i:Nat) (o:Oper),i<m->ops[i]? =Y o->o.dst≠Y s)->a s V=a0 s V)->a.tmps.size=n →
   Region.wanted o (yielded ops a.tmps)=true/\o.dst≠Z/\Oper.wp P o a w' (fun a' w''=>∃v,a'=a.put o.dst v/\F i v w''/\Below w' w' w''/\(B i=true->∃p,bk v=Y p/\w'<=p/\p<w''.heap.size)/\(∀c∈C,c.1=i->∀(o':Oper) (d':Nat),ops[c.2]? =Y o'->o'.dst=Y d'->v=g i (a.tmps.getD d' V))) Q)
  (rV:∀(a:Act) (w':δ),a.tmps.size=n->a.defers=a0.defers->(∀(i:Nat) (o:Oper) (d:Nat),ops[i]? =Y o->o.dst=Y d->i<m->F i (a d V) w') →
   (∀s,(∀(i:Nat) (o:Oper),i<m->ops[i]? =Y o->o.dst≠Y s)->a s V=a0 s V)->Below w w w' →
   (∀(i:Nat) (o:Oper) (d:Nat) (j:Nat) (o':Oper) (d':Nat),ops[i]? =Y o->o.dst=Y d->ops[j]? =Y o'->o'.dst=Y d'->i<m->j<m->B i=true->B j=true->i≠j->bk (a d V)≠bk (a.tmps.getD d' V))->(∀c∈C,c.1<m->∀(o:Oper) (d:Nat) (o':Oper) (d':Nat),ops[c.1]? =Y o->o.dst=Y d->ops[c.2]? =Y o'->o'.dst=Y d'->a d V=g c.1 (a.tmps.getD d' V)) →
   ∃T:Nat->Act->δ->Prop,T 0 a w'/\(∀(k:Nat) (o:Oper),ops[m+k]? =Y o->∀a1 w1,T k a1 w1->Region.wanted o (yielded ops a1.tmps)=true/\Oper.wp P o a1 w1 (fun a2 w2=>T (k+1) a2 w2) Q)/\∀a1 w1,T (ops.size-m) a1 w1->Q .normal a1 w1) :
  (Code.region id ops true).wp P Q a0 w :=
 qei hm F B bk C g hC m f n hn hd lP kO (fun k a w'=>∃T:Nat->Act->δ->Prop,T k a w'/\(∀(k:Nat) (o:Oper),ops[m+k]? =Y o->∀a1 w1,T k a1 w1->Region.wanted o (yielded ops a1.tmps)=true/\Oper.wp P o a1 w1 (fun a2 w2=>T (k+1) a2 w2) Q)/\∀a1 w1,T (ops.size-m) a1 w1->Q .normal a1 w1) hF dq rV
  (fun k o ho a w' ⟨T,h1,h2,h3⟩=>⟨(h2 k o ho a w' h1).1,Oper.wp_mono (fun _ _ h=>⟨T,h,h2,h3⟩) (h2 k o ho a w' h1).2⟩)
  (fun _ _ ⟨_,h1,_,h3⟩=>h3 _ _ h1)
def qtr (ops:Array Oper)(m s:Nat):Bool:=(List.range m).all fun i=>(ops[i]?).bind (·.dst) != Y s
theorem je {m s:Nat}(h:qtr ops m s=true):∀(i:Nat) (o:Oper),i<m->ops[i]? =Y o->o.dst≠Y s:=fun i o hi ho e=>by have:=gE.1 h i (gF.2 hi);rw[ho,Option.bind_some,e]at this;simp at this
end Go.Cx
namespace Go.Proofs.YtmkpbhaoalbhjaaGreatDoor
open Go.RowKit Go.Cx
attribute [local go_sem ↓] Go.wp_at_zero Go.wp_at_succ
theorem q29 {P:Program}{o:Oper}{a:Act}{w:δ}{K:Act->δ->Prop}{Q:Exit->Act->δ->Prop}(c x y:Operand)(aX:o.op=.pick c x y)(hc:a.eval c=τ false)(h:K (a.put o.dst (a.eval y)) w):Oper.wp P o a w K Q:=by unfold Oper.wp;simp[execOp,aX,hc,Result.andThen];exact h
theorem qlk (x:Int)(w:δ):(Go.binOp .neq 3 x x).run Tryz.prog w=.ok (τ false) w:=by simp[go_sem]
def q6r (v:ε)(w:δ):Prop:=∃q,v=σ (Y ⟨q,0,Z⟩)/\q<w/\w ⟨q,0,Z⟩=H φ 0/\w ⟨q,1,Z⟩=H φ 0/\w ⟨q,2,Z⟩=H φ 0/\w ⟨q,3,Z⟩=O Z 0 0/\∀i,w.frozen? ⟨q,i,Z⟩=false
theorem q6r.keep {v:ε}{w w':δ}(h:q6r v w)(hb:Below w w w'):q6r v w':=by obtain⟨q,h0,h1,h2,h3,h4,h5,h6⟩:=h;exact⟨q,h0,gz h1 hb.size,J hb h2,J hb h3,J hb h4,J hb h5,fun i=>(hb.frozen (by exact h1)).trans (h6 i)⟩
theorem q07 (w:δ):(Instr.alloc 30 true (ψ #[])).run Tryz.prog w=.ok (σ w) (w.alloc (.cells #[H φ 0,H φ 0,H φ 0,O Z 0 0] 30)):=by simp[go_sem]
theorem vt {P:Program}{Q:Exit->Act->δ->Prop}{o:Oper}{a:Act}{w:δ}{K:Act->δ->Prop}(t:TypeId)(aX:o.op=.alloc t)(v:ε)(w':δ)(bP:(Instr.alloc t true (ψ #[])).run P w=.ok v w')(h:K (a.put o.dst v) w'):Oper.wp P o a w K Q:=by unfold Oper.wp;simp[execOp,aX,bP,Result.andThen];exact h
theorem vx {w:δ}{q:Nat}{x0 x1 x2 x3:ε}{p:Int}{r m n c:Nat}{so:Option Addr}(q0:w q=Y x0)(q1:w ⟨q,1,Z⟩=Y x1)(q2:w ⟨q,2,Z⟩=Y x2)(q3:w ⟨q,3,Z⟩=Y x3)(hz:∀i,w.frozen? ⟨q,i,Z⟩=false) :
  (Instr.storeAt 30 (σ q) (I #[p,r,m,O so n c])).run Tryz.prog w=.ok () ((((w.setCell q p).setCell ⟨q,1,Z⟩ r).setCell ⟨q,2,Z⟩ m).setCell ⟨q,3,Z⟩ (O so n c)):=by
 have h0:=hz 0;have h1:=hz 1;have h2:=hz 2;have h3:=hz 3;simp[go_sem,q0,q1,q2,q3,h0,h1,h2,h3]
theorem q4h (w:δ):q6r (σ w) (w.alloc (.cells #[H φ 0,H φ 0,H φ 0,O Z 0 0] 30)) :=
 ⟨_,rfl,by simp,xz w _ _ 0 rfl,xz w _ _ 1 rfl,xz w _ _ 2 rfl,xz w _ _ 3 rfl,fun i=>jz (heap_alloc_new w _) i⟩
def bkQ:ε->Option Nat
 | σ (Y ad)=>Y ad.block
 |_=>Z
def qir (v:ε)(w:δ):Prop:=∃q,v=σ (Y ⟨q,0,Z⟩)/\q<w/\w ⟨q,0,Z⟩=O Z 0 0/\w.frozen? ⟨q,0,Z⟩=false
theorem qir.keep {v:ε}{w w':δ}(h:qir v w)(hb:Below w w w'):qir v w':=by obtain⟨q,h0,h1,h2,h3⟩:=h;exact⟨q,h0,gz h1 hb.size,J hb h2,(hb.frozen (by exact h1)).trans h3⟩
theorem qdw (w:δ):(Instr.alloc 36 true (ψ #[])).run Tryz.prog w=.ok (σ w) (w.alloc (.cells #[O Z 0 0] 36)):=by simp[go_sem]
theorem qis (w:δ):qir (σ w) (w.alloc (.cells #[O Z 0 0] 36)) :=
 ⟨_,rfl,by simp,xz w _ _ 0 rfl,jz (heap_alloc_new w _) 0⟩
theorem qdx {w:δ}{q n c:Nat}{x0:ε}{so:Option Addr}(q0:w q=Y x0)(hz:w.frozen? q=false) :
  (Instr.storeAt 36 (σ q) (I #[O so n c])).run Tryz.prog w=.ok () (w.setCell q (O so n c)):=by
 simp[go_sem,q0,hz]
theorem q10 {w:δ}{q n c:Nat}{so:Option Addr}(q0:w q=O so n c):(Instr.loadAt 36 (σ q)).run Tryz.prog w=.ok (I #[O so n c]) w:=by simp[go_sem,q0]
theorem Kx.qjs {w:δ}{v:ε}{K:List Cl}(h:Kx w v K){x:Cl}(hx:x∈K):I64 x.id:=by obtain⟨l,s,rfl,h2,h3,h4,h5,rfl⟩:=h;obtain⟨y,hy,e,_⟩:=qaz hx;obtain⟨z,hz,rfl⟩:=gj.1 hy;rw[e];exact(h4 z hz).1.1
theorem qh9 {ad:Addr}{j q:Nat}(h:ad.add j=q):j=0:=by
 unfold Addr.add at h;split at h
 ·assumption
 ·have:=congrArg Addr.off h;simp at this;omega
theorem qha {w:δ}{st q:Nat}{v x:ε}{xs:List ε}(h:Sl w st v xs)(hq:w q=O Z 0 0)(h0:xs[0]?≠Y (O Z 0 0)):Sl (w.setCell q x) st v xs:=by
 obtain⟨a,n,c,rfl,h2,h3,h4,h5,h6⟩:=h;refine⟨a,n,c,rfl,h2,h3,h4,h5,fun ad bR j u hj=>?_⟩;have h7:=h6 ad bR j u hj;by_cases e:ad.add j=q
 ·have DU:=qh9 e;rw[e,hq]at h7;rw[DU]at hj;exact absurd (hj.trans h7.symm) h0
 ·exact x8 h7 e
theorem Kx.box {w:δ}{v x:ε}{K:List Cl}{q:Nat}(h:Kx w v K)(hq:w q=O Z 0 0):Kx (w.setCell q x) v K:=by
 obtain⟨l,s,h1,h2,h3⟩:=h;refine⟨l,s,h1,⟨qha h2.1 hq ?_,fun y hy=>qha (h2.2 y hy) hq ?_⟩,h3⟩
 ·cases l with
  |nil=>simp[cat]
  |cons y l=>rw[q22];simp[Ce.enc]
 ·cases y.s with
  |nil=>simp[cat]
  |cons z t=>rw[q22];simp[Sd.enc]
theorem qts {w:δ}{v u:ε}{A L:List Cl}(h:Kx w v A)(k:Kx w u L)(hs:q6v A L):Calls Tryz.prog 51 #[v,u] w fun e w'=>∃x,e=.returned (ψ #[x,τ true])/\qip w' x (A.map Cl.id)/\Below w w w':=by
 obtain⟨a,an,ac,rfl⟩:=h.shape;obtain⟨d,dn,dc,rfl⟩:=k.shape;have E7:A.length<=4000:=h.q1v.len;have HH:=yh h k hs;clear h k hs;go_enter Tryz.func51,Tryz.ntmps51;go_wp2_with fail;obtain⟨W,hW⟩:=x4 (((w.alloc (.cells #[O a an ac] 36)).alloc (.cells #[O d dn dc] 36)).alloc (.cells #[O Z 0 0] 95));rw[<-hW];have hw:Below w w W:=by rw[hW];exact(((q9).alloc (nlr _) _).alloc (by simp) _).alloc (by simp;omega) _
 have aG:W.heap.size=w+3:=by rw[hW];simp
 have b2:W w=O a an ac:=by rw[hW];exact qk (qk (xz w _ _ 0 rfl) _) _
 have b3:W (w+1:Nat)=O d dn dc:=by rw[hW];exact qk (zx w _ _ _ 0 rfl) _
 have r4:W (w+1+1:Nat)=O Z 0 0:=by rw[hW];exact jw w _ _ _ _ 0 rfl
 have z4:W.frozen? (w+1+1:Nat)=false:=by rw[hW];exact q1e w _ _ _ _ 0
 have HW:=yt hw aG r4 z4;have HK:=jg (HH.out.1.keep hw) (HH.a1.keep hw);clear hW hw aG r4 z4;refine qp4 fun KO cD=>?_
 go_cut [6,7]from 14 to 17 (fun x y wx=>∃(q r:Nat) (xa ya:Option Addr) (xn xc yn yc:Nat),x=σ q/\y=σ r/\Hid (wx q=O xa xn xc/\wx r=O ya yn yc/\Kx wx (I #[O xa xn xc]) A/\Kx wx (I #[O ya yn yc]) L/\Below W W wx))
 case first =>
  rename_i At K2 hJ aQ;refine q01 rfl (fun i v w'=>match i with
   |0=>v=I #[O a an ac]
   |1=>Kx w' v A
   |2=>v=I #[O d dn dc]
   |3=>Kx w' v L
   |4=>qir v w'/\∃q,v=σ (Y ⟨q,0,Z⟩)/\W<=q
   |5=>qir v w'/\∃q,v=σ (Y ⟨q,0,Z⟩)/\W<=q
   |_=>True) (fun i=>i == 4 || i == 5) bkQ [] (fun _ v=>v) (by kernel_rfl) 6 20 58 rfl (by kernel_rfl) (by kernel_rfl) (by kernel_rfl) ?keep ?step ?mid
  case keep =>
   intro i v w1 w2 h hb
   match i,h with
   |0,h=>exact h
   |1,h=>exact h.keep hb
   |2,h=>exact h
   |3,h=>exact h.keep hb
   |4,⟨h1,h2⟩=>exact⟨h1.keep hb,h2⟩
   |5,⟨h1,h2⟩=>exact⟨h1.keep hb,h2⟩
   |i+6,h=>trivial
  case step =>
   intro i o ho aD b w' hw hd ab hsz
   match i,ho,hd with
   |0,rfl,_ =>exact jm rfl (zr je ab 2) (q10 (J hw b2)) ⟨_,rfl,rfl,j7 q9 rfl rfl⟩
   |1,rfl,hd =>
    have g14:b 14 V=I #[O a an ac]:=(zf hd 0)
    exact q0e rfl #[I #[O a an ac]] (by rw[<-g14];simp[Act.eval]) ((qld (HK.out.1.keep hw)).mono fun e w2 ⟨x,h1,h2,h3⟩=>⟨_,h1,_,rfl,h2,j7 h3 rfl rfl⟩)
   |2,rfl,_ =>exact jm rfl (zr je ab 3) (q10 (J hw b3)) ⟨_,rfl,rfl,j7 q9 rfl rfl⟩
   |3,rfl,hd =>
    have g16:b 16 V=I #[O d dn dc]:=(zf hd 2)
    exact q0e rfl #[I #[O d dn dc]] (by rw[<-g16];simp[Act.eval]) ((qld (HK.out.2.keep hw)).mono fun e w2 ⟨x,h1,h2,h3⟩=>⟨_,h1,_,rfl,h2,j7 h3 rfl rfl⟩)
   |4,rfl,_ =>exact⟨rfl,gu _,vt _ rfl _ _ (qdw _) ⟨_,rfl,⟨qis _,_,rfl,hw.size⟩,(q9).alloc (nlr _) _,(fun _=>⟨_,rfl,nlr _,by simp⟩),fun c hc=>absurd hc gP⟩⟩
   |5,rfl,_ =>exact⟨rfl,gu _,vt _ rfl _ _ (qdw _) ⟨_,rfl,⟨qis _,_,rfl,hw.size⟩,(q9).alloc (nlr _) _,(fun _=>⟨_,rfl,nlr _,by simp⟩),fun c hc=>absurd hc gP⟩⟩
   |i+6,ho,hd =>omega
  case mid =>
   intro b9 w2 hsz aO hf ab hw fD _;have k1:Kx w2 (b9 15 V) A:=hf 1 _ _ rfl rfl (by decide);have k2:Kx w2 (b9 17 V) L:=hf 3 _ _ rfl rfl (by decide);obtain⟨⟨q,e6,hq,c6,z6⟩,q',xP,tV⟩ : qir (b9 6 V) w2/\∃q,b9 6 V=σ (Y ⟨q,0,Z⟩)/\W<=q:=hf 4 _ _ rfl rfl (by decide);obtain⟨⟨r,e7,hr,c7,z7⟩,r',E8,uM⟩ : qir (b9 7 V) w2/\∃q,b9 7 V=σ (Y ⟨q,0,Z⟩)/\W<=q:=hf 5 _ _ rfl rfl (by decide);obtain rfl:q'=q:=by rw[e6]at xP;injection xP with e;injection e with e;injection e with e;exact e.symm
   obtain rfl:r'=r:=by rw[e7]at E8;injection E8 with e;injection e with e;injection e with e;exact e.symm
   have ah:=fD 4 _ 6 5 _ 7 rfl rfl rfl rfl (by decide) (by decide) rfl rfl (by decide);rw[e6,e7]at ah;have ah:q'≠r':=fun e=>ah (by rw[e])
   obtain⟨xa,xn,xc,Pu⟩:=k1.shape;obtain⟨ya,yn,yc,Pv⟩:=k2.shape;rw[Pu]at k1;rw[Pv]at k2;have xQ:(w2.setCell q' (O xa xn xc)) r'=O Z 0 0:=x8 c7 (fun e=>ah (congrArg Addr.block e).symm);refine⟨fun k a1 w1=>a1=b9/\w1=(match k with|0=>w2|1=>w2.setCell q' (O xa xn xc)|_=>(w2.setCell q' (O xa xn xc)).setCell r' (O ya yn yc)),⟨rfl,rfl⟩,fun k o ho a1 w1 h1=>?_,fun a1 w1 h1=>?_⟩
   ·match k,ho,h1 with
    |0,ho,⟨h1,h2⟩ =>subst h1 h2;obtain rfl:=osi ho;exact⟨rfl,ju _ _ _ rfl _ _ e6 Pu (qdx c6 z6) ⟨rfl,rfl⟩⟩
    |1,ho,⟨h1,h2⟩ =>subst h1 h2;obtain rfl:=osi ho;exact⟨rfl,ju _ _ _ rfl _ _ e7 Pv (qdx xQ (show (w2.setCell _ _).frozen? _=false from by rw[World.frozen?_setCell];exact z7)) ⟨rfl,rfl⟩⟩
    |k+2,ho,h1 =>have:6+(k+2)<8:=(gh.1 ho).1;omega
   ·obtain⟨rfl,h2⟩:=h1;obtain rfl:w1=(w2.setCell q' (O xa xn xc)).setCell r' (O ya yn yc):=h2;refine aQ _ _ (Met.intro (hJ _ _ ⟨a1 6 V,a1 7 V,a1 14 V,a1 15 V,a1 16 V,a1 17 V,⟨q',r',xa,ya,xn,xc,yn,yc,e6,e7,(lhd ⟨x8 (World.cell?_setCell_same' _ _ _ (by rw[c6];rfl)) (fun e=>ah (congrArg Addr.block e)),World.cell?_setCell_same' _ _ _ (by rw[xQ];rfl),(k1.box c6).box xQ,(k2.box c6).box xQ,(hw.setCell tV _).setCell uM _⟩)⟩,(q8z hsz aO fun s hs=>ab s fun i o _ ho=>hs i o ho).trans ?_⟩));kernel_rfl
 case rest =>
  obtain⟨q,r,xa,ya,xn,xc,yn,yc,rfl,rfl,H1⟩:=hcut;refine cD _ _ ?_
  replace b2:=J H1.b4 b2
  clear b3;go_wp2_with fail;refine(qpn (HK.out.1.keep H1.b4)).mono ?_;rintro e w1 ⟨ri,rfl,lk,ae⟩;obtain⟨ra,rc,rfl⟩:=qj lk;obtain⟨len,hlen⟩:=x4 A.length;rw[<-hlen]at lk ⊢;have aV:Sl w1 1 (O ra len rc) (ints (A.map Cl.id)):=Sl.qc lk;have HX:=q5h aV ((btr H1.b4 ae)) (H1.a2.keep ae) (H1.a3.keep ae) hlen (J ae H1.out.1) (J ae H1.a1) (J ae b2);have aW:len<=4000:=by omega
  clear lk ae hlen aV b2;go_wp2_with fail;go_loopw [21] (fun x wr=>∃k:Nat,x=k/\k<=len/\Hid (Below w1 w1 wr)) (fun x _=>len-(vI x).toNat)
  case atStart=>exact⟨0,rfl,gm _,(lhd q9)⟩
  case round =>
   obtain⟨k,rfl,hk,HB⟩:=hrel;by_cases aZ:k<len
   ·have cV:(k:Int)<len:=by omega
    obtain⟨ad,id,iH,hid,d0⟩:=q00 (HX.out.1.keep HB.out) aZ;subst iH;obtain⟨X,hX,xR⟩:∃X∈A,X.id=id:=by
     rw[List.getElem?_map]at hid;cases hy:A[k]? with
     |none=>rw[hy]at hid;cases hid
     |some y=>rw[hy]at hid;exact⟨y,gi hy,osi hid⟩
    have Pw:A.find? (fun y=>y.id == id)=Y X:=by rw[<-xR];exact qar HH.out.1.q1v.asc hX
    have Px:L.find? (fun y=>y.id == id)=Y X:=by rw[<-xR];exact qar HH.a1.q1v.asc (HH.b2 X hX)
    have hI:I64 id:=by rw[<-xR];exact HH.out.1.qjs hX
    have HF:=yh Pw Px hI;clear hid hX xR Pw Px hI;have x6:=J HB.out HX.a5;have y7:=J HB.out HX.a6;go_wp2_with fail;refine(qjq (HX.a2.keep HB.out) id HF.b2).mono ?_;rintro e w2 ⟨aj,hf⟩;rcases hf with ⟨x,rfl,qC,kP⟩|⟨rfl,hn⟩
    ·have Py:x.cl=X:=osi (qC.symm.trans HF.out.1)
     replace y7:=J aj y7
     obtain⟨W2,aY⟩:=x4 (w2.alloc (.cells #[x.id,x.dim,O x.a x.n x.c] 52));have A3:Below w2 w2 W2:=by rw[aY];exact(q9).alloc (nlr _) _
     have y7:=fun o=>qk y7 o
     have p1:W2 ⟨w2,1,Z⟩=x.dim:=by rw[aY];exact xz w2 _ _ 1 rfl
     have p2:W2 ⟨w2,2,Z⟩=O x.a x.n x.c:=by rw[aY];exact xz w2 _ _ 2 rfl
     have By:=lhd aY;have H2:=yh ((btr aj A3)) Py (kP.keep A3);clear aY A3 aj qC kP Py x6;rw[show x.v=I #[x.id,x.dim,O x.a x.n x.c]from rfl];go_wp2_with fail;rw[<-By.out];refine(qjq ((HX.a3.keep HB.out).keep H2.out.1) id HF.b2).mono ?_;rintro e w3 ⟨aw,hf⟩;rcases hf with ⟨y,rfl,Pz,E9⟩|⟨rfl,hn⟩
     ·have Cf:y.cl=X:=osi (Pz.symm.trans HF.a1);have hxy:y.cl=x.cl:=Cf.trans H2.a1.symm;have hd:y.dim=x.dim:=congrArg Cl.dim hxy;have hs:y.s=x.s:=congrArg Cl.s hxy;obtain⟨W3,cH⟩:=x4 (w3.alloc (.cells #[y.id,y.dim,O y.a y.n y.c] 52));have A4:Below w3 w3 W3:=by rw[cH];exact(q9).alloc (nlr _) _
      have fF:Below W2 W2 W3:=(btr aw A4)
      replace p1:=fun o=>qk (J aw p1) o
      replace p2:=fun o=>qk (J aw p2) o
      have q1:(w3.alloc (.cells #[y.id,y.dim,O y.a y.n y.c] 52)) ⟨w3,1,Z⟩=y.dim:=xz w3 _ _ 1 rfl;have q2:(w3.alloc (.cells #[y.id,y.dim,O y.a y.n y.c] 52)) ⟨w3,2,Z⟩=O y.a y.n y.c:=xz w3 _ _ 2 rfl;have DV:(x.dim != y.dim)=false:=by rw[hd];simp
      have dM:qbg x.s y.s=true:=by rw[hs];exact q9g.2 rfl
      have Uf:=lhd cH;have H3:=yt (HB.out.trans (((btr H2.out.1 fF)).mono HB.out.size)) (H2.b2.keep fF) (E9.keep A4) dM;clear cH A4 fF aw Pz E9 Cf hxy hd hs dM y7;rw[show y.v=I #[y.id,y.dim,O y.a y.n y.c]from rfl];go_wp2_with fail;rw[<-Uf.out];refine(qil _ _ x.s y.s W3 H3.a1 H3.a2).mono ?_;rintro e w4 ⟨rfl,aN⟩;rw[H3.b3];have H4:=lhd ((btr H3.out.1 aN));clear aN;go_wp2;go_roundw
      case measure=>simp[vI];omega
      case rel=>exact⟨k+1,qh (by omega),by omega,H4⟩
     ·exfalso
      rw[HF.a1]at hn;cases hn
    ·exfalso
     rw[HF.out.1]at hn;cases hn
   ·have aM:k=len:=by omega
    subst aM;have cV:¬(k:Int)<k:=by omega
    have b2:=J HB.out HX.b7;have EA:Below W W wr:=(btr HX.a1 HB.out);have HE:=lhd EA;clear EA;go_wp2_with fail;refine(qjr (HK.out.1.keep HE.out)).mono ?_;rintro e w5 ⟨m5,rfl,o6,aC⟩;obtain⟨s5,L5,rfl,iB,o6⟩:=o6;obtain⟨sa,sn,sc,rfl⟩:=qg iB;have vE:Below W W w5:=(btr HE.out aC);have r4:=J vE HW.a2;have z4:=xf vE (by show w.heap.size+1+1<_;have:=HW.a1;omega) HW.b3;have Iy:=yh iB o6 vE;clear iB o6 vE aC;go_wp2_with fail;have t4:(w5.setCell (w+1+1:Nat) (O sa sn sc)) (w+1+1:Nat)=O sa sn sc:=World.cell?_setCell_same' _ _ _ (by rw[r4];rfl);refine bodyPost_ret (v:=ψ #[I #[O sa sn sc],τ true]) (by simp[results,Tryz.results51,go_sem,t4]) rfl ⟨_,rfl,⟨_,L5,rfl,qha Iy.out.1 r4 ?_,Iy.a1.1,fun x hx=>qha (Iy.a1.2 x hx) r4 ?_⟩,?_⟩
    ·cases L5 with
     |nil=>simp[cat]
     |cons y l=>rw[q22];simp[Im.enc]
    ·simp[ctm,tv]
    ·exact((btr HW.out.1 Iy.b2)).setCell (by show w.heap.size<=w+1+1;omega) _
end Go.Proofs.YtmkpbhaoalbhjaaGreatDoor
namespace Go.Cx
open Go.RowKit
def gIm (L:List Im):Int->Option Value:=fun c=>(L.find? fun x=>x.c == c).map Im.sl
theorem qps {L:List Im}{x:Im}(h:∀y∈L,y.c≠x.c):gIm (L++[x])=zg (gIm L) x.c x.sl:=by
 funext c
 unfold gIm zg;rw[List.find?_append];by_cases hc:c=x.c
 ·subst hc;rw[List.find?_eq_none.2 (fun y hy=>by simpa using h y hy)];simp
 ·have e:[x].find? (fun y=>y.c == c)=none:=by simp[show ¬x.c=c from fun e=>hc e.symm]
  rw[if_neg hc,e,Option.or_none]
theorem qpt {L:List Im}{c:Int}(h:∀y∈L,y.c≠c):gIm L c=none:=by unfold gIm;rw[List.find?_eq_none.2 (fun y hy=>by simpa using h y hy)];rfl
end Go.Cx
namespace Go.Proofs.YtmkpbhaoalbhjaaGreatDoor
open Go.RowKit Go.Cx
attribute [local go_sem ↓] Go.wp_at_zero Go.wp_at_succ
theorem qhb (w:δ):(zeroValue 159).run Tryz.prog w=.ok (O Z 0 0) w:=Tryz.zeroValue159 w
theorem qlm {w:δ}{s:ε}{L:List Im}(h:Sl w 2 s (cat Im.enc L))(hI:∀x∈L,I64 x.c)(hd:L.Pairwise fun x y=>x.c≠y.c)(hl:L.length<=4000) :
  Calls Tryz.prog 112 #[I #[s]] w fun e w'=>∃B,e=.returned (.map (Y B))/\Mp Tryz.prog 3 w' B L.length (gIm L)/\Below w w w':=by
 obtain⟨a,n,c,rfl⟩:=qg h;have hn:=qli h;obtain⟨W,hW⟩:=x4 ((w.alloc (.cells #[O a n c] 95)).alloc (.map #[] 0));have hw:Below w w W:=by rw[hW];exact((q9).alloc (nlr _) _).alloc (by simp) _
 have b0:W w=O a n c:=by rw[hW];exact qk (xz w _ _ 0 rfl) _
 have dL:Mp Tryz.prog 3 W (w+1) 0 (gIm []):=by
  have:=Mp.made (P:=Tryz.prog) (k:=3) (w.alloc (.cells #[O a n c] 95));rw[World.size_alloc,<-hW]at this;have e:(fun _=>Z)=gIm []:=by funext c;rfl
  rw[<-e];exact this
 obtain⟨B,hB⟩:=x4 (w.heap.size+1);have HX:=q5h h hw hI hd hn hW hB dL;have mI:n<=4000:=by omega
 clear h hw hI hd hn hl hW hB dL;have dU:=@run_makeMap Tryz.prog;go_enter Tryz.func112,Tryz.ntmps112;go_wp2_with fail;rw[<-HX.a5,<-HX.a6];clear dU;go_loopw [5,6,7,12] (fun _ _ _ x wr=>∃k:Nat,x=k/\k<=n/\Hid (Mp Tryz.prog 3 wr B k (gIm (L.take k)))/\Hid (Below w w wr)) (fun _ _ _ x _=>n-(vI x).toNat)
 case atStart=>exact⟨0,rfl,gm _,(lhd (by rw[HX.a6];exact HX.b7)),(lhd HX.a1)⟩
 case round =>
  obtain⟨k,rfl,hk,HM,HB⟩:=hrel;by_cases dy:k<n
  ·have cV:(k:Int)<n:=by omega
   obtain⟨ad,x,iH,hx,d0,d1⟩:=qpo HX.out.1 (k:=k) (by have:=HX.a4;omega);subst iH
   replace d0:=(HB.out.cell (World.block_lt_of_cell? w _ d0)).trans d0
   replace d1:=(HB.out.cell (World.block_lt_of_cell? w _ d1)).trans d1
   have ee:=gi hx;have dW:=HX.a2 x ee;have av:=q0k (P:=Tryz.prog) (k:=3) Tryz.underlying3 dW.1 dW.2;have ah:∀y∈L.take k,y.c≠x.c:=fun y hy=>by obtain⟨i,hi,e⟩:=List.mem_iff_getElem.1 hy;rw[gD]at hi;obtain⟨lK,ek⟩:=gk.1 hx;rw[List.getElem_take]at e;rw[<-e,<-ek];exact bb.1 HX.a3 i k (by omega) lK (by omega)
   have dH:L.take (k+1)=L.take k++[x]:=by rw[gC,hx];rfl
   have eh:∀o,(Instr.lookup 163 (.map (Y B)) x.c true).run Tryz.prog (wr.alloc o)=.ok (ψ #[O Z 0 0,τ false]) (wr.alloc o):=fun o=>by have:=(HM.out.alloc o).qgy Tryz.underlying3 Tryz.underlying163 (qhb (wr.alloc o)) av;rw[qpt ah]at this;exact this
   have a0:(wr.alloc (.cells #[x.c,O x.a x.n x.k] 162)) wr=x.c:=xz wr _ _ 0 rfl;have a1:(wr.alloc (.cells #[x.c,O x.a x.n x.k] 162)) ⟨wr,1,Z⟩=O x.a x.n x.k:=xz wr _ _ 1 rfl;obtain⟨w5,iX,o6,jU⟩:=(HM.out.alloc (.cells #[x.c,O x.a x.n x.k] 162)).set (t:=163) (e:=159) Tryz.underlying3 Tryz.underlying163 (by unfold maxLen;omega) av x.sl;have aC:Below w w w5:=(HB.out.alloc HB.out.size _).grown jU (gd HB.out.size (by simp)) (fun j e=>by cases e;have:=HX.a6;omega);rw[<-qps ah,<-dH]at o6;have wM:(Instr.mapUpdate 163 (.map (Y B)) x.c (O x.a x.n x.k)).run Tryz.prog (wr.alloc (.cells #[x.c,O x.a x.n x.k] 162))=.ok () w5:=iX;have H5:=jg o6 aC;clear iX o6 aC jU ah dH ee dW av hx;go_wp2_with fail;go_roundw
   case measure=>simp[vI];omega
   case rel=>exact⟨k+1,qh (by omega),by omega,(lhd H5.out.1),(lhd H5.out.2)⟩
  ·have aM:k=n:=by omega
   subst aM;have cV:¬(k:Int)<k:=by omega
   have HF:Hid (Mp Tryz.prog 3 wr B L.length (gIm L)):=(lhd (by have:=HM.out;rw[gr (by have:=HX.a4;omega)]at this;rw[<-HX.a4];exact this))
   go_wp2;go_ret;exact⟨_,rfl,HF.out,HB.out⟩
end Go.Proofs.YtmkpbhaoalbhjaaGreatDoor
namespace Go.Cx
open Go.RowKit
theorem qsz {w:δ}{a:Option Addr}{n c:Nat}{l:List (Int×Int)}(h:Sl w 3 (O a n c) (tv (ctm l))){k:Nat}(hk:k<l.length):∃ad p,a=Y ad/\l[k]? =Y p/\w (ad.add (k*3))=p.1 ∧
  w ⟨(ad.add (k*3)).block,(ad.add (k*3)).off+1,Z⟩=τ (decide (p.2<0))/\w ⟨(ad.add (k*3)).block,(ad.add (k*3)).off+2,Z⟩=ω (mg p.2):=by
 obtain⟨h1,h2,h3,h4,h5⟩:=h.open;rw[q8u,q4s]at h3;obtain⟨p,hp⟩:∃p,l[k]? =Y p:=⟨_,gg hk⟩
 obtain⟨ad,rfl⟩:=sadq h4 (by omega)
 have ht:(ctm l)[k]? =Y ⟨p.1,decide (p.2<0),mg p.2⟩:=by unfold ctm;rw[List.getElem?_map,hp];rfl
 obtain⟨e0,e1,e2⟩:=jd (ctm l) k _ ht;refine⟨ad,p,rfl,hp,h5 ad rfl _ _ e0,?_,?_⟩
 ·rw[qi _ _ _ (by omega)];exact h5 ad rfl _ _ e1
 ·rw[qi _ _ _ (by omega)];exact h5 ad rfl _ _ e2
theorem q2w (q:Int->Bool)(c:Int):∀L:List (Int×Int),co (L.filter fun p=>q p.1) c=if q c then co L c else 0
 |[]=>by simp[q8h]
 |p :: L=>by
  have ih:=q2w q c L;by_cases hp:q p.1=true
  ·rw[show List.filter (fun p=>q p.1) (p :: L)=p :: L.filter fun p=>q p.1 from List.filter_cons_of_pos (p:=fun p:Int×Int=>q p.1) hp,jh,jh,ih];by_cases hc:p.1=c
   ·rw[<-hc,hp];simp
   ·rw[if_neg hc];split <;> omega
  ·rw[show List.filter (fun p=>q p.1) (p :: L)=L.filter fun p=>q p.1 from List.filter_cons_of_neg (p:=fun p:Int×Int=>q p.1) hp,ih,jh];by_cases hc:p.1=c
   ·rw[<-hc,if_neg hp,if_neg hp]
   ·rw[if_neg hc,Int.zero_add]
end Go.Cx
namespace Go.Proofs.YtmkpbhaoalbhjaaGreatDoor
open Go.RowKit Go.Cx
attribute [local go_sem ↓] Go.wp_at_zero Go.wp_at_succ
theorem qrw (z c:Int)(b:Bool)(v:ε)(w:δ)(h:Sl w 3 v (tv (ctm (if b then [(c,1)]else []))))(hc:I64 c)(hz:z≠0){S:Nat}(hS:nb z<=S)(hb:S<=100000000) :
  Calls Tryz.prog 147 #[I #[τ (decide (z<0)),ω (mg z)],v] w fun e w'=>∃r,e=.returned r/\Sl w' 3 r (tv (ctm (if b then [(c,z)]else [])))/\Below w w w':=by
 have h1:TOk (S+8) (ctm (if b then [(c,1)]else [])):=fun t ht=>by
  cases b with
  |false=>simp[ctm]at ht
  |true =>simp[ctm]at ht;subst ht;refine⟨hc.1,hc.2,?_⟩;show (mg 1).size<=_;have:=q49 1 (by decide) (by decide);rw[j5];omega
 have hl:(ctm (if b then [(c,1)]else [])).length<=1:=by cases b <;> simp[ctm]
 refine(qr1 (decide (z<0)) (mg z) v _ (S+8) w h h1 (by rw[j5];omega) (by omega)).mono ?_;rintro e w' ⟨r,rfl,⟨L,hC,Iz,hlen,af⟩,aj⟩;refine⟨r,rfl,?_,aj⟩;have e:L=if b then [(c,z)]else []:=by
  refine Cn.uniq hC ?_ fun d=>?_
  ·cases b with
   |false=>exact Cn.nil
   |true=>exact⟨List.pairwise_singleton _ _,fun p hp=>by rw[List.mem_singleton.1 hp];exact hz⟩
  ·rw[Iz,q0i,zv];cases b with
   |false=>simp[q8h]
   |true =>simp[jh,q8h];split <;> simp
 rw[<-e];exact Sl.qc af
theorem qvq {w:δ}{B nB N S:Nat}{L:List Im}{u:ε}{f:Int->Int}(hm:Mp Tryz.prog 3 w B nB (gIm L))(hL:∀x∈L,Sl w 3 x.sl (tv (ctm [(x.c,1)])))(hu:(Fk.cf f N S).holds u w)(hN:N<=100000)(hS:S<=100000) :
  Calls Tryz.prog 118 #[.map (Y B),u] w (qaj (.cf (fun c=>if L.any (fun x=>x.c == c)then f c else 0) N S) w):=by
 have o4:=fun c=>qss hu c
 have hI:=fun c=>qnv hu c
 obtain⟨T,h1,h2,h3,h4,h5⟩:=hu;obtain⟨a,n,c,rfl⟩:=qg h5;have hn:n=T.length:=by have:=h5.open.2.2.1;rw[q8u,q4s]at this;omega
 have mI:n<=100000:=by omega
 obtain⟨q,hq⟩:∃q:Int->Bool,q=fun c=>L.any fun x=>x.c == c:=⟨_,rfl⟩
 have HX:=qb4 hm hL h1 h2 h3 h4 h5 hn hq o4 hI;clear hm hL h1 h2 h3 h4 h5 hn hq o4 hI;go_enter Tryz.func118,Tryz.ntmps118;go_wp2_with fail;go_loopw [5,7,10] (fun o _ x wr=>∃(k:Nat) (oa:Option Addr) (on oc:Nat),o=O oa on oc/\x=k/\k<=n/\on<=k/\Hid (on=((T.take k).filter fun p=>q p.1).length/\wr.ownsRow w 167 3 (O oa on oc) on (tv (ctm ((T.take k).filter fun p=>q p.1))))/\Hid (Below w w wr)) (fun _ _ x _=>n-(vI x).toNat)
 case atStart=>exact⟨0,Z,0,0,rfl,rfl,gm _,gm _,(lhd ⟨rfl,World.ownsRow_nil _ _ _ _⟩),(lhd q9)⟩
 case round =>
  obtain⟨k,oa,on,oc,rfl,rfl,hk,fj,HO,HB⟩:=hrel;by_cases dy:k<n
  ·have cV:(k:Int)<n:=by omega
   obtain⟨ad,p,iH,hp,d0,d1,d2⟩:=qsz (HX.a6.keep HB.out) (k:=k) (by have:=HX.a7;omega);subst iH;have A5:=gi hp;have cp:=HX.a2.2 p A5;have Cg:f p.1=p.2:=by rw[<-HX.a3];exact zl HX.a2.1 A5
   have xS:I64 p.1:=HX.b10 p.1 (by rw[Cg];exact cp);have P0:nb p.2<=S:=by rw[<-Cg];exact HX.a9 p.1
   have av:=q0k (P:=Tryz.prog) (k:=3) Tryz.underlying3 xS.1 xS.2;have fi:=HX.out.1.keep HB.out;obtain⟨sa,sn,sc,hg,cU⟩:∃(sa:Option Addr) (sn sc:Nat),(gIm L p.1).getD (O Z 0 0)=O sa sn sc/\Sl w 3 (O sa sn sc) (tv (ctm (if q p.1 then [(p.1,1)]else []))):=by
    unfold gIm;cases hf:L.find? fun x=>x.c == p.1 with
    |none =>
     have yM:q p.1=false:=by rw[HX.a8];show (L.any fun x=>x.c == p.1)=false;rw[List.any_eq_false];intro x hx;have:=List.find?_eq_none.1 hf x hx;simpa using this
     rw[yM];exact⟨Z,0,0,rfl,Sl.nil _ _⟩
    |some x =>
     have hx:=gR hf;have fs:x.c=p.1:=by simpa using List.find?_some hf
     have yM:q p.1=true:=by rw[HX.a8];exact List.any_eq_true.2 ⟨x,hx,by simpa using fs⟩
     rw[yM,<-fs];exact⟨x.a,x.n,x.k,rfl,HX.a1 x hx⟩
   have eh:∀o,(Instr.lookup 163 (.map (Y B)) p.1 false).run Tryz.prog (wr.alloc o)=.ok (O sa sn sc) (wr.alloc o):=fun o=>by have:=(fi.alloc o).look Tryz.underlying3 Tryz.underlying163 (qhb (wr.alloc o)) av;rw[hg]at this;exact this
   have a0:(wr.alloc (.cells #[p.1,τ (decide (p.2<0)),ω (mg p.2)] 167)) wr=p.1:=xz wr _ _ 0 rfl;have a1:(wr.alloc (.cells #[p.1,τ (decide (p.2<0)),ω (mg p.2)] 167)) ⟨wr,1,Z⟩=τ (decide (p.2<0)):=xz wr _ _ 1 rfl;have a2:(wr.alloc (.cells #[p.1,τ (decide (p.2<0)),ω (mg p.2)] 167)) ⟨wr,2,Z⟩=ω (mg p.2):=xz wr _ _ 2 rfl;have aA:Below wr wr (wr.alloc (.cells #[p.1,τ (decide (p.2<0)),ω (mg p.2)] 167)):=(q9).alloc (nlr _) _;have HP:=kp hp cp xS P0 (cU.keep ((btr HB.out aA))) aA;clear hp A5 cp Cg xS P0 av fi hg cU aA;go_wp2_with fail;refine(qrw p.2 p.1 (q p.1) _ _ HP.a4 HP.a2 HP.a1 HP.a3 (by omega)).mono ?_;rintro e w5 ⟨r,rfl,hr,aC⟩;obtain⟨M1,fT⟩:=x4 (if q p.1 then [(p.1,p.2)]else []);rw[<-fT]at hr;have vF:Below wr wr w5:=HP.b5.trans (aC.mono (by simp));have af:=qa HO.out.2 vF;obtain⟨md,A6⟩:=x4 (if q p.1 then 1 else 0);have hlen:(tv (ctm M1)).length=md*3:=by rw[q8u,q4s,A6,fT];cases q p.1 <;> rfl
   have fP:md<=1:=by rw[A6];cases q p.1 <;> simp
   have Ug:=lhd A6;have P1:=lhd fT;clear A6 fT;have dx:Below w wr w5:=vF.mono HB.out.size;have P2:w.heap.size<=w5:=gd HB.out.size vF.size;go_wp2_with (at_builtin;refine q2f (W:=wr) rfl _ _ 159 rfl w 167 Tryz.xm Tryz.underlying159 rfl (by decide) (by decide) _ on _ rfl af r md _ rfl hr hlen (jf _) ?bp2 dx P2 ?_)
   case bp2=>omega
   intro v9 w9 jB rZ ei;obtain⟨nS,nU,sb⟩:=qj jB;subst sb;have lC:=jg jB ei;clear rZ jB ei af hlen dx P2 vF aC hr;go_wp2;go_roundw
   case measure=>simp[vI];omega
   case rel =>
    have dH:(T.take (k+1)).filter (fun p=>q p.1)=(T.take k).filter (fun p=>q p.1)++M1:=by
     rw[P1.out];rw[gC,HP.out.1,Option.toList_some,gZ]
     congr 1
     cases hqp:q p.1 <;> simp[hqp]
    refine⟨k+1,nS,on+md,nU,rfl,qh (by omega),by omega,by omega,(lhd ⟨?_,?_⟩),(lhd (HB.out.trans lC.out.2))⟩
    ·rw[dH,gw,<-HO.out.1,Ug.out,P1.out];cases q p.1 <;> rfl
    ·rw[dH,xj,xp];exact lC.out.1
  ·have aM:k=n:=by omega
   subst aM;have cV:¬(k:Int)<k:=by omega
   have fh:(T.take k).filter (fun p=>q p.1)=T.filter fun p=>q p.1:=by rw[gr (by have:=HX.a7;omega)]
   have aV:Sl wr 3 (O oa on oc) (tv (ctm (T.filter fun p=>q p.1))):=by rw[<-fh];exact Sl.qc HO.out.2
   have EB:TOk S (ctm (T.filter fun p=>q p.1)):=fun t ht=>by obtain⟨p,hp,rfl⟩:=gj.1 ht;exact HX.a5 _ (gj.2 ⟨p,(gS.1 hp).1,rfl⟩)
   have dF:(T.filter fun p=>q p.1).length<=N:=gd (gY _ _) HX.a4;have HS:=yh aV EB dF;clear fh aV EB dF;go_wp2_with fail;refine(qdd _ _ S wr HS.out.1 HS.a1 (by rw[q4s];have:=HS.b2;omega)).mono ?_;rintro e w5 ⟨r,rfl,tW⟩;have HC:=lhd tW;clear tW;go_wp2;go_ret;obtain⟨⟨L5,k1,k2,k3,k4⟩,aC⟩:=HC.out;rw[zv]at k2;have e5:L5=T.filter fun p=>q p.1:=Cn.uniq k1 ⟨HX.a2.1.filter _,fun p hp=>HX.a2.2 p (gS.1 hp).1⟩ k2
   refine⟨_,rfl,⟨L5,k1,fun c=>?_,by rw[e5];exact HS.b2,by rw[e5];exact HS.a1,Sl.qc k4⟩,(btr HB.out aC)⟩;rw[k2,q2w,HX.a3,HX.a8]
end Go.Proofs.YtmkpbhaoalbhjaaGreatDoor
namespace Go.Cx
open Go.Proofs.YtmkpbhaoalbhjaaGreatDoor
theorem qjt (c:Int):∀L:List (Int×Int),co L c=(L.map fun p=>if p.1=c then p.2 else 0).sum
 |[]=>rfl
 |p :: L=>by rw[jh,bx,bH,qjt c L]
theorem qrx {L M:List (Int×Int)}(h:L.Perm M)(c:Int):co L c=co M c:=by rw[qjt,qjt];exact qic (h.map _)
theorem qpu {s t:List Sd}(h:s.Perm t)(r:Int):se s r=se t r:=qrx (h.map _) r
theorem qdy (f:Int->Int)(r:Int):∀K:List Cl,q1q f r K=(K.map fun x=>f x.id*se x.s r).sum
 |[]=>rfl
 |x :: K=>by rw[bx,bH,<-qdy f r K];rfl
theorem qfq {α:Type}(key:α->Int)(x:α):∀l:List α,(ins key x l).Perm (x :: l)
 |[]=>List.Perm.refl _
 |y :: l=>by
  unfold ins;split
  ·exact List.Perm.refl _
  ·exact((qfq key x l).cons y).trans (List.Perm.swap x y l)
theorem qb2 {α:Type}(key:α->Int):∀l:List α,(stb key l).Perm l
 |[]=>List.Perm.refl _
 |x :: l=>(qfq key x _).trans ((qb2 key l).cons x)
theorem qju (f:Int->Int)(r:Int)(L:List Cl):q1q f r (canon L)=q1q f r L:=by
 rw[qdy,qdy];unfold canon;rw[List.map_map];have e:((fun x:Cl=>f x.id*se x.s r) ∘ Cl.canon)=fun x=>f x.id*se x.s r:=by
  funext x
  show f x.id*se (stb Sd.c x.s) r=f x.id*se x.s r;rw[qpu (qb2 Sd.c x.s)]
 rw[e];exact qic ((qb2 Cl.id L).map _)
theorem qry {K:List Cl}(h:∀x∈K,x.s.length<=19):(z8 K).length<=K.length*19:=by
 induction K with
 |nil=>simp[z8]
 |cons x K ih =>
  have h1:(z8 (x :: K)).length=x.s.length+(z8 K).length:=by unfold z8;rw[List.flatMap_cons,gw,gp]
  have h2:=h x (by simp);have h3:=ih fun y hy=>h y (by simp[hy])
  rw[h1,gV,Nat.add_mul];omega
end Go.Cx
namespace Go.Proofs.YtmkpbhaoalbhjaaGreatDoor
open Go.RowKit Go.Cx
theorem qjw {w:δ}{u:ε}{id:Int}(h:Sl w 3 u (tv (ctm [(id,1)])))(hI:I64 id):(Fk.cf (qw id 1) 1 8).holds u w :=
 ⟨[(id,1)],⟨List.pairwise_singleton _ _,fun p hp=>by rw[List.mem_singleton.1 hp];exact Int.one_ne_zero⟩,fun c=>by
  rw[jh,q8h];unfold qw;by_cases hc:id=c
  ·rw[if_pos hc,if_pos hc.symm];rfl
  ·rw[if_neg hc,if_neg fun e=>hc e.symm];rfl,nlr _,fun t ht=>by
  have ht:=List.mem_singleton.1 ht;subst ht;refine⟨hI.1,hI.2,?_⟩;show (mg 1).size<=8;rw[j5];exact q49 1 (by decide) (by decide),h⟩
theorem qv5 {w:δ}{v u:ε}{K:List Cl}{id:Int}(h:Kx w v K)(k:Sl w 3 u (tv (ctm [(id,1)])))(hI:I64 id) :
  Calls Tryz.prog 117 #[v,u] w (qaj (.cf (fun r=>se (zq K id) r) 76000 76016) w):=by
 have G:=h.q1v;obtain⟨l,s,rfl,h2,h3,h4,h5,rfl⟩:=h;refine qvh _ u (l.map Ce.cl) (qw id 1) _ 1 8 76000 76016 w ⟨s,l,rfl,h2,rfl⟩ (qjw k hI) (fun x hx=>?_) ?_ (by decide) (by decide) fun r=>?_
 ·obtain⟨y,hy,rfl⟩:=gj.1 hx;exact h4 y hy
 ·refine gd (qry fun x hx=>?_) ?_
  ·obtain⟨y,hy,rfl⟩:=gj.1 hx;exact(h4 y hy).2.1
  ·rw[gp];omega
 ·rw[q5f,<-qju,qcq G.asc,Int.one_mul]
theorem qvr {w:δ}{v u:ε}{K:List Cl}{X:Cl}(h:Kx w v K)(hX:X∈K)(k:Sl w 3 u (tv (ctm [(X.id,1)]))) :
  Calls Tryz.prog 115 #[v,X.dim,u] w fun e w'=>e=.returned (τ true)/\Below w w w':=by
 have hI:=h.qjs hX;obtain⟨l,s,rfl,h2,h3,h4,h5,rfl⟩:=h;obtain⟨L,_,_,_,ht,_⟩:=qjw k hI;have C2:TOk 8 (ctm [(X.id,1)]):=fun t ht=>by have ht:=List.mem_singleton.1 ht;subst ht;refine⟨hI.1,hI.2,?_⟩;show (mg 1).size<=8;rw[j5];exact q49 1 (by decide) (by decide)
 refine(qq0 s l X.dim u (ctm [(X.id,1)]) 8 w h2 (by omega) h4 k C2 (by simp[ctm])).mono ?_;rintro e w' ⟨q,rfl,hq,hb⟩;have:q=true:=hq.2 fun c hc=>by
  rw[zv,jh,q8h]at hc;have Af:X.id=c:=gN fun hn=>hc (by rw[if_neg hn];rfl)
  obtain⟨As,hY,e1,e2,_⟩:=qaz hX;obtain⟨z,hz,rfl⟩:=gj.1 hY;exact⟨z,hz,by rw[<-Af,e1];rfl,e2.symm⟩
 rw[this];exact⟨rfl,hb⟩
attribute [local go_sem ↓] Go.wp_at_zero Go.wp_at_succ
theorem qbw {w:δ}{p:Addr}{a:Option Addr}{n c:Nat}(h:w p=O a n c):(Instr.loadAt 159 (σ (Y p))).run Tryz.prog w=.ok (O a n c) w:=by simp[go_sem,h]
theorem qb3 (w:δ)(q i:Nat)(hi:i<2):(Instr.fieldAt 162 (σ q) i).run Tryz.prog w=.ok (σ (Y ⟨q,i,Z⟩)) w:=by rcases (by omega:i=0\/i=1)with rfl|rfl <;> simp[go_sem]
theorem qrz (w:δ)(q i:Nat)(hi:i<3):(Instr.fieldAt 52 (σ q) i).run Tryz.prog w=.ok (σ (Y ⟨q,i,Z⟩)) w:=by rcases (by omega:i=0\/i=1\/i=2)with rfl|rfl|rfl <;> simp[go_sem]
theorem qs0 (c:Int)(v:ε)(w:δ)(h:Sl w 3 v (tv (ctm [(c,1)])))(hI:I64 c):Calls Tryz.prog 114 #[v] w fun e w'=>∃r,e=.returned r/\Sl w' 3 r (tv (ctm [(c,1)]))/\Below w w w':=by
 have ht:TOk 8 (ctm [(c,1)]):=fun t ht=>by have ht:=List.mem_singleton.1 ht;subst ht;refine⟨hI.1,hI.2,?_⟩;show (mg 1).size<=8;rw[j5];exact q49 1 (by decide) (by decide)
 refine(qdd v _ 8 w h ht (by simp[ctm])).mono ?_;rintro e w' ⟨r,rfl,⟨L,h1,h2,h3,h4⟩,hb⟩;rw[zv]at h2;have e:L=[(c,1)]:=Cn.uniq h1 ⟨List.pairwise_singleton _ _,fun p hp=>by rw[List.mem_singleton.1 hp];exact Int.one_ne_zero⟩ h2;rw[e]at h4;exact⟨r,rfl,Sl.qc h4,hb⟩
theorem qtt (v u:ε)(l:List Tm)(w:δ)(h:Sl w 3 v (tv l))(k:Sl w 3 u (tv l)):Calls Tryz.prog 113 #[v,u] w fun e w'=>e=.returned (τ true)/\Below w w w':=by refine(qpv v u l l w h k).mono ?_;rintro e w' ⟨q,rfl,hq,hb⟩;rw[hq.2 rfl];exact⟨rfl,hb⟩
theorem qvs {w:δ}{v u:ε}{f g:Int->Int}{N S N' S':Nat}(h:(Fk.cf f N S).holds v w)(k:(Fk.cf g N' S').holds u w)(he:∀c,f c=g c)(hb:N+S+N'+S'<=1000000):Calls Tryz.prog 116 #[v,u] w fun e w'=>e=.returned (τ true)/\Below w w w':=by
 obtain⟨L,h1,h2,h3,h4,h5⟩:=h;obtain⟨L',k1,k2,k3,k4,k5⟩:=k;refine(qr0 v u (ctm L) (ctm L') (S+S') w h5 k5 (h4.mono (by omega)) (k4.mono (by omega)) (by rw[q4s];omega) (by rw[q4s];omega)).mono fun e w' ⟨q',h0,hq,hb⟩=>⟨?_,hb⟩
 rw[h0,hq.2 fun c=>by rw[zv,zv,h2,k2,he]]
theorem qs1 {A L:List Cl}(GA:Cx.Good A)(GL:Cx.Good L)(h:q6v A L){X:Cl}(hX:X∈A){An:List Im}(hI:An.map Im.c=A.map Cl.id)(c:Int):se (zq L X.id) c=if An.any (fun x=>x.c == c)then se (zq A X.id) c else 0:=by
 have e:zq L X.id=zq A X.id:=by rw[q0b GA.asc hX,q0b GL.asc (h X hX)]
 rw[e];cases ha:An.any fun x=>x.c == c with
 |true=>rfl
 |false =>
  rw[q0b GA.asc hX];refine q9b fun t ht et=>?_
  obtain⟨y,hy,e1,_⟩:=GA.sub X hX t ht;have:c∈An.map Im.c:=by rw[hI,<-et,<-e1];exact gj.2 ⟨y,hy,rfl⟩
  obtain⟨x,hx,ex⟩:=gj.1 this;rw[List.any_eq_true.2 ⟨x,hx,by simpa using ex⟩]at ha;cases ha
theorem qln {w:δ}{v u m:ε}{A L:List Cl}(h:Kx w v A)(k:Kx w u L)(hs:q6v A L)(hm:qip w m (A.map Cl.id)):Calls Tryz.prog 83 #[v,u,m] w fun e w'=>e=.returned (H φ 0)/\Below w w w':=by
 obtain⟨a,an,ac,rfl⟩:=h.shape;obtain⟨d,dn,dc,rfl⟩:=k.shape;have E7:A.length<=4000:=h.q1v.len;obtain⟨s,An,rfl,cU,mN,pK⟩:=hm;obtain⟨sa,sn,sc,rfl⟩:=qg cU;have qB:=qli cU;have EC:An.length=A.length:=by have:=congrArg List.length mN;simpa using this
 have HH:=q5h h k hs cU mN pK qB EC;have aV:sn<=4000:=by omega
 clear h k hs cU mN pK qB EC;go_enter Tryz.func83,Tryz.ntmps83;go_wp2_with fail;obtain⟨W,hW⟩:=x4 ((((w.alloc (.cells #[O a an ac] 36)).alloc (.cells #[O d dn dc] 36)).alloc (.cells #[O sa sn sc] 95)).alloc (.cells #[O a an ac,O d dn dc] 36));rw[<-hW];have hw:Below w w W:=by rw[hW];exact((((q9).alloc (nlr _) _).alloc (by simp) _).alloc (by simp;omega) _).alloc (by simp;omega) _
 have b3:W w=O a an ac:=by rw[hW];exact qk (qk (qk (xz w _ _ 0 rfl) _) _) _
 have b4:W (w+1:Nat)=O d dn dc:=by rw[hW];exact qk (qk (zx w _ _ _ 0 rfl) _) _
 have b5:W (w+1+1:Nat)=O sa sn sc:=by rw[hW];exact qk (jw w _ _ _ _ 0 rfl) _
 have g0:W (w+1+1+1:Nat)=O a an ac:=by rw[hW];have:=qd (((w.alloc (.cells #[O a an ac] 36)).alloc (.cells #[O d dn dc] 36)).alloc (.cells #[O sa sn sc] 95)) #[O a an ac,O d dn dc] 36 (0,0) 0;simp only [World.size_alloc]at this;exact this
 have g1:W ⟨w+1+1+1,1,Z⟩=O d dn dc:=by rw[hW];have:=qd (((w.alloc (.cells #[O a an ac] 36)).alloc (.cells #[O d dn dc] 36)).alloc (.cells #[O sa sn sc] 95)) #[O a an ac,O d dn dc] 36 (0,0) 1;simp only [World.size_alloc]at this;exact this
 have HW:=yh hw (HH.out.1.keep hw) (HH.a1.keep hw);clear hW hw;go_loopw [8,9,10,21] (fun _ _ _ x wr=>∃k:Nat,x=k/\k<=2/\Hid (Below W W wr)) (fun _ _ _ x _=>2-(vI x).toNat)
 case atStart=>exact⟨0,rfl,by omega,(lhd q9)⟩
 case round =>
  obtain⟨k,rfl,hk,HB⟩:=hrel;rcases (by omega:k=0\/k=1\/k=2)with rfl|rfl|rfl
  ·have Uh:=J HB.out g0;have a1:(wr.alloc (.cells #[O a an ac] 36)) wr=O a an ac:=xz wr _ _ 0 rfl;have aA:Below wr wr (wr.alloc (.cells #[O a an ac] 36)):=(q9).alloc (nlr _) _;have aR:=lhd ((btr HB.out aA));clear aA;go_wp2_with fail;refine(q7v (HW.a1.keep aR.out)).mono ?_;rintro e w5 ⟨rfl,aC⟩;have lX:=lhd ((btr aR.out aC));clear aC;go_wp2;go_roundw
   case measure=>simp[vI]
   case rel=>exact⟨1,rfl,by omega,lX⟩
  ·have uP:=J HB.out g1;have a1:(wr.alloc (.cells #[O d dn dc] 36)) wr=O d dn dc:=xz wr _ _ 0 rfl;have aA:Below wr wr (wr.alloc (.cells #[O d dn dc] 36)):=(q9).alloc (nlr _) _;have aR:=lhd ((btr HB.out aA));clear aA;go_wp2_with fail;refine(q7v (HW.b2.keep aR.out)).mono ?_;rintro e w5 ⟨rfl,aC⟩;have lX:=lhd ((btr aR.out aC));clear aC;go_wp2;go_roundw
   case measure=>simp[vI]
   case rel=>exact⟨2,rfl,by omega,lX⟩
  ·replace b3:=J HB.out b3
   replace b4:=J HB.out b4
   replace b5:=J HB.out b5
   clear g0 g1;go_wp2_with fail;refine(qpn (HW.a1.keep HB.out)).mono ?_;rintro e w1 ⟨ri,rfl,lk,ae⟩;obtain⟨ra,rc,rfl⟩:=qj lk;obtain⟨len,hlen⟩:=x4 A.length;rw[<-hlen]at lk ⊢;have nG:Sl w1 1 (O ra len rc) (ints (A.map Cl.id)):=Sl.qc lk;have zF:len=sn:=by rw[hlen,HH.a6,HH.b7]
   subst zF
   replace b3:=J ae b3
   replace b4:=J ae b4
   replace b5:=J ae b5
   have pJ:Below W W w1:=(btr HB.out ae);have H1:=yt nG pJ hlen ((btr HW.out.1 pJ));clear lk ae hlen nG pJ;have X7:((len:Int) != (len:Int))=false:=by simp
   go_wp2_with fail;have jG:∀x∈An,∃X∈A,X.id=x.c:=fun x hx=>by
    have:x.c∈A.map Cl.id:=by rw[<-HH.a4];exact gj.2 ⟨x,hx,rfl⟩
    obtain⟨X,hX,e⟩:=gj.1 this;exact⟨X,hX,e⟩
   have jY:An.Pairwise fun x y=>x.c≠y.c:=by
    have:(An.map Im.c).Pairwise (·≠·):=by rw[HH.a4];exact HH.out.1.q1v.nodup
    exact List.pairwise_map.1 this
   refine(qlm (HH.a3.keep H1.b3) (fun x hx=>by obtain⟨X,hX,e⟩:=jG x hx;rw[<-e];exact HH.out.1.qjs hX) jY (by rw[HH.b7];exact E7)).mono ?_;rintro e w2 ⟨B,rfl,dL,aj⟩
   replace b3:=J aj b3
   replace b4:=J aj b4
   replace b5:=J aj b5
   have H2:=yt dL ((btr H1.a1 aj)) (H1.out.1.keep aj) jG;clear dL aj jG jY;go_wp2_with fail;go_loopw [13,14,15,16,47] (fun _ _ _ _ x wr=>∃k:Nat,x=k/\k<=len/\Hid (Below w2 w2 wr)) (fun _ _ _ _ x _=>len-(vI x).toNat)
   case atStart=>exact⟨0,rfl,gm _,(lhd q9)⟩
   case round =>
    obtain⟨k,rfl,hk,dh⟩:=hrel;by_cases aZ:k<len
    ·have cV:(k:Int)<len:=by omega
     have bQ:Below w w wr:=HW.out.1.trans (((btr H2.a1 dh.out)).mono HW.out.1.size);obtain⟨X8,x,hie,hx,d0,d1⟩:=qpo (HH.a3.keep bQ) (k:=k) (by rw[HH.b7,<-H1.a2];exact aZ);subst hie;obtain⟨rd,xc,iI,fs,r0⟩:=q00 (H2.a2.keep dh.out) aZ;subst iI;have ee:=gi hx;have oU:xc=x.c:=by rw[<-HH.a4,List.getElem?_map,hx]at fs;exact(osi fs).symm
     obtain⟨X,hX,xR⟩:=H2.b3 x ee;have nP:=(HH.a5 x ee).keep bQ;rw[<-oU]at d0 nP xR;have aA:Below wr wr (wr.alloc (.cells #[xc,O x.a x.n x.k] 162)):=(q9).alloc (nlr _) _;have q0:(wr.alloc (.cells #[xc,O x.a x.n x.k] 162)) wr=xc:=xz wr _ _ 0 rfl;have q1:(wr.alloc (.cells #[xc,O x.a x.n x.k] 162)) ⟨wr,1,Z⟩=O x.a x.n x.k:=xz wr _ _ 1 rfl;have HX:=kg hX xR (nP.keep aA) bQ aA;clear hX xR nP bQ oU fs hx ee aA;go_wp2_with fail;obtain⟨Wb,vG⟩:=x4 (wr.alloc (.cells #[xc,O x.a x.n x.k] 162));have ny:Below wr wr Wb:=by rw[vG];exact HX.b4
     have iq:Sl Wb 3 (O x.a x.n x.k) (tv (ctm [(xc,1)])):=by rw[vG];exact HX.a2
     rw[<-vG]at q0 q1 ⊢
     replace r0:=J ny r0
     have kE:I64 xc:=by rw[<-HX.a1];exact HH.out.1.qjs HX.out.1
     obtain⟨eL,ED⟩:=x4 wr.heap.size;rw[<-ED]at q0 q1 ⊢;obtain⟨xa,hxa⟩:=x4 x.a;obtain⟨xn,dO⟩:=x4 x.n;obtain⟨xk,lV⟩:=x4 x.k;rw[<-hxa,<-dO,<-lV]at q1 iq ⊢;have HC:=yh iq kE ny;clear vG ny iq kE ED hxa dO lV d0 d1;refine qp4 fun KO cD=>?_
     go_cut [67]from 52 to 66 (fun x wx=>x=τ false/\Hid (Below Wb Wb wx))
     case first =>
      rename_i At K2 hJ aQ;refine q0m rfl (fun i v w'=>match i with
       |0=>v=σ eL
       |1=>v=xc
       |2=>v=O (Y rd) len rc
       |3=>v=k
       |4=>v=σ (Y (rd.add k))
       |5=>v=xc
       |6=>v=τ false
       |7=>v=τ false
       |8=>v=σ (Y ⟨eL,1,Z⟩)
       |9=>v=O xa xn xk
       |10=>v=σ (Y ⟨eL,1,Z⟩)
       |11=>v=O xa xn xk
       |12=>Sl w' 3 v (tv (ctm [(xc,1)]))
       |13=>v=τ true
       |14=>v=τ false
       |15=>v=τ false
       |_=>True) 98 rfl (by kernel_rfl) (by kernel_rfl) ?keep ?step ?done
      case keep =>
       intro i v w1 w2 h hb
       match i,h with
       |0,h=>exact h
       |1,h=>exact h
       |2,h=>exact h
       |3,h=>exact h
       |4,h=>exact h
       |5,h=>exact h
       |6,h=>exact h
       |7,h=>exact h
       |8,h=>exact h
       |9,h=>exact h
       |10,h=>exact h
       |11,h=>exact h
       |12,h=>exact h.keep hb
       |13,h=>exact h
       |14,h=>exact h
       |15,h=>exact h
       |i+16,h=>trivial
      case step =>
       intro i o ho b w' hw hd ab hsz
       match i,ho,hd with
       |0,rfl,_ =>exact⟨rfl,q8b _ _ _ rfl _ (zr qu ab 14) _ (qb3 w' _ 0 (by decide)) ⟨_,rfl,rfl,q9⟩⟩
       |1,rfl,hd =>exact⟨rfl,q8o _ _ rfl _ (zf hd 0) _ (qe0 _ _ _ (J hw q0)) ⟨_,rfl,rfl,q9⟩⟩
       |2,rfl,_ =>exact⟨rfl,q1b _ (.inl rfl) ⟨_,rfl,(zr qu ab 11),q9⟩⟩
       |3,rfl,_ =>exact⟨rfl,q1b _ (.inl rfl) ⟨_,rfl,(zr qu ab 13),q9⟩⟩
       |4,rfl,hd =>have f54:b 54 V=O (Y rd) len rc:=zf hd 2;have f55:b 55 V=k:=zf hd 3;exact⟨rfl,qc9 _ _ _ rfl _ _ f54 f55 _ (q0w w' rd len rc k aZ) ⟨_,rfl,rfl,q9⟩⟩
       |5,rfl,hd =>exact⟨rfl,q8o _ _ rfl _ (zf hd 4) _ (qe0 _ _ _ (J hw r0)) ⟨_,rfl,rfl,q9⟩⟩
       |6,rfl,hd =>exact⟨rfl,qnf _ _ _ _ _ rfl _ _ (zf hd 1) (zf hd 5) _ rfl (qlk _ _) ⟨_,rfl,rfl,q9⟩⟩
       |7,rfl,hd =>exact⟨rfl,q1b _ (.inl rfl) ⟨_,rfl,(zf hd 6),q9⟩⟩
       |8,rfl,hd =>exact⟨gwf 7 59 (zf hd 7),q8b _ _ _ rfl _ (zr qu ab 14) _ (qb3 w' _ 1 (by decide)) ⟨_,rfl,rfl,q9⟩⟩
       |9,rfl,hd =>exact⟨gwf 7 59 (zf hd 7),q8o _ _ rfl _ (zf hd 8) _ (qbw (J hw q1)) ⟨_,rfl,rfl,q9⟩⟩
       |10,rfl,hd =>exact⟨gwf 7 59 (zf hd 7),q8b _ _ _ rfl _ (zr qu ab 14) _ (qb3 w' _ 1 (by decide)) ⟨_,rfl,rfl,q9⟩⟩
       |11,rfl,hd =>exact⟨gwf 7 59 (zf hd 7),q8o _ _ rfl _ (zf hd 10) _ (qbw (J hw q1)) ⟨_,rfl,rfl,q9⟩⟩
       |12,rfl,hd =>
        have Lq:b 63 V=O xa xn xk:=(zf hd 11)
        exact⟨gwf 7 59 (zf hd 7),qdj _ _ _ rfl (fun _ _=>rfl) #[O xa xn xk] (by rw[<-Lq];simp[Act.eval]) ((qs0 xc _ w' (HC.out.1.keep hw) HC.a1).mono fun e w2 ⟨r,h1,h2,h3⟩=>⟨_,h1,_,rfl,h2,h3⟩)⟩
       |13,rfl,hd =>
        have f64:Sl w' 3 (b 64 V) (tv (ctm [(xc,1)])):=zf hd 12;have Ui:b 61 V=O xa xn xk:=(zf hd 9)
        exact⟨gwf 7 59 (zf hd 7),qdj _ _ _ rfl (fun _ _=>rfl) #[O xa xn xk,b 64 V] (by rw[<-Ui];simp[Act.eval]) ((qtt _ _ _ w' (HC.out.1.keep hw) f64).mono fun e w2 ⟨h1,h2⟩=>⟨τ true,h1,_,rfl,rfl,h2⟩)⟩
       |14,rfl,hd =>exact⟨gwf 7 59 (zf hd 7),q3g _ _ _ rfl _ (zf hd 13) _ rfl ⟨_,rfl,rfl,q9⟩⟩
       |15,rfl,hd =>exact⟨rfl,q29 _ _ _ rfl (zf hd 7) ⟨_,rfl,(zf hd 14),q9⟩⟩
       |i+16,ho,hd =>have:i+16<16:=(gh.1 ho).1;omega
      case done =>intro b w2 hsz aO hf ab hw;have Uj:b 67 V=τ false:=hf 15 _ _ rfl rfl;refine aQ _ _ (Met.intro (hJ _ _ ⟨b 52 V,b 53 V,b 54 V,b 55 V,b 56 V,b 57 V,b 58 V,b 59 V,b 60 V,b 61 V,b 62 V,b 63 V,b 64 V,b 65 V,b 66 V,b 67 V,⟨Uj,(lhd hw)⟩,(q8z hsz aO ab).trans ?_⟩));kernel_rfl
     case rest =>
      obtain⟨rfl,lX⟩:=hcut;refine cD _ _ ?_;have kI:Below w2 w2 wc:=dh.out.trans (((btr HC.b2 lX.out)).mono dh.out.size);have EE:Below w w wc:=HW.out.1.trans (((btr H2.a1 kI)).mono HW.out.1.size);have Lr:=J kI b3;have I0:=J kI b4;have Ls:=J lX.out q0;have I1:=J lX.out q1;have HR:=yh kI EE (HC.out.1.keep lX.out);clear kI EE;go_wp2_with fail;refine(qjq (HH.out.1.keep HR.a1) xc HC.a1).mono ?_;rintro e w6 ⟨cQ,P3⟩;have qC:A.find? (fun y=>y.id == xc)=Y X:=by rw[<-HX.a1];exact qar HH.out.1.q1v.asc HX.out.1
      rw[qC]at P3;rcases P3 with ⟨y,rfl,hy,iT⟩|⟨_,hy⟩
      ·have Cf:y.cl=X:=(osi hy).symm;obtain⟨xd,Aq⟩:=x4 X.dim;have Lt:y.v=I #[xc,xd,y.sl]:=by
        show _=_;have e1:y.cl.id=xc:=by rw[Cf];exact HX.a1
        have e2:y.cl.dim=xd:=by rw[Cf,Aq]
        rw[<-e1,<-e2];rfl
       obtain⟨ya,sK⟩:=x4 y.a;obtain⟨yn,jZ⟩:=x4 y.n;obtain⟨yc,nz⟩:=x4 y.c;have GN:y.sl=O ya yn yc:=by rw[sK,jZ,nz];rfl
       rw[GN]at Lt;rw[Lt];have aA:Below w6 w6 (w6.alloc (.cells #[xc,xd,O ya yn yc] 52)):=(q9).alloc (nlr _) _;have s1:(w6.alloc (.cells #[xc,xd,O ya yn yc] 52)) ⟨w6,1,Z⟩=xd:=xz w6 _ _ 1 rfl;have HY:=jg Aq ((btr cQ aA));clear qC hy iT Cf Aq Lt sK jZ nz GN aA b3 b4 b5 q0 q1;go_wp2_with fail;obtain⟨Wc,Lu⟩:=x4 (w6.alloc (.cells #[xc,xd,O ya yn yc] 52));have vH:Below wc wc Wc:=by rw[Lu];exact HY.out.2
       rw[<-Lu]at s1 ⊢
       replace Lr:=J vH Lr
       replace I0:=J vH I0
       replace Ls:=J vH Ls
       replace I1:=J vH I1
       obtain⟨jH,EF⟩:=x4 w6.heap.size;rw[<-EF]at s1 ⊢;have HZ:=yt vH ((btr HR.a1 vH)) ((btr HR.out.1 vH)) (HR.b2.keep vH);clear Lu vH EF cQ r0;refine qp4 fun KO cD=>?_
       go_cut [96]from 75 to 95 (fun x wx=>x=τ false/\Hid (Below Wc Wc wx))
       case first =>
        rename_i At K2 hJ aQ;refine q0m rfl (fun i v w'=>match i with
         |0=>v=I #[O d dn dc]
         |1=>v=σ (Y ⟨jH,1,Z⟩)
         |2=>v=xd
         |3=>v=σ (Y ⟨eL,1,Z⟩)
         |4=>v=O xa xn xk
         |5=>v=τ true
         |6=>v=τ false
         |7=>v=τ false
         |8=>v=I #[O d dn dc]
         |9=>v=σ (Y ⟨eL,1,Z⟩)
         |10=>v=O xa xn xk
         |11=>(Fk.cf (fun r=>se (zq L xc) r) 76000 76016).holds v w'
         |12=>v=.map (Y B)
         |13=>v=I #[O a an ac]
         |14=>v=σ eL
         |15=>v=xc
         |16=>Sl w' 3 v (tv (ctm [(xc,1)]))
         |17=>(Fk.cf (fun r=>se (zq A xc) r) 76000 76016).holds v w'
         |18=>(Fk.cf (fun c=>if An.any (fun x=>x.c == c)then (fun r=>se (zq A xc) r) c else 0) 76000 76016).holds v w'
         |19=>v=τ true
         |20=>v=τ false
         |21=>v=τ false
         |_=>True) 98 rfl (by kernel_rfl) (by kernel_rfl) ?keep ?step ?done
        case keep =>
         intro i v w1 w2 h hb
         match i,h with
         |0,h=>exact h
         |1,h=>exact h
         |2,h=>exact h
         |3,h=>exact h
         |4,h=>exact h
         |5,h=>exact h
         |6,h=>exact h
         |7,h=>exact h
         |8,h=>exact h
         |9,h=>exact h
         |10,h=>exact h
         |11,h=>exact Fk.keep (k:=.cf (fun r=>se (zq L xc) r) 76000 76016) h hb
         |12,h=>exact h
         |13,h=>exact h
         |14,h=>exact h
         |15,h=>exact h
         |16,h=>exact h.keep hb
         |17,h=>exact Fk.keep (k:=.cf (fun r=>se (zq A xc) r) 76000 76016) h hb
         |18,h=>exact Fk.keep (k:=.cf (fun c=>if An.any (fun x=>x.c == c)then (fun r=>se (zq A xc) r) c else 0) 76000 76016) h hb
         |19,h=>exact h
         |20,h=>exact h
         |21,h=>exact h
         |i+22,h=>trivial
        case step =>
         intro i o ho b w' hw hd ab hsz
         match i,ho,hd with
         |0,rfl,_ =>exact⟨rfl,q8o _ _ rfl _ (zr qu ab 4) _ (q10 (J hw I0)) ⟨_,rfl,rfl,q9⟩⟩
         |1,rfl,_ =>exact⟨rfl,q8b _ _ _ rfl _ (zr qu ab 15) _ (qrz w' _ 1 (by decide)) ⟨_,rfl,rfl,q9⟩⟩
         |2,rfl,hd =>exact⟨rfl,q8o _ _ rfl _ (zf hd 1) _ (qe0 _ _ _ (J hw s1)) ⟨_,rfl,rfl,q9⟩⟩
         |3,rfl,_ =>exact⟨rfl,q8b _ _ _ rfl _ (zr qu ab 14) _ (qb3 w' _ 1 (by decide)) ⟨_,rfl,rfl,q9⟩⟩
         |4,rfl,hd =>exact⟨rfl,q8o _ _ rfl _ (zf hd 3) _ (qbw (J hw I1)) ⟨_,rfl,rfl,q9⟩⟩
         |5,rfl,hd =>
          have eN:Calls Tryz.prog 115 #[I #[O d dn dc],xd,O xa xn xk] w' fun e w2=>e=.returned (τ true)/\Below w' w' w2:=by rw[HY.out.1];refine qvr (HH.a1.keep ((btr HZ.a1 hw))) (HH.a2 X HX.out.1) ?_;rw[HX.a1];exact HZ.b3.keep hw
          have Uk:b 75 V=I #[O d dn dc]:=(zf hd 0)
          have Ul:b 77 V=xd:=(zf hd 2)
          have Um:b 79 V=O xa xn xk:=(zf hd 4)
          exact⟨rfl,qdj _ _ _ rfl (fun _ _=>rfl) #[I #[O d dn dc],xd,O xa xn xk] (by rw[<-Uk,<-Ul,<-Um];simp[Act.eval]) (eN.mono fun e w2 ⟨h1,h2⟩=>⟨τ true,h1,_,rfl,rfl,h2⟩)⟩
         |6,rfl,hd =>exact⟨rfl,q3g _ _ _ rfl _ (zf hd 5) _ rfl ⟨_,rfl,rfl,q9⟩⟩
         |7,rfl,hd =>exact⟨rfl,q1b _ (.inl rfl) ⟨_,rfl,(zf hd 6),q9⟩⟩
         |8,rfl,hd =>exact⟨gwf 7 82 (zf hd 7),q8o _ _ rfl _ (zr qu ab 4) _ (q10 (J hw I0)) ⟨_,rfl,rfl,q9⟩⟩
         |9,rfl,hd =>exact⟨gwf 7 82 (zf hd 7),q8b _ _ _ rfl _ (zr qu ab 14) _ (qb3 w' _ 1 (by decide)) ⟨_,rfl,rfl,q9⟩⟩
         |10,rfl,hd =>exact⟨gwf 7 82 (zf hd 7),q8o _ _ rfl _ (zf hd 9) _ (qbw (J hw I1)) ⟨_,rfl,rfl,q9⟩⟩
         |11,rfl,hd =>
          have Pk:b 83 V=I #[O d dn dc]:=(zf hd 8)
          have Un:b 85 V=O xa xn xk:=(zf hd 10)
          exact⟨gwf 7 82 (zf hd 7),qdj _ _ _ rfl (fun _ _=>rfl) #[I #[O d dn dc],O xa xn xk] (by rw[<-Pk,<-Un];simp[Act.eval]) ((qv5 (HH.a1.keep ((btr HZ.a1 hw))) (HZ.b3.keep hw) HC.a1).mono fun e w2 ⟨r,h1,h2,h3⟩=>⟨_,h1,_,rfl,h2,h3⟩)⟩
         |12,rfl,hd =>exact⟨gwf 7 82 (zf hd 7),q1b _ (.inl rfl) ⟨_,rfl,(zr qu ab 12),q9⟩⟩
         |13,rfl,hd =>exact⟨gwf 7 82 (zf hd 7),q8o _ _ rfl _ (zr qu ab 3) _ (q10 (J hw Lr)) ⟨_,rfl,rfl,q9⟩⟩
         |14,rfl,hd =>exact⟨gwf 7 82 (zf hd 7),q8b _ _ _ rfl _ (zr qu ab 14) _ (qb3 w' _ 0 (by decide)) ⟨_,rfl,rfl,q9⟩⟩
         |15,rfl,hd =>exact⟨gwf 7 82 (zf hd 7),q8o _ _ rfl _ (zf hd 14) _ (qe0 _ _ _ (J hw Ls)) ⟨_,rfl,rfl,q9⟩⟩
         |16,rfl,hd =>
          have Uo:b 90 V=xc:=(zf hd 15)
          exact⟨gwf 7 82 (zf hd 7),qdj _ _ _ rfl (fun _ _=>rfl) #[xc] (by rw[<-Uo];simp[Act.eval]) ((qiq xc w').mono fun e w2 ⟨g,h1,_,_,h2,h3⟩=>⟨_,h1,_,rfl,h2,h3⟩)⟩
         |17,rfl,hd =>
          have f91:Sl w' 3 (b 91 V) (tv (ctm [(xc,1)])):=zf hd 16;have Up:b 88 V=I #[O a an ac]:=(zf hd 13)
          exact⟨gwf 7 82 (zf hd 7),qdj _ _ _ rfl (fun _ _=>rfl) #[I #[O a an ac],b 91 V] (by rw[<-Up];simp[Act.eval]) ((qv5 (HH.out.1.keep ((btr HZ.a1 hw))) f91 HC.a1).mono fun e w2 ⟨r,h1,h2,h3⟩=>⟨_,h1,_,rfl,h2,h3⟩)⟩
         |18,rfl,hd =>
          have f92:(Fk.cf (fun r=>se (zq A xc) r) 76000 76016).holds (b 92 V) w':=zf hd 17;have Lv:b 87 V=.map (Y B):=(zf hd 12)
          exact⟨gwf 7 82 (zf hd 7),qdj _ _ _ rfl (fun _ _=>rfl) #[.map (Y B),b 92 V] (by rw[<-Lv];simp[Act.eval]) ((qvq (H2.out.1.keep ((btr HZ.a2 hw))) (fun x hx=>(HH.a5 x hx).keep ((btr HZ.a1 hw))) f92 (by decide) (by decide)).mono fun e w2 ⟨r,h1,h2,h3⟩=>⟨_,h1,_,rfl,h2,h3⟩)⟩
         |19,rfl,hd =>have f86:(Fk.cf (fun r=>se (zq L xc) r) 76000 76016).holds (b 86 V) w':=zf hd 11;have f93:(Fk.cf (fun c=>if An.any (fun x=>x.c == c)then (fun r=>se (zq A xc) r) c else 0) 76000 76016).holds (b 93 V) w':=zf hd 18;exact⟨gwf 7 82 (zf hd 7),qdj _ _ _ rfl (fun _ _=>rfl) #[b 86 V,b 93 V] (by simp[Act.eval]) ((qvs f86 f93 (fun c=>by have:=qs1 HH.out.1.q1v HH.a1.q1v HH.a2 HX.out.1 HH.a4 c;rw[HX.a1]at this;exact this) (by decide)).mono fun e w2 ⟨h1,h2⟩=>⟨τ true,h1,_,rfl,rfl,h2⟩)⟩
         |20,rfl,hd =>exact⟨gwf 7 82 (zf hd 7),q3g _ _ _ rfl _ (zf hd 19) _ rfl ⟨_,rfl,rfl,q9⟩⟩
         |21,rfl,hd =>exact⟨rfl,q29 _ _ _ rfl (zf hd 7) ⟨_,rfl,(zf hd 20),q9⟩⟩
         |i+22,ho,hd =>have:i+22<22:=(gh.1 ho).1;omega
        case done =>intro b w2 hsz aO hf ab hw;have Uq:b 96 V=τ false:=hf 21 _ _ rfl rfl;refine aQ _ _ (Met.intro (hJ _ _ ⟨b 75 V,b 76 V,b 77 V,b 78 V,b 79 V,b 80 V,b 81 V,b 82 V,b 83 V,b 84 V,b 85 V,b 86 V,b 87 V,b 88 V,b 89 V,b 90 V,b 91 V,b 92 V,b 93 V,b 94 V,b 95 V,b 96 V,⟨Uq,(lhd hw)⟩,(q8z hsz aO ab).trans ?_⟩));kernel_rfl
       case rest =>
        obtain⟨rfl,qL⟩:=hcut;refine cD _ _ ?_;go_wp2;go_roundw
        case measure=>simp[vI];omega
        case rel =>refine⟨k+1,by push_cast;rfl,by omega,(show Hid _ from ?_)⟩;exact (btr HZ.a2 qL.out)
      ·cases hy
    ·have aM:k=len:=by omega
     subst aM;have cV:¬(k:Int)<k:=by omega
     go_wp2;go_ret;exact⟨rfl,HW.out.1.trans (((btr H2.a1 dh.out)).mono HW.out.1.size)⟩
