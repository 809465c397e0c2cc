/- Steps towards SequenceChecks. Conditions: none. -/
import Derived.Test.YtmkpbhaoalbhjaaGreatDoorXRi
set_option maxRecDepth 1000000
set_option maxHeartbeats 0
open Go.Value renaming slice→O,agg→I,pointer→σ,int→H,tuple→ψ
open Option renaming none→Z,some→Y
open Go renaming undef→V,World→δ,Value→ε
open Go.IntKind renaming i64→φ
open Go.Cx renaming keep→J
namespace Go.Cx
open Go.RowKit
variable {P:Program}{ops:Array Oper}{Q:Exit->Act->δ->Prop}
def q5r (ops:Array Oper)(m f:Nat):Bool:=decide (m<ops.size) && ((List.range m).all fun i=>reach ops f m i) && (List.range ops.size).all fun k=>decide (k<=m) || dep .any ops k (k-1)
structure StR (Rl:δ->δ->Prop)(ops:Array Oper)(m:Nat)(F:Nat->ε->δ->Prop)(B:Nat->Bool)(a0:Act)(w0:δ)(l:Nat->Bool)(a:Act)(w:δ):Prop where
 sz:a.tmps.size=a0.tmps.size
 df:a.defers=a0.defers
 fact:∀(i:Nat) (o:Oper) (d:Nat),ops[i]? =Y o->o.dst=Y d->l i=true->F i (a d V) w
 base:∀s,(∀(i:Nat) (o:Oper),i<m->ops[i]? =Y o->o.dst≠Y s)->a s V=a0 s V
 below:Rl w0 w
 box:∀(i:Nat) (o:Oper) (d:Nat),ops[i]? =Y o->o.dst=Y d->l i=true->B i=true->∃p,a.tmps.getD d V=σ (Y ⟨p,0,Z⟩)/\p<w.heap.size
 apart:∀(i:Nat) (o:Oper) (d:Nat) (j:Nat) (o':Oper) (d':Nat),ops[i]? =Y o->o.dst=Y d->ops[j]? =Y o'->o'.dst=Y d'->l i=true->l j=true->B i=true->B j=true->i≠j->a d V≠a.tmps.getD d' V
theorem qeh {id:Nat}{a0:Act}{w:δ}(Rl:δ->δ->Prop)(Ko:∀a b,Below a.heap.size a b->Rl a b)(cE:∀ {a b c},Rl a b->Rl b c->Rl a c)(wZ:∀ {a b},Rl a b->a.heap.size<=b.heap.size)(hm:P.follows .mixedOrders=true)(F:Nat->ε->δ->Prop)(B:Nat->Bool)(m f n:Nat)(hn:a0.tmps.size=n)(hd:q6a ops n=true)(lP:qmk .any ops=true)(kO:q5r ops m f=true)
  (Fin:Nat->Act->δ->Prop)
  (hF:∀i v w w',F i v w->Rl w w'->F i v w')
  (dq:∀(i:Nat) (o:Oper),ops[i]? =Y o->i<m->∀(a:Act) (w':δ),Rl w w'->(∀(j:Nat) (oj:Oper) (dj:Nat),ops[j]? =Y oj->oj.dst=Y dj->dep .any ops i j=true->F j (a dj V) w') →
   (∀s,(∀(i:Nat) (o:Oper),i<m->ops[i]? =Y o->o.dst≠Y s)->a s V=a0 s V)->a.tmps.size=n →
   Region.wanted o (yielded ops a.tmps)=true/\o.dst≠Z/\Oper.wp P o a w' (fun a' w''=>∃v,a'=a.put o.dst v/\F i v w''/\Rl w' w''/\(B i=true->∃p,v=σ (Y ⟨p,0,Z⟩)/\w'.heap.size<=p/\p<w''.heap.size)) Q)
  (rV:∀(a:Act) (w':δ),a.tmps.size=n->a.defers=a0.defers->(∀(i:Nat) (o:Oper) (d:Nat),ops[i]? =Y o->o.dst=Y d->i<m->F i (a d V) w') →
   (∀s,(∀(i:Nat) (o:Oper),i<m->ops[i]? =Y o->o.dst≠Y s)->a s V=a0 s V)->Rl w w' →
   (∀(i:Nat) (o:Oper) (d:Nat) (j:Nat) (o':Oper) (d':Nat),ops[i]? =Y o->o.dst=Y d->ops[j]? =Y o'->o'.dst=Y d'->i<m->j<m->B i=true->B j=true->i≠j->a d V≠a.tmps.getD d' V)->Fin 0 a w')
  (rW:∀(k:Nat) (o:Oper),ops[m+k]? =Y o->∀(a:Act) (w':δ),Fin k a w'->Region.wanted o (yielded ops a.tmps)=true/\Oper.wp P o a w' (fun a' w''=>Fin (k+1) a' w'') Q)
  (cZ:∀(a:Act) (w':δ),Fin (ops.size-m) a w'->Q .normal a w') :
  (Code.region id ops true).wp P Q a0 w:=by
 have lQ:=qbq hd;unfold q5r at kO;rw[gM,gM,decide_eq_true_eq]at kO;obtain⟨⟨D8,iI⟩,nP⟩:=kO;have eH:∀i,i<m->reach ops f m i=true:=fun i hi=>gE.1 iI i (gF.2 hi)
 have dt:∀k,m<k->k<ops.size->dep .any ops k (k-1)=true:=fun k h1 h2=>by have:=gE.1 nP k (gF.2 h2);rw[Bool.or_eq_true,decide_eq_true_eq]at this;exact this.resolve_left (by omega)
 have down:∀(l:Nat->Bool),(∀i,l i=true->∀j,dep .any ops i j=true->l j=true)->(∀j,l j=true->j<ops.size)->∀k j,j<=k->l (m+k)=true->l (m+j)=true:=fun l hc hb k j mH hk=>by
  induction k with
  |zero=>rw[show j=0 by omega];exact hk
  |succ k ih =>
   rcases gG j (k+1)with ak|B0
   ·refine ih (by omega) ?_;have:=hc _ hk _ (dt (m+(k+1)) (by omega) (hb _ hk))
    rwa [show m+(k+1)-1=m+k by omega]at this
   ·rw[show j=k+1 by omega];exact hk
 refine qdc hm lP (fun l a w'=>(∀i,l i=true->∀j,dep .any ops i j=true->l j=true)/\(∀j,l j=true->j<ops.size)/\(l m=false->StR Rl ops m F B a0 w l a w')/\(∀k,l (m+k)=true->l (m+(k+1))=false->Fin (k+1) a w')) ?_ ?_ ?_
 ·exact⟨fun i h=>absurd h Bool.false_ne_true,fun i h=>absurd h Bool.false_ne_true,fun _=>⟨rfl,rfl,fun _ _ _ _ _ h=>absurd h Bool.false_ne_true,fun _ _=>rfl,Ko _ _ (qb (Below.refl _ w) 1),fun _ _ _ _ _ h=>absurd h Bool.false_ne_true,fun _ _ _ _ _ _ _ _ _ _ h=>absurd h Bool.false_ne_true⟩,fun k h=>absurd h Bool.false_ne_true⟩
 ·intro i o ho l a w' jA aK ⟨hc,hb,h1,h2⟩;have dT:=(gh.1 ho).1;have dF:∀j,(fun j=>j == i || l j) j=true->∀k,dep .any ops j k=true->(fun j=>j == i || l j) k=true:=fun j hj k hk=>by
   simp only [Bool.or_eq_true,beq_iff_eq]at hj ⊢;rcases hj with rfl|hj
   ·exact .inr (aK k hk)
   ·exact .inr (hc j hj k hk)
  have bX:∀j,(fun j=>j == i || l j) j=true->j<ops.size:=fun j hj=>by
   simp only [Bool.or_eq_true,beq_iff_eq]at hj;rcases hj with rfl|hj
   ·exact dT
   ·exact hb j hj
  by_cases aD:i<m
  ·have dU:l m=false:=by
    cases hc':l m with
    |false=>rfl
    |true =>have:=q1h hc f m i (eH i aD) hc';rw[jA]at this;cases this
   have ag:=h1 dU;obtain⟨hw,kD,fB⟩:=dq i o ho aD a w' ag.below (fun j oj dj hj ar qI=>ag.fact j oj dj hj ar (aK j qI)) ag.base (ag.sz.trans hn);refine⟨hw,Oper.wp_mono (fun a' w'' hx=>?_) fB⟩;obtain⟨v,rfl,hv,ni,fF⟩:=hx;obtain⟨d,dw⟩:=Option.ne_none_iff_exists'.1 kD;obtain⟨iZ,nN⟩:=lQ i o d ho dw;refine⟨dF,bX,fun _=>?_,fun k hk=>?_⟩
   ·rw[dw];have old:∀j (oj:Oper) dj,ops[j]? =Y oj->oj.dst=Y dj->j≠i->(a.put (Y d) v).tmps.getD dj V=a dj undef:=fun j oj dj hj ar aH=>by rw[q3s,if_neg (fun e=>nN j oj hj aH (by rw[ar,e.1]))]
    have new:(a.put (Y d) v).tmps.getD d V=v:=by rw[q3s,if_pos ⟨rfl,by rw[ag.sz,hn];exact iZ⟩]
    have ij:∀j,j≠i->(j == i || l j)=true->l j=true:=fun j aH cy=>by
     have:(j == i)=false:=by simpa using aH
     rwa [this,Bool.false_or]at cy
    have same:∀(oj:Oper) dj,ops[i]? =Y oj->oj.dst=Y dj->dj=d:=fun oj dj hj ar=>by
     rw[ho]at hj;injection hj with hj;subst hj
     rw[dw]at ar;injection ar with ar;exact ar.symm
    refine⟨by show (a.tmps.setIfInBounds d v).size=_;simpa using ag.sz,ag.df,fun j oj dj hj ar cy=>?_,fun s hs=>?_,cE ag.below ni,fun j oj dj hj ar cy hB=>?_,fun j oj dj k ok dk hj ar hk bN cy eh pw px ah=>?_⟩
    ·by_cases aH:j=i
     ·subst aH;rw[same oj dj hj ar,new];exact hv
     ·rw[old j oj dj hj ar aH];exact hF _ _ _ _ (ag.fact j oj dj hj ar (ij j aH cy)) ni
    ·rw[q3s,if_neg (fun e=>hs i o aD ho (by rw[dw,e.1]))];exact ag.base s hs
    ·by_cases aH:j=i
     ·subst aH;obtain⟨p,h3,_,h4⟩:=fF hB;exact⟨p,by rw[same oj dj hj ar,new];exact h3,h4⟩
     ·obtain⟨p,h3,h4⟩:=ag.box j oj dj hj ar (ij j aH cy) hB;exact⟨p,by rw[old j oj dj hj ar aH];exact h3,gz h4 (wZ ni)⟩
    ·by_cases aH:j=i
     ·subst aH;have eO:k≠j:=fun e=>ah e.symm
      obtain⟨p,h3,h5,_⟩:=fF pw;obtain⟨q,h6,h7⟩:=ag.box k ok dk hk bN (ij k eO eh) px;rw[same oj dj hj ar,new,old k ok dk hk bN eO,h3,h6];intro e;injection e with e;injection e with e;injection e with e;omega
     ·by_cases eO:k=i
      ·subst eO;obtain⟨p,h3,h5,_⟩:=fF px;obtain⟨q,h6,h7⟩:=ag.box j oj dj hj ar (ij j aH cy) pw;rw[same ok dk hk bN,new,old j oj dj hj ar aH,h3,h6];intro e;injection e with e;injection e with e;injection e with e;omega
      ·rw[old j oj dj hj ar aH,old k ok dk hk bN eO];exact ag.apart j oj dj k ok dk hj ar hk bN (ij j aH cy) (ij k eO eh) pw px ah
   ·exfalso
    simp only [Bool.or_eq_true,beq_iff_eq]at hk;rcases hk with hk|hk
    ·omega
    ·have:=down l hc hb k 0 (gm _) hk;rw[Nat.add_zero,dU]at this;cases this
  ·obtain⟨k,rfl⟩:∃k,i=m+k:=⟨i-m,by omega⟩
   have zQ:Fin k a w':=by
    cases k with
    |zero =>
     rw[Nat.add_zero]at jA aK;have ag:=h1 jA;have ao:∀j,j<m->l j=true:=fun j hj=>by
      have hr:=eH j hj;cases f with
      |zero=>cases hr
      |succ f =>
       unfold reach at hr;rw[Bool.or_eq_true]at hr;rcases hr with hr|hr
       ·exact aK j hr
       ·obtain⟨k,_,hk⟩:=List.any_eq_true.1 hr;rw[gM]at hk;exact q1h hc f k j hk.2 (aK k hk.1)
     exact rV a w' (ag.sz.trans hn) ag.df (fun i o d ho dw aD=>ag.fact i o d ho dw (ao i aD)) ag.base ag.below fun i o d j o' d' hi eI hj ar h1 h2 aF aI ah=>ag.apart i o d j o' d' hi eI hj ar (ao i h1) (ao j h2) aF aI ah
    |succ k =>
     refine h2 k ?_ jA;have:=aK _ (dt (m+(k+1)) (by omega) dT)
     rwa [show m+(k+1)-1=m+k by omega]at this
   obtain⟨hw,fB⟩:=rW k o ho a w' zQ;refine⟨hw,Oper.wp_mono (fun a' w'' hx=>⟨dF,bX,fun h=>?_,fun j hj zS=>?_⟩) fB⟩
   ·exfalso
    simp only [Bool.or_eq_false_iff,beq_eq_false_iff_ne]at h;cases k with
    |zero=>exact h.1 rfl
    |succ k =>have h3:=aK _ (dt (m+(k+1)) (by omega) dT);rw[show m+(k+1)-1=m+k by omega]at h3;have:=down l hc hb k 0 (gm _) h3;rw[Nat.add_zero,h.2]at this;cases this
   ·have mH:j=k:=by
     simp only [Bool.or_eq_true,beq_iff_eq]at hj;simp only [Bool.or_eq_false_iff,beq_eq_false_iff_ne]at zS;rcases hj with hj|hj
     ·omega
     ·rcases Nat.lt_trichotomy j k with h|h|h
      ·exfalso
       obtain⟨k',rfl⟩:∃k',k=k'+1:=⟨k-1,by omega⟩
       have h3:=aK _ (dt (m+(k'+1)) (by omega) dT);rw[show m+(k'+1)-1=m+k' by omega]at h3;rcases gG j k' with h4|h4
       ·have:=down l hc hb k' (j+1) (by omega) h3;rw[zS.2]at this;cases this
       ·exact zS.1 (by omega)
      ·exact h
      ·exfalso
       have:=down l hc hb j k (by omega) hj;rw[jA]at this;cases this
    rw[mH];exact hx
 ·intro l a w' ao ⟨_,hb,_,h2⟩;have h3:=h2 (ops.size-m-1) (ao _ (by omega)) (by
   cases hc':l (m+(ops.size-m-1+1))with
   |false=>rfl
   |true=>have:=hb _ hc';omega)
  rw[show ops.size-m-1+1=ops.size-m by omega]at h3;exact cZ a w' h3
theorem qb8 {id:Nat}{a0:Act}{w:δ}(Rl:δ->δ->Prop)(Ko:∀a b,Below a.heap.size a b->Rl a b)(cE:∀ {a b c},Rl a b->Rl b c->Rl a c)(wZ:∀ {a b},Rl a b->a.heap.size<=b.heap.size)(hm:P.follows .mixedOrders=true)(vs:List ε)(T:δ->Prop)(m f n:Nat)(hn:a0.tmps.size=n)(hd:q6a ops n=true)(lP:qmk .any ops=true)(kO:q5r ops m f=true)(hsz:ops.size=m+1)
  (dq:∀(i:Nat) (o:Oper),ops[i]? =Y o->i<m->∀(a:Act) (w':δ),Rl w w'->(∀(j:Nat) (oj:Oper) (dj:Nat),ops[j]? =Y oj->oj.dst=Y dj->dep .any ops i j=true->a dj V=vs.getD j V) →
   (∀s,(∀(i:Nat) (o:Oper),ops[i]? =Y o->o.dst≠Y s)->a s V=a0 s V)->a.tmps.size=n →
   Region.wanted o (yielded ops a.tmps)=true/\o.dst≠Z/\Oper.wp P o a w' (fun a' w''=>a'=a.put o.dst (vs.getD i V)/\Rl w' w'') Q)
  (rO:∀(o:Oper),ops[m]? =Y o->∀(a:Act) (w':δ),a.tmps.size=n->(∀(i:Nat) (o:Oper) (d:Nat),ops[i]? =Y o->o.dst=Y d->i<m->a d V=vs.getD i V)->Rl w w' →
   Region.wanted o (yielded ops a.tmps)=true/\o.dst≠Z/\Oper.wp P o a w' (fun a2 w2=>∃v,a2=a.put o.dst v/\T w2) Q)
  (cZ:∀(a:Act) (w':δ),a.tmps.size=n->a.defers=a0.defers->(∀s,(∀(i:Nat) (o:Oper),ops[i]? =Y o->o.dst≠Y s)->a s V=a0 s V)->T w'->Q .normal a w') :
  (Code.region id ops true).wp P Q a0 w:=by
 have lQ:=qbq hd;refine qeh Rl Ko cE wZ hm (fun i v _=>v=vs.getD i V) (fun _=>false) m f n hn hd lP kO
  (fun k a1 w1=>(k=0->a1.tmps.size=n/\a1.defers=a0.defers/\(∀(i:Nat) (o:Oper) (d:Nat),ops[i]? =Y o->o.dst=Y d->i<m->a1 d V=vs.getD i V)/\(∀s,(∀(i:Nat) (o:Oper),i<m->ops[i]? =Y o->o.dst≠Y s)->a1 s V=a0 s V)/\Rl w w1)/\(k≠0->a1.tmps.size=n/\a1.defers=a0.defers/\(∀s,(∀(i:Nat) (o:Oper),ops[i]? =Y o->o.dst≠Y s)->a1 s V=a0 s V)/\T w1))
  (fun _ _ _ _ h _=>h) (fun i o ho hi a w' h1 h2 h3 h4=>?_) (fun a w' h1 h2 h3 h4 h5 _=>⟨fun _=>⟨h1,h2,h3,h4,h5⟩,fun h=>absurd rfl h⟩) (fun k o ho a w' h=>?_) (fun a w' h=>?_)
 ·obtain⟨g1,g2,g3⟩:=dq i o ho hi a w' h1 h2 (fun s hs=>h3 s fun i o _ ho=>hs i o ho) h4;exact⟨g1,g2,Oper.wp_mono (fun _ _ ⟨e1,e2⟩=>⟨_,e1,rfl,e2,fun e=>by cases e⟩) g3⟩
 ·have hk:k=0:=by have:=(gh.1 ho).1;omega
  subst hk;obtain⟨g1,g2,g3,g4,g5⟩:=h.1 rfl;obtain⟨e1,e3,e2⟩:=rO o ho a w' g1 g3 g5;refine⟨e1,Oper.wp_mono (fun b U ⟨v,hb,hT⟩=>⟨fun e=>by omega,fun _=>?_⟩) e2⟩;obtain⟨d,dw⟩:=Option.ne_none_iff_exists'.1 e3;rw[hb,dw];refine⟨by show (a.tmps.setIfInBounds d v).size=_;simpa using g1,g2,fun s hs=>?_,hT⟩;rw[q3s,if_neg (fun e=>hs m o ho (by rw[dw,e.1]))];exact g4 s fun i oi _ hi=>hs i oi hi
 ·obtain⟨g1,g2,g3,g4⟩:=h.2 (by omega);exact cZ a w' g1 g2 g3 g4
theorem qp2 {o:Oper}{a:Act}{w:δ}{K:Act->δ->Prop}(fn:Fn)(xs:Array Operand)(aX:o.op=.makeFunc fn xs #[])(vs:Array ε)(hv:xs.map a.eval=vs)(h:K (a.put o.dst (.func fn vs #[])) w):Oper.wp P o a w K Q:=by subst hv;unfold Oper.wp;simp[execOp,aX,Instr.makeFunc];exact h
end Go.Cx
namespace Go.Proofs.YtmkpbhaoalbhjaaGreatDoor
open Go.RowKit Go.Cx
attribute [local go_sem ↓] Go.wp_at_zero Go.wp_at_succ
def RwI (w:δ)(base N:Nat)(v:ε)(l:List Int):Prop:=(v=O Z 0 0/\N=0/\l=[])\/∃E c,v=O (Y ⟨E,0,Z⟩) N c/\base<=E/\E<w.heap.size/\N<=c/\c<=maxLen/\l.length=N/\IL w E l
def nI (l:List Nat):List Int:=l.map fun j:Nat=>(j:Int)
theorem qjk (l:List Nat):(nI l).length=l.length:=gp ..
theorem ql8 (l:List Nat)(j:Nat):nI (l++[j])=nI l++[(j:Int)]:=by simp[nI]
def q2y (a b c d:ε):Array Value:=([a,b,c,d]++List.replicate 998 (H φ 0)).toArray
theorem q9l (a b c d:ε):(q2y a b c d)[0]? =Y a/\(q2y a b c d)[1]? =Y b/\(q2y a b c d)[2]? =Y c/\(q2y a b c d)[3]? =Y d:=by unfold q2y;refine⟨?_,?_,?_,?_⟩ <;> rw[List.getElem?_toArray,gU (by simp)] <;> rfl
theorem qp3 (a b c d:ε){n:Nat}(h:n<998):(q2y a b c d)[4+n]? =H φ 0:=by unfold q2y;rw[List.getElem?_toArray,gQ (by simp),List.getElem?_replicate];simp;omega
theorem RD.new (w:δ)(p:Int)(r m:Nat)(sv:ε)(t:TypeId):RD (w.alloc (.cells (q2y p r m sv) t)) w sv p r m :=
 ⟨(qd _ _ _ _ _).trans (q9l _ _ _ _).1,(qd _ _ _ _ _).trans (q9l _ _ _ _).2.1,(qd _ _ _ _ _).trans (q9l _ _ _ _).2.2.1,(qd _ _ _ _ _).trans (q9l _ _ _ _).2.2.2,
  fun _ hn=>⟨0,(qd _ _ _ _ _).trans (qp3 _ _ _ _ hn),jz (heap_alloc_new w _) _,.inl rfl⟩⟩
theorem qfn (a:Option Addr)(n c:Nat)(x y:Int):Tryz.prog.built 152 [(0,O a n c),(1,H φ x),(2,H φ y)]=Y #[O a n c,H φ x,H φ y]:=by kernel_rfl
theorem qth (E o c r m a j x y:Nat)(p:Int)(u:ε)(M:List (List Int))(w:δ)(ho:o=a*m)(hM:FM p r m M)(hI:IL w E M.flatten)(ha:a<r)(hm:m<=800)(hp:p<=997)(hx:(x:Int)=j6 (zm M a) j)(hy:y=ovN p.toNat x)(mi:(y:Int)<p) :
  Calls Tryz.prog 101 #[O (Y ⟨E,o,Z⟩) m c,.func (.func 103) #[I #[u,y,p]] #[]] w fun e w'=>e=.returned (ψ #[])/\IL w' E (M.set a (ye p j (zm M a))).flatten/\Bk E w w':=by
 subst ho;exact quw E c r m a j p y u M w hM hI ha hm hp (by rw[hy,<-hx];rfl) ⟨by omega,mi⟩
theorem qti (E o o' c c' r m a k j x:Nat)(p:Int)(M:List (List Int))(w:δ)(ho:o=k*m)(ik:o'=a*m)(hM:FM p r m M)(hI:IL w E M.flatten)(ha:a<r)(hk:k<r)(BF:a≠k)(hm:m<=800)(hp:p<=997)(hx:(x:Int)=j6 (zm M k) j)(lS:x≠0)(kY:(x:Int)<p) :
  Calls Tryz.prog 101 #[O (Y ⟨E,o,Z⟩) m c,.func (.func 104) #[I #[O (Y ⟨E,o',Z⟩) m c',(p-x:Int),p]] #[]] w fun e w'=>e=.returned (ψ #[])/\IL w' E (M.set k (vg p j (zm M a) (zm M k))).flatten/\Bk E w w':=by
 subst ho ik;exact qux E c c' r m a k j p (p-x) M w hM hI ha hk BF hm hp (by rw[hx]) (by rw[<-hx];omega) (by omega)
structure RS (W2 w:δ)(b S R E:Nat)(sv u:ε)(p:Int)(r m n:Nat)(pl:List Nat)(M:List (List Int)):Prop where
 below:Below b W2 w
 rd:RD w R sv p r m
 il:IL w E M.flatten
 own:w.ownsRow S 3 1 u n (ints (nI pl))
section
variable {W2 w w':δ}{b S R E:Nat}{sv u:ε}{p:Int}{r m n:Nat}{pl:List Nat}{M:List (List Int)}
theorem RS.keep (h:RS W2 w b S R E sv u p r m n pl M)(hb:Below w w w')(hE:E<w)(Kq:E<S)(bQ:b<=w):RS W2 w' b S R E sv u p r m n pl M :=
 ⟨h.below.trans (hb.mono bQ),h.rd.keep hb,h.il.keep hb hE,qgz h.own (Bk.of hb) Kq⟩
theorem RS.bkE (h:RS W2 w b S R E sv u p r m n pl M)(hb:Bk E w w'){M':List (List Int)}(hi:IL w' E M'.flatten)(zP:R≠E)(Kq:E<S)(BG:b<=E)(bQ:b<=w):RS W2 w' b S R E sv u p r m n pl M' :=
 ⟨hb.lower h.below BG bQ,h.rd.bk hb zP,hi,qgz h.own hb Kq⟩
theorem RS.rl (h:RS W2 w b S R E sv u p r m n pl M)(hb:Bk R w w')(hd:RD w' R sv p r m)(Hf:E≠R)(SI:R<S)(SJ:b<=R)(bQ:b<=w):RS W2 w' b S R E sv u p r m n pl M :=
 ⟨hb.lower h.below SJ bQ,hd,h.il.bk hb Hf,qgz h.own hb SI⟩
end
theorem RD.low {w w':δ}{R S:Nat}{sv:ε}{p:Int}{r m:Nat}(h:RD w R sv p r m)(hb:Below S w w')(hS:R<S):RD w' R sv p r m :=
 ⟨(hb.cell (by exact hS)).trans h.c0,(hb.cell (by exact hS)).trans h.c1,(hb.cell (by exact hS)).trans h.c2,(hb.cell (by exact hS)).trans h.c3,fun n hn=>by obtain⟨x,h1,h2,h3⟩:=h.ov n hn;exact⟨x,(hb.cell (by exact hS)).trans h1,xf hb (by exact hS) h2,h3⟩⟩
theorem q9s {p:Int}{j a:Nat}{M:List (List Int)}{k:Nat}(hk:k<M.length)(h:k=a\/j6 (zm M k) j=0):elK p j a M (k+1)=elK p j a M k:=by
 rw[qig hk];have e:(if k=a then zm M k else vg p j (zm M a) (zm M k))=zm (elK p j a M k) k:=by
  rw[q7u _ _ _ _ _ hk,if_neg (Nat.lt_irrefl k)];by_cases kW:k=a
  ·rw[if_pos kW]
  ·rw[if_neg kW];unfold vg;rw[if_pos (h.resolve_left kW)]
 rw[e,q23 (by unfold elK;rw[List.length_mapIdx];exact hk)]
theorem qp5 {p:Int}{j a:Nat}{M:List (List Int)}{k:Nat}(hk:k<M.length)(ha:a<M.length)(h:k≠a):(elK p j a M k).set k (vg p j (zm (elK p j a M k) a) (zm (elK p j a M k) k))=elK p j a M (k+1):=by
 rw[qig hk,if_neg h,q7u _ _ _ _ _ hk,if_neg (Nat.lt_irrefl k),q7u _ _ _ _ _ ha];by_cases BF:a<k
 ·rw[if_pos BF,if_pos rfl]
 ·rw[if_neg BF]
theorem qmq {M:List (List Int)}{a i:Nat}(ha:a<M.length):zm (q0f M a i) a=zm M i:=by
 unfold q0f;by_cases h:i=a
 ·subst h;rw[yl (by rw[List.length_set];exact ha)]
 ·rw[q11 h,yl ha]
theorem ql9 (p:Int)(r m:Nat)(v:ε)(M:List (List Int))(w:δ)(h:Sl w 1 v (ints M.flatten))(hp:prN p.toNat=true)(hM:FM p r m M)(hr:r<=400)(hm:m<=800) :
  Calls Tryz.prog 71 #[I #[p,r,m,v]] w fun e w'=>∃sv u,e=.returned (ψ #[I #[p,r,m,sv],u])/\RwI w' w (r*m) sv (jk p m M).1.flatten ∧
   w'.ownsRow w 3 1 u (jk p m M).2.length (ints (nI (jk p m M).2))/\Below w w w':=by
 have iR:p.toNat<=997/\2<=p.toNat:=by have:=yi.1 hp;omega
 have cp:2<=p/\p<=997:=by omega
 obtain⟨va,vn,vc,rfl⟩:=qg h;have hN:r*m<=400*800:=Nat.mul_le_mul hr hm;have HH:=yt h hM hp hN;clear h hM hp hN iR;go_enter Tryz.func71,Tryz.ntmps71;go_wp2_with fail
 go_step3
 go_wp2_with fail;obtain⟨W0,aB⟩:=x4 ((w.alloc (.cells #[p,r,m,O va vn vc] 30)).alloc (.cells #[H φ 0,H φ 0,H φ 0,O Z 0 0] 30));have fe:Below w w W0:=by rw[aB];exact((q9).alloc (nlr _) _).alloc (by simp) _
 have dg:W0.heap.size=w+2:=by rw[aB];simp
 have p0:W0 w=p:=by rw[aB];exact qk (xz w _ _ 0 rfl) _
 have p1:W0 ⟨w,1,Z⟩=r:=by rw[aB];exact qk (xz w _ _ 1 rfl) _
 have p2:W0 ⟨w,2,Z⟩=m:=by rw[aB];exact qk (xz w _ _ 2 rfl) _
 have p3:W0 ⟨w,3,Z⟩=O va vn vc:=by rw[aB];exact qk (xz w _ _ 3 rfl) _
 have z3:W0.frozen? ⟨w,3,Z⟩=false:=by rw[aB];exact q27 (by simp) (q6w w _ _ 3) _
 have q0:W0 (w+1:Nat)=H φ 0:=by rw[aB];exact zx w _ _ _ 0 rfl
 have q1:W0 ⟨w+1,1,Z⟩=H φ 0:=by rw[aB];exact zx w _ _ _ 1 rfl
 have q2:W0 ⟨w+1,2,Z⟩=H φ 0:=by rw[aB];exact zx w _ _ _ 2 rfl
 have q3:W0 ⟨w+1,3,Z⟩=O Z 0 0:=by rw[aB];exact zx w _ _ _ 3 rfl
 have qz:∀i,W0.frozen? ⟨w+1,i,Z⟩=false:=fun i=>by rw[aB];exact vo w _ _ _ i
 rw[<-aB];have H0:=q4q fe dg q0 q1 q2 q3 qz;clear aB fe dg q0 q1 q2 q3 qz;go_wp2_with fail;refine(qdl _ M.flatten W0 (HH.out.1.keep H0.out.1) (by rw[HH.a1.q1d];have:=HH.b3;omega)).mono ?_;rintro e w1 ⟨sv,rfl,af,ae⟩
 replace p0:=J ae p0
 replace p1:=J ae p1
 replace p2:=J ae p2
 replace p3:=J ae p3
 replace z3:=xf ae (by show w.heap.size<_;have:=H0.a1;omega) z3
 obtain⟨sa,sc,dI⟩:=qj af;have fh:M.flatten.length=r*m:=HH.a1.q1d;rw[fh]at dI af;obtain⟨N,hN⟩:=x4 (r*m);rw[<-hN]at dI af;subst dI;have H1:=yh af ae hN;clear af ae hN fh;go_wp2_with fail;obtain⟨C,hC⟩:∃C:Array ε,C=((((Tryz.zeroCells147.setIfInBounds 0 p).setIfInBounds 1 r).setIfInBounds 2 m).setIfInBounds 3 (O sa N sc)):=⟨_,rfl⟩
 have NV:C=q2y p r m (O sa N sc):=hC.trans (by kernel_rfl);rw[<-hC];clear hC;obtain⟨R,hR⟩:=x4 w1.heap.size;rw[<-hR];obtain⟨W2,aY⟩:=x4 ((w1.setCell ⟨w.heap.size,3,Z⟩ (O sa N sc)).alloc (.cells C 147));rw[<-aY];have mN:W2=R+1:=by rw[aY,hR];simp[World.setCell]
 have BI:w+2<=R:=by have h1:=H1.a1.size;have h2:=H0.a1;omega
 have kZ:RD W2 R (O sa N sc) p r m:=by rw[aY,NV,hR,show w1=(w1.setCell ⟨w,3,Z⟩ (O sa N sc)).heap.size by simp[World.setCell]];exact RD.new _ _ _ _ _ _
 have iQ:Below w w W2:=by rw[aY];exact((H0.out.1.trans (H1.a1.mono (by have:=H0.a1;omega))).setCell (p:=⟨w,3,Z⟩) (nlr _) _).alloc (by have:=H1.a1.size;have:=H0.a1;simp[World.setCell];omega) _
 have af:W2.ownsRow W0 3 1 (O sa N sc) N (ints M.flatten):=by rw[aY];exact(ownsRow_setCell_below H1.out.1 (by show w.heap.size<_;have:=H0.a1;omega) _).alloc _
 have lK:∀ {q:Addr} {u:ε},(w1.setCell ⟨w,3,Z⟩ (O sa N sc)) q=Y u->W2 q=Y u:=fun hq=>by rw[aY];exact qk hq _
 have Bj:∀ {q:Addr},q.block<R->w1.frozen? q=false->W2.frozen? q=false:=fun hq hz=>by rw[aY];exact q27 (by simpa [World.setCell,<-hR]using hq) (by rw[World.frozen?_setCell];exact hz) _
 have t0:W2 w=p:=lK (x8 p0 (by simp));have t1:W2 ⟨w,1,Z⟩=r:=lK (x8 p1 (by simp));have t2:W2 ⟨w,2,Z⟩=m:=lK (x8 p2 (by simp));have q0:W2 (w+1:Nat)=H φ 0:=lK (x8 (J H1.a1 H0.a2) (by simp));have q1:W2 ⟨w+1,1,Z⟩=H φ 0:=lK (x8 (J H1.a1 H0.a3) (by simp));have q2:W2 ⟨w+1,2,Z⟩=H φ 0:=lK (x8 (J H1.a1 H0.a4) (by simp));have q3:W2 ⟨w+1,3,Z⟩=O Z 0 0:=lK (x8 (J H1.a1 H0.a5) (by simp));have qz:∀i,W2.frozen? ⟨w.heap.size+1,i,Z⟩=false:=fun i=>Bj (by show w.heap.size+1<R;omega) (xf H1.a1 (by show w.heap.size+1<_;have:=H0.a1;omega) (H0.b6 i))
 have hE:∃E c,0<N->O sa N sc=O (Y ⟨E,0,Z⟩) N c/\w.heap.size+2<=E/\E<R/\N<=c/\c<=maxLen/\IL W2 E M.flatten:=by
  by_cases hN:0<N
  ·obtain⟨E,c,e1,e2,e3,e4,e5,e6⟩:=qgm H1.out.1 hN;refine⟨E,c,fun _=>⟨e1,by have:=H0.a1;omega,by omega,e4,e5,?_⟩⟩;rw[aY];exact(e6.set _ _ (by show w.heap.size≠E;have:=H0.a1;omega)).keep ((q9).alloc (nlr _) _) (by simpa [World.setCell]using e3)
  ·exact⟨0,0,fun h=>absurd h hN⟩
 obtain⟨E,c,hE⟩:=hE;obtain⟨sv,dI⟩:=x4 (O sa N sc:ε);rw[<-dI]at kZ hE af;have H2:=qan t0 t1 t2 kZ iQ BI mN H1.b2 hE
 replace af:W2.ownsRow w 3 1 sv N (ints M.flatten):=qf af (by have:=H0.a1;omega)
 have H3:=q4q q0 q1 q2 q3 qz af dI;clear NV hR aY mN BI kZ iQ af lK Bj p0 p1 p2 p3 z3 t0 t1 q0 q1 q2 q3 qz hE dI H0 H1
 go_step3
 go_wp2_with fail;go_loopw [5,20] (fun u x wr=>∃(j:Nat) (ua:Option Addr) (uc:Nat),u=O ua (yf p M j).2.length uc/\x=H φ j/\j<=m/\Hid (Below (w.heap.size+2) W2 wr)/\Hid (RD wr R sv p r m)/\Hid (0<N->IL wr E (yf p M j).1.flatten)/\Hid (wr.ownsRow W2.heap.size 3 1 (O ua (yf p M j).2.length uc) (yf p M j).2.length (ints (nI (yf p M j).2)))) (fun _ x _=>m-(vI x).toNat)
 case atStart=>exact⟨0,Z,0,rfl,rfl,gm _,(lhd q9),(lhd H2.a3),(lhd (fun h=>(H2.b8 h).2.2.2.2.2)),(lhd (World.ownsRow_nil _ _ _ _))⟩
 case round =>
  obtain⟨j,ua,uc,rfl,rfl,hj,HB,HD,HI,HO⟩:=hrel;obtain⟨wo,eE⟩:=x4 wr;subst eE;have t1:=(HB.out.cell (p:=⟨w.heap.size,1,Z⟩) (by show w.heap.size<_;omega)).trans H2.a1;obtain⟨S,hS⟩:=x4 (yf p M j);obtain⟨hF,tF,_,_⟩:=q3n (show 0<p by omega) HH.a1 j;rw[<-hS]at hF tF;rw[<-hS]at HI HO ⊢;obtain⟨at0,bY⟩:=x4 S.2.length;rw[<-bY]at HO ⊢;have HS:=kg hS bY hF (show at0<=r by omega) tF;by_cases cj:j<m
  ·have pk:(j:Int)<m:=by omega
   have eb:at0<=r:=by omega
   clear hS bY hF tF;go_wp2;go_loopw [5,8] (fun u x wq=>∃i:Nat,u=O ua at0 uc/\x=i/\at0<=i/\i<=r/\Hid (∀i',at0<=i'->i'<i->j6 (zm S.1 i') j=0)/\Hid (Below wo wo wq)) (fun _ x _=>r-(vI x).toNat)
   case atStart=>exact⟨at0,rfl,rfl,nlr _,eb,(lhd (fun i' h1 h2=>by omega)),(lhd q9)⟩
   case round =>
    obtain⟨i,rfl,rfl,jO,db,HZ,mO⟩:=hrel
    replace t1:=J mO.out t1
    by_cases hi:i<r
    ·have BC:(i:Int)<r:=by omega
     have hN:0<N:=by rw[H2.a7];exact Nat.mul_pos (by omega) (by omega)
     obtain⟨dI,BG,Hf,uG,ej,_⟩:=H2.b8 hN;have NW:N=r*m:=H2.a7;have BI:w+2<=R:=H2.a5;have mN:W2=R+1:=H2.a6;have aT:w.heap.size+2<=wo:=by have:=HB.out.size;omega
     have jQ:E<wo.heap.size:=by have:=HB.out.size;omega
     have xA:RS W2 wo (w.heap.size+2) W2.heap.size R E sv (O ua at0 uc) p r m at0 S.2 S.1:=⟨HB.out,HD.out,HI.out hN,HO.out⟩
     have zT:=xA.keep mO.out jQ (by omega) aT;have HQ:=q93 zT aT jQ BG Hf BI mN dI NW uG;have hF:=HS.a2;obtain⟨lS,kY⟩:=hF.at hi cj;obtain⟨x,hx⟩:∃x:Nat,(x:Int)=j6 (zm S.1 i) j:=⟨(j6 (zm S.1 i) j).toNat,by omega⟩
     have d0:=(zT.il _ _ (flat_get hF.wid (by rw[hF.len];exact hi) cj)).1;rw[<-hx]at d0 kY;have HX:=jg hx kY;clear xA zT aT jQ BG Hf BI mN dI NW uG ej hx lS kY hF hN;go_wp2_with fail;refine(qie R E N c r m i wr HQ.out.1.rd.c2 (by rw[HQ.out.1.rd.c3];exact congrArg Y HQ.a7) HQ.a8 HQ.b9 hi (by omega) hr hm).mono ?_;rintro e w3 ⟨rfl,aw⟩
     replace d0:=J aw d0
     replace t1:=J aw t1
     have dh:=lhd aw;obtain⟨im,aD⟩:=x4 (i*m);rw[<-aD]at d0 ⊢;clear aw aD;by_cases uI:x=0
     ·subst uI;go_wp2;go_roundw
      case measure=>simp[vI];omega
      case rel =>
       refine⟨i+1,rfl,qh (by omega),by omega,by omega,(lhd (fun i' h1 h2=>?_)),(lhd ((btr mO.out dh.out)))⟩;by_cases Kr:i'=i
       ·rw[Kr,<-HX.out.1];rfl
       ·exact HZ.out i' h1 (by omega)
     ·have xB:((x:Int) == 0)=false:=by simpa using uI
      have kE:¬((x:Int)=0):=by omega
      have qV:RS W2 w3 (w.heap.size+2) W2.heap.size R E sv (O ua at0 uc) p r m at0 S.2 S.1:=HQ.out.1.keep dh.out (by have:=HQ.a2;have:=mO.out.size;omega) (by have:=HQ.a4;have:=HQ.a6;omega) (by have:=HQ.a1;have:=mO.out.size;omega);have iP:E<w3.heap.size/\w.heap.size+2<=w3.heap.size:=by have:=HQ.a1;have:=HQ.a2;have:=mO.out.size;have:=dh.out.size;omega
      have tM:=jg qV iP;have iF:q25 S.1 j (S.1.length-S.2.length) S.2.length=Y i:=by rw[HS.a2.len,<-HS.a1];exact qen jO (by omega) (by rw[<-HX.out.1];omega) HZ.out
      have tA:=lhd iF;have bY:at0<r:=by omega
      clear qV iP iF;go_wp2_with fail;refine(quu R E N c r m at0 i p S.1 w3 tM.out.1.rd.c2 (by rw[tM.out.1.rd.c3];exact congrArg Y HQ.a7) HQ.a8 HQ.b9 (by have:=HQ.a4;omega) HS.a2 tM.out.1.il bY hi (by omega) hr hm tM.a1).mono ?_;rintro e w4 ⟨rfl,Hh,aN⟩;have zP:R≠E:=by have:=HQ.a4;omega
      have kT:=tM.out.1.bkE aN Hh zP (by have:=HQ.a4;have:=HQ.a6;omega) HQ.a3 tM.b2;have tG:E<w4.heap.size/\w.heap.size+2<=w4.heap.size:=by have:=aN.size;have:=tM.out.2;omega
      have fT:=HS.a2.swap bY hi;obtain⟨M1,uJ⟩:=x4 (q0f S.1 at0 i);rw[<-uJ]at kT fT;have eZ:(x:Int)=j6 (zm M1 at0) j:=by rw[uJ,qmq (by rw[HS.a2.len];exact bY)];exact HX.out.1
      have t0:w4.cell? ⟨w.heap.size,0,Z⟩=Y (H φ p):=(kT.below.cell (by show w.heap.size<_;omega)).trans H2.out.1
      replace t1:w4.cell? ⟨w.heap.size,1,Z⟩=Y (H φ r):=(kT.below.cell (by show w.heap.size<_;omega)).trans H2.a1
      obtain⟨am,nR⟩:=x4 (at0*m);have d1:w4.cell? ⟨E,am+j,Z⟩=Y (H φ x):=by have:=(kT.il _ _ (flat_get fT.wid (by rw[fT.len];exact bY) cj)).1;rw[nR,eZ];exact this
      obtain⟨y,hy⟩:=x4 (ovN p.toNat x);have tK:=q6t HH.a2 uI (by have:=HX.out.2;omega);have eJ:=qan kT tG fT eZ uJ nR hy tK zP;clear Hh aN kT tG fT eZ uJ nR hy tK zP;go_wp2_with fail;refine qp4 fun KO cD=>?_
      go_cut [43]from 44 to 58 (fun _ wx=>Hid (RS W2 wx (w.heap.size+2) W2.heap.size R E sv (O ua at0 uc) p r m at0 S.2 (M1.set at0 (ye p j (zm M1 at0)))))
      case first =>
       rename_i At K2 hJ aQ;refine qb8 (fun a b=>Bk R a b/\(RD a R sv p r m->RD b R sv p r m)) (fun _ _ h=>⟨Bk.of h,fun hd=>hd.keep h⟩) (fun h k=>⟨h.1.trans k.1,fun hd=>k.2 (h.2 hd)⟩) (fun h=>h.1.size) (by kernel_rfl) [(σ (Y ⟨R,0,Z⟩)),(H φ (at0:Int)),(O (Y ⟨E,am,Z⟩) m (c-am)),(σ (Y ⟨R,0,Z⟩)),(σ (Y ⟨R,0,Z⟩)),(H φ (at0:Int)),(O (Y ⟨E,am,Z⟩) m (c-am)),(H φ (j:Int)),(σ (Y ⟨E,am+j,Z⟩)),(H φ (x:Int)),(H φ (y:Int)),(σ (Y ⟨w.heap.size,0,Z⟩)),(H φ p),(I #[O Z 0 0,H φ (y:Int),H φ p]),(.func (.func 103) #[I #[O Z 0 0,H φ (y:Int),H φ p]] #[])] (fun wx=>RS W2 wx (w.heap.size+2) W2.heap.size R E sv (O ua at0 uc) p r m at0 S.2 (M1.set at0 (ye p j (zm M1 at0)))) 15 20 103 rfl (by kernel_rfl) (by kernel_rfl) (by kernel_rfl) rfl ?step13 ?last13 ?done13
       case step13 =>
        intro i o ho hi a w' hg hd ab hsz
        match i,ho,hi,hd with
        |0,rfl,hi,hd =>exact jo (.inl rfl) ⟨congrArg (a.put _) (zr qu ab 4),⟨Bk.refl _ _,id⟩⟩
        |1,rfl,hi,hd =>exact jo (.inl rfl) ⟨congrArg (a.put _) (zr qu ab 7),⟨Bk.refl _ _,id⟩⟩
        |2,rfl,hi,hd =>
         have SK:a 43 V=σ R:=(zf hd 0)
         have SL:a 44 V=(at0:Int):=(zf hd 1)
         exact q0e rfl #[σ (Y ⟨R,0,Z⟩),H φ (at0:Int)] (by rw[<-SK,<-SL];simp[Act.eval]) ((qie R E N c r m at0 w' (hg.2 eJ.out.1.rd).c2 (by rw[(hg.2 eJ.out.1.rd).c3];exact congrArg Y HQ.a7) HQ.a8 HQ.b9 bY (by omega) hr hm).mono (fun e w5 h5=>⟨_,h5.1,by rw[eJ.a5];rfl,Bk.of h5.2,fun hd=>hd.keep h5.2⟩))
        |3,rfl,hi,hd =>exact jo (.inl rfl) ⟨congrArg (a.put _) (zr qu ab 4),⟨Bk.refl _ _,id⟩⟩
        |4,rfl,hi,hd =>exact jo (.inl rfl) ⟨congrArg (a.put _) (zr qu ab 4),⟨Bk.refl _ _,id⟩⟩
        |5,rfl,hi,hd =>exact jo (.inl rfl) ⟨congrArg (a.put _) (zr qu ab 7),⟨Bk.refl _ _,id⟩⟩
        |6,rfl,hi,hd =>
         have SM:a 47 V=σ R:=(zf hd 4)
         have SO:a 48 V=(at0:Int):=(zf hd 5)
         exact q0e rfl #[σ (Y ⟨R,0,Z⟩),H φ (at0:Int)] (by rw[<-SM,<-SO];simp[Act.eval]) ((qie R E N c r m at0 w' (hg.2 eJ.out.1.rd).c2 (by rw[(hg.2 eJ.out.1.rd).c3];exact congrArg Y HQ.a7) HQ.a8 HQ.b9 bY (by omega) hr hm).mono (fun e w5 h5=>⟨_,h5.1,by rw[eJ.a5];rfl,Bk.of h5.2,fun hd=>hd.keep h5.2⟩))
        |7,rfl,hi,hd =>exact jo (.inl rfl) ⟨congrArg (a.put _) (zr qu ab 6),⟨Bk.refl _ _,id⟩⟩
        |8,rfl,hi,hd =>exact q4r rfl (zf hd 6) (zf hd 7) (q3o _ _ _ _ _ _ cj) ⟨rfl,⟨Bk.refl _ _,id⟩⟩
        |9,rfl,hi,hd =>exact jm rfl (zf hd 8) (qe0 _ _ _ (hg.1.cell (by show E≠R;exact fun e=>eJ.b8 e.symm) d1)) ⟨rfl,⟨Bk.refl _ _,id⟩⟩
        |10,rfl,hi,hd =>
         have SP:a 46 V=σ R:=(zf hd 3)
         have SQ:a 52 V=(x:Int):=(zf hd 9)
         exact q0e rfl #[σ (Y ⟨R,0,Z⟩),H φ (x:Int)] (by rw[<-SP,<-SQ];simp[Act.eval]) ((qrm R r m x sv p w' (hg.2 eJ.out.1.rd) HH.a2 uI (by have:=HX.out.2;omega)).mono (fun e w5 h5=>⟨_,h5.1,by rw[eJ.a6];rfl,h5.2.2,fun _=>h5.2.1⟩))
        |11,rfl,hi,hd =>exact yb rfl (zr qu ab 1) (jv _ _ _ (by decide)) ⟨rfl,⟨Bk.refl _ _,id⟩⟩
        |12,rfl,hi,hd =>exact jm rfl (zf hd 11) (qe0 _ _ _ (hg.1.cell (by show w≠R;have:=HQ.a5;omega) t0)) ⟨rfl,⟨Bk.refl _ _,id⟩⟩
        |13,rfl,hi,hd =>
         have SR:a 53 V=(y:Int):=(zf hd 10)
         have Ks:a 55 V=p:=(zf hd 12)
         exact⟨rfl,gu _,qh5 _ _ rfl #[(0,O Z 0 0),(1,H φ (y:Int)),(2,H φ p)] (by rw[<-SR,<-Ks];simp[Act.eval]) _ (run_build _ _ _ _ (qfn _ _ _ _ _)) ⟨rfl,⟨Bk.refl _ _,id⟩⟩⟩
        |14,rfl,hi,hd =>
         have SS:a 56 V=I #[O Z 0 0,(y:Int),p]:=(zf hd 13)
         exact⟨rfl,gu _,qp2 _ _ rfl #[I #[O Z 0 0,(y:Int),p]] (by rw[<-SS];simp[Act.eval]) ⟨rfl,⟨Bk.refl _ _,id⟩⟩⟩
        |15,ho,hi,hd =>omega
        |i+16,ho,hi,hd=>omega
       case last13 =>
        intro o ho a w' hsz hd hg;obtain rfl:=osi ho;have SU:a.tmps.getD 45 V=O (Y ⟨E,am,Z⟩) m (c-am):=(hd 2 _ _ rfl rfl (by decide))
        have SV:a 57 V=.func (.func 103) #[I #[O Z 0 0,(y:Int),p]] #[]:=(hd 14 _ _ rfl rfl (by decide))
        exact q0e rfl #[O (Y ⟨E,am,Z⟩) m (c-am),.func (.func 103) #[I #[O Z 0 0,H φ (y:Int),H φ p]] #[]] (by rw[<-SU,<-SV];simp[Act.eval]) ((qth E am (c-am) r m at0 j x y p (O Z 0 0) M1 w' eJ.a5 eJ.a2 (eJ.out.1.il.bk hg.1 (fun e=>eJ.b8 e.symm)) bY hm cp.2 eJ.a3 eJ.a6 (by have h1:=eJ.a7;have h2:=eJ.a6;omega)).mono (fun e w5 h5=>⟨_,h5.1,_,rfl,(eJ.out.1.rl hg.1 (hg.2 eJ.out.1.rd) (fun e=>eJ.b8 e.symm) (by have:=HQ.a6;omega) (by have:=HQ.a5;omega) eJ.a1.2).bkE h5.2.2 h5.2.1 eJ.b8 (by have:=HQ.a4;have:=HQ.a6;omega) HQ.a3 (by have:=eJ.a1.2;have:=hg.1.size;omega)⟩))
       case done13 =>intro a w' hsz aO ab hT;refine aQ _ _ (Met.intro (hJ _ _ ⟨a 43 V,a 44 V,a 45 V,a 46 V,a 47 V,a 48 V,a 49 V,a 50 V,a 51 V,a 52 V,a 53 V,a 54 V,a 55 V,a 56 V,a 57 V,a 58 V,(lhd hT),(q8z hsz aO ab).trans ?_⟩));kernel_rfl
      case rest =>
       refine cD _ _ ?_;have D9:=hcut.out;obtain⟨M2,uK⟩:=x4 (M1.set at0 (ye p j (zm M1 at0)));rw[<-uK]at D9;have BJ:FM p r m M2:=by rw[uK];obtain⟨n1,n2⟩:=q2k (show 0<p by omega) j (zm M1 at0);exact eJ.a2.set at0 (by rw[n1];exact(eJ.a2.row bY).1) n2
       have eY:=yh BJ uK D9
       replace t0:=(D9.below.cell (p:=⟨w.heap.size,0,Z⟩) (by show w.heap.size<_;omega)).trans H2.out.1
       replace t1:=(D9.below.cell (p:=⟨w.heap.size,1,Z⟩) (by show w.heap.size<_;omega)).trans H2.a1
       clear hcut D9 BJ uK d0 d1;go_wp2;go_loopw [61] (fun x wq=>∃k:Nat,x=H φ k/\k<=r/\Hid (RS W2 wq (w.heap.size+2) W2.heap.size R E sv (O ua at0 uc) p r m at0 S.2 (elK p j at0 M2 k))) (fun x _=>r-(vI x).toNat)
       case atStart=>exact⟨0,rfl,gm _,(lhd (by rw[qif];exact eY.b2))⟩
       case round =>
        obtain⟨k,rfl,hk,HK⟩:=hrel;by_cases cO:k<r
        ·have cV:(k:Int)<r:=by omega
         have uL:=qoz (show 0<p by omega) eY.out.1 j at0 k bY;have mv:=eY.out.1.len;have jR:zm (elK p j at0 M2 k) k=zm M2 k:=by rw[q7u _ _ _ _ _ (by omega),if_neg (Nat.lt_irrefl k)]
         obtain⟨DB,hyp⟩:=eY.out.1.at cO cj;obtain⟨z,hz⟩:∃z:Nat,(z:Int)=j6 (zm M2 k) j:=⟨(j6 (zm M2 k) j).toNat,by omega⟩
         have d2:=(HK.out.il _ _ (flat_get uL.wid (by rw[uL.len];exact cO) cj)).1;rw[jR,<-hz]at d2;rw[<-hz]at hyp;have ff:=kg hz hyp uL jR mv
         replace t0:=(HK.out.below.cell (p:=⟨w.heap.size,0,Z⟩) (by show w.heap.size<_;omega)).trans H2.out.1
         replace t1:=(HK.out.below.cell (p:=⟨w.heap.size,1,Z⟩) (by show w.heap.size<_;omega)).trans H2.a1
         have Hi:E<wr.heap.size/\w.heap.size+2<=wr.heap.size:=by have:=HK.out.below.size;have:=HQ.a6;have:=HQ.a4;have:=HQ.a5;omega
         have DC:=lhd Hi;clear uL jR mv DB hyp hz Hi;go_wp2_with fail;refine(qie R E N c r m k wr HK.out.rd.c2 (by rw[HK.out.rd.c3];exact congrArg Y HQ.a7) HQ.a8 HQ.b9 cO (by omega) hr hm).mono ?_;rintro e w7 ⟨rfl,cq⟩
         replace d2:=J cq d2
         replace t0:=J cq t0
         replace t1:=J cq t1
         have uM:=HK.out.keep cq DC.out.1 (by have:=HQ.a6;have:=HQ.a4;omega) DC.out.2;have xC:E<w7.heap.size/\w.heap.size+2<=w7.heap.size:=by have:=cq.size;have:=DC.out;omega
         have rX:=jg uM xC;obtain⟨km,cd⟩:=x4 (k*m);rw[<-cd]at d2 ⊢;have DD:=lhd cd;clear cq uM xC cd;by_cases kW:k=at0
         ·have mP:=q9s (p:=p) (j:=j) (M:=M2) (a:=at0) (k:=k) (by rw[ff.b4];exact cO) (.inl kW);have zU:=lhd mP;have rY:(k:Int)=(at0:Int):=by omega
          clear mP;go_wp2;go_roundw
          case measure=>simp[vI];omega
          case rel=>exact⟨k+1,qh (by omega),by omega,(lhd (by rw[zU.out];exact rX.out.1))⟩
         ·have rY:¬((k:Int)=(at0:Int)):=by omega
          have Bu:((k:Int) == (at0:Int))=false:=by simpa using rY
          by_cases BK:z=0
          ·have mP:=q9s (p:=p) (j:=j) (M:=M2) (a:=at0) (k:=k) (by rw[ff.b4];exact cO) (.inr (by rw[<-ff.out.1,BK];rfl));have zU:=lhd mP;subst BK;clear mP;go_wp2;go_roundw
           case measure=>simp[vI];omega
           case rel=>exact⟨k+1,qh (by omega),by omega,(lhd (by rw[zU.out];exact rX.out.1))⟩
          ·have Kt:(0:Int)<z:=by omega
           have xD:0<z:=by omega
           have nt:((k:Int) != (at0:Int))=true:=by simp[bne,Bu]
           have mQ:IntKind.i64.wrap (p-(z:Int))=p-z:=IntWalk.i64_in _ (by have:=ff.a1;omega);go_wp2_with fail;refine qp4 fun KO cD=>?_
           go_cut [77]from 78 to 91 (fun _ wx=>Hid (RS W2 wx (w.heap.size+2) W2.heap.size R E sv (O ua at0 uc) p r m at0 S.2 (elK p j at0 M2 (k+1))))
           case first =>
            rename_i At K2 hJ aQ;refine qb8 (fun a b=>Bk R a b/\(RD a R sv p r m->RD b R sv p r m)) (fun _ _ h=>⟨Bk.of h,fun hd=>hd.keep h⟩) (fun h k=>⟨h.1.trans k.1,fun hd=>k.2 (h.2 hd)⟩) (fun h=>h.1.size) (by kernel_rfl) [(σ (Y ⟨R,0,Z⟩)),(H φ (k:Int)),(O (Y ⟨E,km,Z⟩) m (c-km)),(σ (Y ⟨R,0,Z⟩)),(H φ (at0:Int)),(O (Y ⟨E,am,Z⟩) m (c-am)),(σ (Y ⟨w.heap.size,0,Z⟩)),(H φ p),(H φ (z:Int)),(H φ (p-z)),(σ (Y ⟨w.heap.size,0,Z⟩)),(H φ p),(I #[O (Y ⟨E,am,Z⟩) m (c-am),H φ (p-z),H φ p]),(.func (.func 104) #[I #[O (Y ⟨E,am,Z⟩) m (c-am),H φ (p-z),H φ p]] #[])] (fun wx=>RS W2 wx (w.heap.size+2) W2.heap.size R E sv (O ua at0 uc) p r m at0 S.2 (elK p j at0 M2 (k+1))) 14 20 103 rfl (by kernel_rfl) (by kernel_rfl) (by kernel_rfl) rfl ?step19 ?last19 ?done19
            case step19 =>
             intro i o ho hi a w' hg hd ab hsz
             match i,ho,hi,hd with
             |0,rfl,hi,hd =>exact jo (.inl rfl) ⟨congrArg (a.put _) (zr qu ab 4),⟨Bk.refl _ _,id⟩⟩
             |1,rfl,hi,hd =>exact jo (.inl rfl) ⟨congrArg (a.put _) (zr qu ab 9),⟨Bk.refl _ _,id⟩⟩
             |2,rfl,hi,hd =>
              have SX:a 77 V=σ R:=(zf hd 0)
              have SY:a 78 V=(k:Int):=(zf hd 1)
              exact q0e rfl #[σ (Y ⟨R,0,Z⟩),H φ (k:Int)] (by rw[<-SX,<-SY];simp[Act.eval]) ((qie R E N c r m k w' (hg.2 rX.out.1.rd).c2 (by rw[(hg.2 rX.out.1.rd).c3];exact congrArg Y HQ.a7) HQ.a8 HQ.b9 cO (by omega) hr hm).mono (fun e w5 h5=>⟨_,h5.1,by rw[DD.out];rfl,Bk.of h5.2,fun hd=>hd.keep h5.2⟩))
             |3,rfl,hi,hd =>exact jo (.inl rfl) ⟨congrArg (a.put _) (zr qu ab 4),⟨Bk.refl _ _,id⟩⟩
             |4,rfl,hi,hd =>exact jo (.inl rfl) ⟨congrArg (a.put _) (zr qu ab 7),⟨Bk.refl _ _,id⟩⟩
             |5,rfl,hi,hd =>
              have SZ:a 80 V=σ R:=(zf hd 3)
              have Ta:a 81 V=(at0:Int):=(zf hd 4)
              exact q0e rfl #[σ (Y ⟨R,0,Z⟩),H φ (at0:Int)] (by rw[<-SZ,<-Ta];simp[Act.eval]) ((qie R E N c r m at0 w' (hg.2 rX.out.1.rd).c2 (by rw[(hg.2 rX.out.1.rd).c3];exact congrArg Y HQ.a7) HQ.a8 HQ.b9 bY (by omega) hr hm).mono (fun e w5 h5=>⟨_,h5.1,by rw[eJ.a5];rfl,Bk.of h5.2,fun hd=>hd.keep h5.2⟩))
             |6,rfl,hi,hd =>exact yb rfl (zr qu ab 1) (jv _ _ _ (by decide)) ⟨rfl,⟨Bk.refl _ _,id⟩⟩
             |7,rfl,hi,hd =>exact jm rfl (zf hd 6) (qe0 _ _ _ (hg.1.cell (by show w≠R;have:=HQ.a5;omega) t0)) ⟨rfl,⟨Bk.refl _ _,id⟩⟩
             |8,rfl,hi,hd =>exact jo (.inl rfl) ⟨congrArg (a.put _) (zr qu ab 10),⟨Bk.refl _ _,id⟩⟩
             |9,rfl,hi,hd =>exact q0n rfl (zf hd 7) (zf hd 8) rfl (q91 mQ _) ⟨rfl,⟨Bk.refl _ _,id⟩⟩
             |10,rfl,hi,hd =>exact yb rfl (zr qu ab 1) (jv _ _ _ (by decide)) ⟨rfl,⟨Bk.refl _ _,id⟩⟩
             |11,rfl,hi,hd =>exact jm rfl (zf hd 10) (qe0 _ _ _ (hg.1.cell (by show w≠R;have:=HQ.a5;omega) t0)) ⟨rfl,⟨Bk.refl _ _,id⟩⟩
             |12,rfl,hi,hd =>
              have Tb:a.tmps.getD 82 V=O (Y ⟨E,am,Z⟩) m (c-am):=(zf hd 5)
              have Tc:a 86 V=(p-z:Int):=(zf hd 9)
              have Td:a 88 V=p:=(zf hd 11)
              exact⟨rfl,gu _,qh5 _ _ rfl #[(0,O (Y ⟨E,am,Z⟩) m (c-am)),(1,H φ (p-z)),(2,H φ p)] (by rw[<-Tb,<-Tc,<-Td];simp[Act.eval]) _ (run_build _ _ _ _ (qfn _ _ _ _ _)) ⟨rfl,⟨Bk.refl _ _,id⟩⟩⟩
             |13,rfl,hi,hd =>
              have Te:a.tmps.getD 89 V=I #[O (Y ⟨E,am,Z⟩) m (c-am),H φ (p-z),H φ p]:=(zf hd 12)
              exact⟨rfl,gu _,qp2 _ _ rfl #[I #[O (Y ⟨E,am,Z⟩) m (c-am),H φ (p-z),H φ p]] (by rw[<-Te];simp[Act.eval]) ⟨rfl,⟨Bk.refl _ _,id⟩⟩⟩
             |14,ho,hi,hd =>omega
             |i+15,ho,hi,hd=>omega
            case last19 =>
             intro o ho a w' hsz hd hg;obtain rfl:=osi ho;have Tf:a.tmps.getD 79 V=O (Y ⟨E,km,Z⟩) m (c-km):=(hd 2 _ _ rfl rfl (by decide))
             have Tg:a.tmps.getD 90 V=.func (.func 104) #[I #[O (Y ⟨E,am,Z⟩) m (c-am),H φ (p-z),H φ p]] #[]:=(hd 13 _ _ rfl rfl (by decide))
             exact q0e rfl #[O (Y ⟨E,km,Z⟩) m (c-km),.func (.func 104) #[I #[O (Y ⟨E,am,Z⟩) m (c-am),H φ (p-z),H φ p]] #[]] (by rw[<-Tf,<-Tg];simp[Act.eval]) ((qti E km am (c-km) (c-am) r m at0 k j z p _ w' DD.out eJ.a5 ff.a2 (rX.out.1.il.bk hg.1 (fun e=>eJ.b8 e.symm)) bY cO (fun e=>kW e.symm) hm cp.2 (by rw[ff.a3];exact ff.out.1) BK ff.a1).mono (fun e w5 h5=>⟨_,h5.1,_,rfl,(rX.out.1.rl hg.1 (hg.2 rX.out.1.rd) (fun e=>eJ.b8 e.symm) (by have:=HQ.a6;omega) (by have:=HQ.a5;omega) rX.b2).bkE h5.2.2 (by rw[<-qp5 (by rw[ff.b4];exact cO) (by rw[ff.b4];exact bY) kW];exact h5.2.1) eJ.b8 (by have:=HQ.a4;have:=HQ.a6;omega) HQ.a3 (by have:=rX.b2;have:=hg.1.size;omega)⟩))
            case done19 =>intro a w' hsz aO ab hT;refine aQ _ _ (Met.intro (hJ _ _ ⟨a 77 V,a 78 V,a 79 V,a 80 V,a 81 V,a 82 V,a 83 V,a 84 V,a 85 V,a 86 V,a 87 V,a 88 V,a 89 V,a 90 V,a 91 V,(lhd hT),(q8z hsz aO ab).trans ?_⟩));kernel_rfl
           case rest =>
            refine cD _ _ ?_;go_wp2;go_roundw
            case measure=>simp[vI];omega
            case rel=>exact⟨k+1,qh (by omega),by omega,hcut⟩
        ·have aM:k=r:=by omega
         rw[aM]at HK;have cJ:yf p M (j+1)=(elK p j at0 M2 r,S.2++[j]):=by rw[vh,<-HS.out.1,qdm HS.a2 tA.out (by rw[<-HS.a1];exact bY),<-HS.a1,eY.a1,eJ.a4]
         have hsz:W2.heap.size<=wr:=HK.out.below.size;have tx:=jg cJ hsz;have af:=HK.out.own;clear cJ hsz;go_wp2_with (at_builtin;refine qo (W:=wr) rfl _ _ 23 rfl W2 3 Tryz.xg Tryz.underlying23 rfl (by decide) (by decide) _ _ _ rfl af [j] rfl rfl (q5v _) ?bp2 q9 ?bp3 ?_)
         case bp2=>omega
         case bp3=>exact tx.out.2
         intro v9 w9 jB rZ ei;obtain⟨nS,nU,sb⟩:=qj jB;subst sb;have lC:=jg jB ei;clear rZ jB ei af;go_wp2;go_roundw
         case measure=>simp[vI];omega
         case rel =>
          have h8:=HK.out;have ei:=lC.out.2;have fN:w.heap.size+2<=W2:=by have:=HQ.a5;have:=HQ.a6;omega
          have nV:R<W2.heap.size/\E<W2.heap.size:=by have:=HQ.a6;have:=HQ.a4;omega
          have hl:(S.2++[j]).length=at0+1:=by rw[gw,<-HS.a1];rfl
          refine⟨j+1,nS,nU,?_⟩;rw[tx.out.1];refine⟨by show _=O nS (S.2++[j]).length nU;rw[hl],qh (by omega),by omega,(lhd (h8.below.trans (ei.mono fN))),(lhd (h8.rd.low ei nV.1)),(lhd (fun _=>h8.il.keep ei nV.2)),(show Hid _ from ?_)⟩;show w9.ownsRow W2 3 1 (O nS (S.2++[j]).length nU) (S.2++[j]).length (ints (nI (S.2++[j])));rw[hl,ql8,vk];exact lC.out.1
    ·have db:i=r:=by omega
     have cJ:yf p M (j+1)=S:=by rw[vh,<-HS.out.1];unfold kr;rw[qeo (fun i' h1 h2=>HZ.out i' (by rw[HS.a1];exact h1) (by rw[db];have:=HS.a2.len;have:=HS.b4;omega))]
     have tx:=lhd cJ;clear cJ;go_wp2;go_roundw
     case measure=>simp[vI];omega
     case rel =>
      have hsz:w.heap.size+2<=wo:=by have:=HB.out.size;have:=H2.a5;have:=H2.a6;omega
      have Hi:0<N->E<wo.heap.size:=fun h=>by have:=HB.out.size;have:=(H2.b8 h).2.2.1;have:=H2.a6;omega
      refine⟨j+1,ua,uc,?_⟩;rw[tx.out,<-HS.a1];exact⟨rfl,qh (by omega),by omega,(lhd (HB.out.trans (mO.out.mono hsz))),(lhd (HD.out.keep mO.out)),(lhd (fun h=>(HI.out h).keep mO.out (Hi h))),(lhd (qgz HO.out (Bk.of mO.out) (E:=w) (by have:=H2.a5;have:=H2.a6;omega)))⟩
  ·have sf:j=m:=by omega
   obtain⟨q0,q1,q2,q3,qz,_,dI⟩:=H3.out;have bX:∀ {c:Nat} {x:ε},W2.cell? ⟨w.heap.size+1,c,Z⟩=Y x->wo.cell? ⟨w.heap.size+1,c,Z⟩=Y x:=fun hx=>(HB.out.cell (by show w.heap.size+1<_;omega)).trans hx
   have r0:=bX q0;have r1:=bX q1;have r2:=bX q2;have r3:=bX q3;have cL:∀i,wo.frozen? ⟨w.heap.size+1,i,Z⟩=false:=fun i=>(HB.out.frozen (by show w.heap.size+1<_;omega)).trans (qz i)
   have z0:=cL 0;have z1:=cL 1;have z2:=cL 2;have z3:=cL 3;have x0:=HD.out.c0;have x1:=HD.out.c1;have x2:=HD.out.c2;have x3:=HD.out.c3;rw[dI]at x3;have HL:=jg sf dI;clear q0 q1 q2 q3 qz bX cL dI sf hS bY hF tF;go_wp2_with fail;rw[Exit.noGoto_ret];obtain⟨e0,e1,e2,e3⟩:=q1f r0 r1 r2 r3;have Hb:jk p m M=S:=by rw[HS.out.1,HL.out.1];rfl
   have aI:Below w w wo:=H2.a4.trans (HB.out.mono (by omega));have mN:W2=R+1:=H2.a6;have BI:w+2<=R:=H2.a5;refine bodyPost_ret (v:=ψ #[I #[p,r,m,O sa N sc],O ua at0 uc]) (by simp[results,Tryz.results71,go_sem,e0,e1,e2,e3]) rfl ⟨_,_,rfl,?_,?_,jj aI (by omega) _ _ _ _⟩
   ·rw[Hb];by_cases hN:0<N
    ·obtain⟨e5,e6,e7,e8,e9,_⟩:=H2.b8 hN;rw[<-HL.out.2,<-H2.a7];refine .inr ⟨E,c,e5,by omega,?_,e8,e9,?_,?_⟩
     ·have:=HB.out.size;simp[World.setCell];omega
     ·rw[HS.a2.q1d,H2.a7]
     ·have hi:=HI.out hN;exact(((hi.set _ _ (by show w+1≠E;omega)).set _ _ (by show w+1≠E;omega)).set _ _ (by show w+1≠E;omega)).set _ _ (by show w+1≠E;omega)
    ·have cY:N=0:=by omega
     have fh:S.1.flatten=[]:=gl (by rw[HS.a2.q1d,<-H2.a7];exact cY);have NX:=H3.a5;rw[<-HL.out.2,fh,<-H2.a7,cY];rw[cY]at NX;rcases NX.2 with ⟨hv,_⟩|⟨g,cap,cur,hv,hg,hh,_,fO,_,_⟩
     ·exact .inl ⟨hv,rfl,rfl⟩
     ·have ak:g<W2:=by rw[gh]at hh;exact hh.1
      refine .inr ⟨g,cap,hv,hg,?_,gm _,fO,rfl,fun i n hi=>by simp at hi⟩;have:=HB.out.size;simp[World.setCell];omega
   ·rw[Hb,<-HS.a1];refine vl (qf HO.out (by have:=aI.size;omega)) (fun b hb=>?_) _ _ _ _;have:=(HO.out.lt b hb).1;omega
theorem RwI.sl {w:δ}{base N:Nat}{v:ε}{l:List Int}(h:RwI w base N v l):Sl w 1 v (ints l):=by
 rcases h with ⟨rfl,rfl,rfl⟩|⟨E,c,rfl,_,_,h1,h2,h3,h4⟩
 ·exact Sl.nil _ _
 ·refine⟨Y ⟨E,0,Z⟩,N,c,rfl,h1,h2,by rw[xl,h3,gK],(fun e=>by cases e),fun ad bR j u hj=>?_⟩;cases bR
  have eV:=(gk.1 hj).1;rw[xl]at eV;rw[q9r l j eV]at hj;injection hj with hj
  subst hj;have:=(h4 j (l.getD j 0) (by rw[gg eV,gb,gg eV];rfl)).1;rw[Addr.add_lit,Nat.zero_add];exact this
theorem RwI.shape {w:δ}{base N:Nat}{v:ε}{l:List Int}(h:RwI w base N v l):∃a c,v=O a N c:=by
 rcases h with ⟨rfl,rfl,rfl⟩|⟨E,c,rfl,_⟩
 ·exact⟨_,_,rfl⟩
 ·exact⟨_,_,rfl⟩
theorem RwI.mono {w:δ}{base mj N:Nat}{v:ε}{l:List Int}(h:RwI w base N v l)(hb:mj<=base):RwI w mj N v l:=by
 rcases h with h|⟨E,c,h1,h2,h3⟩
 ·exact .inl h
 ·exact .inr ⟨E,c,h1,by omega,h3⟩
theorem RwI.keep {w w':δ}{base N:Nat}{v:ε}{l:List Int}(h:RwI w base N v l)(hb:Below w.heap.size w w'):RwI w' base N v l:=by
 rcases h with h|⟨E,c,h1,h2,h3,h4,h5,h6,h7⟩
 ·exact .inl h
 ·exact .inr ⟨E,c,h1,h2,gz h3 hb.size,h4,h5,h6,h7.keep hb h3⟩
theorem RwI.set {w:δ}{base N:Nat}{v:ε}{l:List Int}(h:RwI w base N v l)(p:Addr)(x:ε)(hp:p.block<base):RwI (w.setCell p x) base N v l:=by
 rcases h with h|⟨E,c,h1,h2,h3,h4,h5,h6,h7⟩
 ·exact .inl h
 ·exact .inr ⟨E,c,h1,h2,by simpa [World.setCell]using h3,h4,h5,h6,h7.set p x (by omega)⟩
theorem RwI.q1f {w:δ}{base N B:Nat}{v:ε}{l:List Int}(h:RwI w base N v l)(hp:B<base)(x0 x1 x2 x3:ε):RwI ((((w.setCell B x0).setCell ⟨B,1,Z⟩ x1).setCell ⟨B,2,Z⟩ x2).setCell ⟨B,3,Z⟩ x3) base N v l :=
 (((h.set _ _ hp).set _ _ hp).set _ _ hp).set _ _ hp
theorem q9t (p:Int)(r m:Nat)(v:ε)(M:List (List Int))(w:δ)(h:Sl w 1 v (ints M.flatten))(hp:prI p=true)(hM:FM p r m M)(hr:r<=400)(hm:m<=400) :
  Calls Tryz.prog 40 #[I #[p,r,m,v]] w fun e w'=>∃sv u,e=.returned (ψ #[I #[p,r,m,sv],u])/\RwI w' w (r*m) sv (jk p m M).1.flatten ∧
   w'.ownsRow w 3 1 u (jk p m M).2.length (ints (nI (jk p m M).2))/\Below w w w':=by
 obtain⟨jL,iR,eP⟩:=q3r hp;obtain⟨va,vn,vc,rfl⟩:=qg h;have HO:=yt (q3d hp hM hr hm) h hM eP;clear h hM eP hp;go_enter Tryz.func40,Tryz.ntmps40;go_wp2_with fail;obtain⟨W0,aB⟩:=x4 ((w.alloc (.cells #[p,r,m,O va vn vc] 30)).alloc (.cells #[H φ 0,H φ 0,H φ 0,O Z 0 0] 30));have fe:Below w w W0:=by rw[aB];exact((q9).alloc (nlr _) _).alloc (by simp) _
 have dg:W0.heap.size=w+2:=by rw[aB];simp
 have p0:W0 w=p:=by rw[aB];exact qk (xz w _ _ 0 rfl) _
 have p1:W0 ⟨w,1,Z⟩=r:=by rw[aB];exact qk (xz w _ _ 1 rfl) _
 have p2:W0 ⟨w,2,Z⟩=m:=by rw[aB];exact qk (xz w _ _ 2 rfl) _
 have p3:W0 ⟨w,3,Z⟩=O va vn vc:=by rw[aB];exact qk (xz w _ _ 3 rfl) _
 have q0:W0 (w+1:Nat)=H φ 0:=by rw[aB];exact zx w _ _ _ 0 rfl
 have q1:W0 ⟨w+1,1,Z⟩=H φ 0:=by rw[aB];exact zx w _ _ _ 1 rfl
 have q2:W0 ⟨w+1,2,Z⟩=H φ 0:=by rw[aB];exact zx w _ _ _ 2 rfl
 have q3:W0 ⟨w+1,3,Z⟩=O Z 0 0:=by rw[aB];exact zx w _ _ _ 3 rfl
 have qz:∀i,W0.frozen? ⟨w+1,i,Z⟩=false:=fun i=>by rw[aB];exact vo w _ _ _ i
 rw[<-aB];have H0:=q4q fe dg q0 q1 q2 q3 qz;clear aB fe dg q0 q1 q2 q3 qz;refine(q8x p r m (O va vn vc) M.flatten W0 (HO.a1.keep H0.out.1)).mono ?_;rintro e w1 ⟨rfl,ae⟩;rw[HO.out.1]
 replace p0:=J ae p0
 replace p1:=J ae p1
 replace p2:=J ae p2
 replace p3:=J ae p3
 have cX:=lhd ae;clear ae;go_wp2_with fail;refine(ql9 p r m (O va vn vc) M w1 ((HO.a1.keep H0.out.1).keep cX.out) HO.b3 HO.a2 hr (by omega)).mono ?_;rintro e w2 ⟨sv,u,rfl,hR,hO,aj⟩;have eo:Below W0 W0 w2:=(btr cX.out aj);obtain⟨sa,sc,dI⟩:=hR.shape;have r0:=J eo H0.a2;have r1:=J eo H0.a3;have r2:=J eo H0.a4;have r3:=J eo H0.a5;have hz:∀i,w2.frozen? ⟨w.heap.size+1,i,Z⟩=false:=fun i=>xf eo (by show w.heap.size+1<_;have:=H0.a1;omega) (H0.b6 i)
 have z0:=hz 0;have z1:=hz 1;have z2:=hz 2;have z3:=hz 3;have bQ:Below w w w2:=H0.out.1.trans (eo.mono (by have:=H0.a1;omega));have cU:w.heap.size+1<w1:=by have:=cX.out.size;have:=H0.a1;omega
 have HR:=yt hR hO bQ cU;obtain⟨N,hN⟩:=x4 (r*m);rw[<-hN]at dI;subst dI;have HN:=lhd hN;obtain⟨ua,uc,hu⟩:=qj hO;subst hu;obtain⟨L,hL⟩:=x4 ((jk p m M).2.length);rw[<-hL];have HL:=lhd hL;clear hR hO bQ cU aj eo hz hN hL;go_wp2_with fail;obtain⟨e0,e1,e2,e3⟩:=q1f r0 r1 r2 r3;have hR:=HR.out.1;have hO:=HR.a1;rw[<-HN.out]at hR ⊢;rw[<-HL.out]at hO ⊢;refine bodyPost_ret (v:=ψ #[I #[p,r,m,O sa N sc],O ua L uc]) (by simp[results,Tryz.results40,go_sem,e0,e1,e2,e3]) rfl ⟨_,_,rfl,(hR.q1f HR.b3 _ _ _ _).mono (by have:=HR.b3;omega),vl (qf hO (by have:=HR.b3;omega)) (fun b hb=>?_) _ _ _ _,jj HR.a2 (by omega) _ _ _ _⟩;have:=(hO.lt b hb).1;have:=HR.b3;omega
theorem qsy (p:Int)(r m:Nat)(v:ε)(M:List (List Int))(w:δ)(h:Sl w 1 v (ints M.flatten))(hp:prI p=true)(hM:FM p r m M)(hr:r<=400)(hm:m<=400) :
  Calls Tryz.prog 15 #[I #[p,r,m,v]] w fun e w'=>e=.returned (q2r p m M:Int)/\Below w w w':=by
 obtain⟨va,vn,vc,rfl⟩:=qg h;have HO:=yh h hp hM;clear h hM hp;go_enter Tryz.func15,Tryz.ntmps15;go_wp2_with fail;refine(q9t p r m (O va vn vc) M _ (HO.out.1.alloc _) HO.a1 HO.b2 hr hm).mono ?_;rintro e w2 ⟨sv,u,rfl,hR,hO,aj⟩;have bQ:Below w w w2:=(bal w _).trans (aj.mono (by simp));obtain⟨sa,sc,dI⟩:=hR.shape;subst dI;obtain⟨ua,uc,hu⟩:=qj hO;subst hu;have HL:Hid ((jk p m M).2.length=q2r p m M):=(lhd rfl)
 obtain⟨L,hL⟩:=x4 ((jk p m M).2.length);obtain⟨N,hN⟩:=x4 (r*m);rw[<-hL]at HL ⊢;rw[<-hN];have HB:=lhd bQ;clear hR hO aj bQ hL hN;go_wp2;go_ret;exact⟨by rw[<-HL.out];rfl,HB.out.alloc HB.out.size _⟩
