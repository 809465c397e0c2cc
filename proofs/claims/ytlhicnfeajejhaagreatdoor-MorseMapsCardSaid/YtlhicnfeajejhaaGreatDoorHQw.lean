/- Steps towards MorseMaps. Conditions: none. -/
import Derived.Test.YtlhicnfeajejhaaGreatDoorHQv
set_option maxRecDepth 1000000
set_option maxHeartbeats 16000000
namespace Go.Proofs.YtlhicnfeajejhaaGreatDoor
open Go.RowKit Go.Cx
attribute [local go_sem ↓] Go.wp_at_zero Go.wp_at_succ
section
variable (A X:List Int) {c n i k j r:Nat}
theorem quj (hj:j < n):(i*n+j) / n=i/\(i*n+j) % n=j:=by
 have hn:0 < n:=by omega
 constructor
 ·rw[Nat.mul_comm,Nat.mul_add_div hn,Nat.div_eq_of_lt hj];rfl
 ·rw[Nat.mul_comm,Nat.mul_add_mod,Nat.mod_eq_of_lt hj]
end
end Go.Proofs.YtlhicnfeajejhaaGreatDoor
namespace Go.Cx
open Go.RowKit
variable {P:Program} {ops:Array Oper} {Q:Exit->Act->World->Prop}
def qrf (ops:Array Oper) (m f:Nat):Bool:=decide (m < ops.size) && ((List.range m).all fun i=>reach ops f m i) && (List.range ops.size).all fun k=>decide (k<=m) || dep .any ops k (k - 1)
structure StL (ops:Array Oper) (m:Nat) (F:Nat->Value->World->Prop) (B:Nat->Bool) (a0:Act) (w0:World) (l:Nat->Bool) (a:Act) (w:World):Prop where
 sz:a.tmps.size=a0.tmps.size
 df:a.defers=a0.defers
 fact:∀ (i:Nat) (o:Oper) (d:Nat),ops[i]? = some o->o.dst=some d->l i=true->F i (a.tmps.getD d undef) w
 base:∀ s,(∀ (i:Nat) (o:Oper),i < m->ops[i]? = some o->o.dst≠some s)->a.tmps.getD s undef=a0.tmps.getD s undef
 below:Below w0.heap.size w0 w
 box:∀ (i:Nat) (o:Oper) (d:Nat),ops[i]? = some o->o.dst=some d->l i=true->B i=true->∃ p,a.tmps.getD d undef = .pointer (some ⟨p,0,none⟩)/\p < w.heap.size
 apart:∀ (i:Nat) (o:Oper) (d:Nat) (j:Nat) (o':Oper) (d':Nat),ops[i]? = some o->o.dst=some d->ops[j]? = some o'->o'.dst=some d'->l i=true->l j=true->B i=true->B j=true->i≠j->a.tmps.getD d undef≠a.tmps.getD d' undef
theorem qrs {id:Nat} {a0:Act} {w:World} (hm:P.follows .mixedOrders=true) (F:Nat->Value->World->Prop) (B:Nat->Bool) (m f n:Nat) (hn:a0.tmps.size=n) (hd:qra ops n=true) (ll:qmk .any ops=true) (jV:qrf ops m f=true)
  (Fin:Nat->Act->World->Prop)
  (hF:∀ i v w w',F i v w->Below w.heap.size w w'->F i v w')
  (aS:∀ (i:Nat) (o:Oper),ops[i]? = some o->i < m->∀ (a:Act) (w':World),Below w.heap.size w w'->(∀ (j:Nat) (oj:Oper) (dj:Nat),ops[j]? = some oj->oj.dst=some dj->dep .any ops i j=true->F j (a.tmps.getD dj undef) w') →
   (∀ s,(∀ (i:Nat) (o:Oper),i < m->ops[i]? = some o->o.dst≠some s)->a.tmps.getD s undef=a0.tmps.getD s undef)->a.tmps.size=n →
   Region.wanted o (yielded ops a.tmps)=true/\o.dst≠none/\Oper.wp P o a w' (fun a' w''=>∃ v,a'=a.put o.dst v/\F i v w''/\Below w'.heap.size w' w''/\(B i=true->∃ p,v = .pointer (some ⟨p,0,none⟩)/\w'.heap.size<=p/\p < w''.heap.size)) Q)
  (nt:∀ (a:Act) (w':World),a.tmps.size=n->a.defers=a0.defers->(∀ (i:Nat) (o:Oper) (d:Nat),ops[i]? = some o->o.dst=some d->i < m->F i (a.tmps.getD d undef) w') →
   (∀ s,(∀ (i:Nat) (o:Oper),i < m->ops[i]? = some o->o.dst≠some s)->a.tmps.getD s undef=a0.tmps.getD s undef)->Below w.heap.size w w' →
   (∀ (i:Nat) (o:Oper) (d:Nat) (j:Nat) (o':Oper) (d':Nat),ops[i]? = some o->o.dst=some d->ops[j]? = some o'->o'.dst=some d'->i < m->j < m->B i=true->B j=true->i≠j->a.tmps.getD d undef≠a.tmps.getD d' undef)->Fin 0 a w')
  (Gd:∀ (k:Nat) (o:Oper),ops[m+k]? = some o->∀ (a:Act) (w':World),Fin k a w'->Region.wanted o (yielded ops a.tmps)=true/\Oper.wp P o a w' (fun a' w''=>Fin (k+1) a' w'') Q)
  (dJ:∀ (a:Act) (w':World),Fin (ops.size - m) a w'->Q .normal a w') :
  (Code.region id ops true).wp P Q a0 w:=by
 have tQ:=qr0 hd;unfold qrf at jV;rw[be,be,decide_eq_true_eq] at jV;obtain⟨⟨Nl,fV⟩,Xz⟩:=jV;have iE:∀ i,i < m->reach ops f m i=true:=fun i hi=>bA.1 fV i (gC.2 hi)
 have kV:∀ k,m < k->k < ops.size->dep .any ops k (k - 1)=true:=fun k h1 h2=>by
  have:=bA.1 Xz k (gC.2 h2);rw[Bool.or_eq_true,decide_eq_true_eq] at this;exact this.resolve_left (by omega)
 have down:∀ (l:Nat->Bool),(∀ i,l i=true->∀ j,dep .any ops i j=true->l j=true)->(∀ j,l j=true->j < ops.size)->∀ k j,j<=k->l (m+k)=true->l (m+j)=true:=fun l hc hb k j iO hk=>by
  induction k with
  | zero=>rw[show j=0 by omega];exact hk
  | succ k ih =>
   rcases gQ j (k+1) with hlt | lE
   ·refine ih (by omega) ?_;have:=hc _ hk _ (kV (m+(k+1)) (by omega) (hb _ hk))
    rwa [show m+(k+1) - 1=m+k by omega] at this
   ·rw[show j=k+1 by omega];exact hk
 refine qrh hm ll (fun l a w'=>(∀ i,l i=true->∀ j,dep .any ops i j=true->l j=true)/\(∀ j,l j=true->j < ops.size)/\(l m=false->StL ops m F B a0 w l a w')/\(∀ k,l (m+k)=true->l (m+(k+1))=false->Fin (k+1) a w')) ?_ ?_ ?_
 ·exact⟨fun i h=>absurd h Bool.false_ne_true,fun i h=>absurd h Bool.false_ne_true,fun _=>⟨rfl,rfl,fun _ _ _ _ _ h=>absurd h Bool.false_ne_true,fun _ _=>rfl,qb (Below.refl _ w) 1,fun _ _ _ _ _ h=>absurd h Bool.false_ne_true,fun _ _ _ _ _ _ _ _ _ _ h=>absurd h Bool.false_ne_true⟩,fun k h=>absurd h Bool.false_ne_true⟩
 ·intro i o ho l a w' wH bU ⟨hc,hb,h1,h2⟩;have ej:=(gv.1 ho).1;have l8:∀ j,(fun j=>j == i || l j) j=true->∀ k,dep .any ops j k=true->(fun j=>j == i || l j) k=true:=fun j hj k hk=>by
   simp only [Bool.or_eq_true,beq_iff_eq] at hj ⊢;rcases hj with rfl | hj
   ·exact .inr (bU k hk)
   ·exact .inr (hc j hj k hk)
  have mO:∀ j,(fun j=>j == i || l j) j=true->j < ops.size:=fun j hj=>by
   simp only [Bool.or_eq_true,beq_iff_eq] at hj;rcases hj with rfl | hj
   ·exact ej
   ·exact hb j hj
  by_cases oR:i < m
  ·have dV:l m=false:=by
    cases hc':l m with
    | false=>rfl
    | true =>
     have:=qqp hc f m i (iE i oR) hc';rw[wH] at this;cases this
   have aB:=h1 dV;obtain⟨hw,KW,my⟩:=aS i o ho oR a w' aB.below (fun j oj dj hj cB KX=>aB.fact j oj dj hj cB (bU j KX)) aB.base (aB.sz.trans hn);refine⟨hw,Oper.wp_mono (fun a' w'' hx=>?_) my⟩;obtain⟨v,rfl,hv,oG,iQ⟩:=hx;obtain⟨d,mI⟩:=Option.ne_none_iff_exists'.1 KW;obtain⟨bX,ey⟩:=tQ i o d ho mI;refine⟨l8,mO,fun _=>?_,fun k hk=>?_⟩
   ·rw[mI];have eU:∀ j (oj:Oper) dj,ops[j]? = some oj->oj.dst=some dj->j≠i->(a.put (some d) v).tmps.getD dj undef=a.tmps.getD dj undef:=fun j oj dj hj cB dA=>by
     rw[q3s,if_neg (fun e=>ey j oj hj dA (by rw[cB,e.1]))]
    have new:(a.put (some d) v).tmps.getD d undef=v:=by rw[q3s,if_pos ⟨rfl,by rw[aB.sz,hn];exact bX⟩]
    have Cs:∀ j,j≠i->(j == i || l j)=true->l j=true:=fun j dA eZ=>by
     have:(j == i)=false:=by simpa using dA
     rwa [this,Bool.false_or] at eZ
    have same:∀ (oj:Oper) dj,ops[i]? = some oj->oj.dst=some dj->dj=d:=fun oj dj hj cB=>by
     rw[ho] at hj;injection hj with hj;subst hj
     rw[mI] at cB;injection cB with cB;exact cB.symm
    refine⟨by show (a.tmps.setIfInBounds d v).size=_;simpa using aB.sz,aB.df,fun j oj dj hj cB eZ=>?_,fun s hs=>?_,aB.below.trans (oG.mono aB.below.size),fun j oj dj hj cB eZ hB=>?_,fun j oj dj k ok dk hj cB hk jF eZ cP kJ Nn aq=>?_⟩
    ·by_cases dA:j=i
     ·subst dA;rw[same oj dj hj cB,new];exact hv
     ·rw[eU j oj dj hj cB dA];exact hF _ _ _ _ (aB.fact j oj dj hj cB (Cs j dA eZ)) oG
    ·rw[q3s,if_neg (fun e=>hs i o oR ho (by rw[mI,e.1]))];exact aB.base s hs
    ·by_cases dA:j=i
     ·subst dA;obtain⟨p,h3,_,h4⟩:=iQ hB;exact⟨p,by rw[same oj dj hj cB,new];exact h3,h4⟩
     ·obtain⟨p,h3,h4⟩:=aB.box j oj dj hj cB (Cs j dA eZ) hB;exact⟨p,by rw[eU j oj dj hj cB dA];exact h3,bf h4 oG.size⟩
    ·by_cases dA:j=i
     ·subst dA;have fO:k≠j:=fun e=>aq e.symm
      obtain⟨p,h3,h5,_⟩:=iQ kJ;obtain⟨q,h6,h7⟩:=aB.box k ok dk hk jF (Cs k fO cP) Nn;rw[same oj dj hj cB,new,eU k ok dk hk jF fO,h3,h6];intro e;injection e with e;injection e with e;injection e with e;omega
     ·by_cases fO:k=i
      ·subst fO;obtain⟨p,h3,h5,_⟩:=iQ Nn;obtain⟨q,h6,h7⟩:=aB.box j oj dj hj cB (Cs j dA eZ) kJ;rw[same ok dk hk jF,new,eU j oj dj hj cB dA,h3,h6];intro e;injection e with e;injection e with e;injection e with e;omega
      ·rw[eU j oj dj hj cB dA,eU k ok dk hk jF fO];exact aB.apart j oj dj k ok dk hj cB hk jF (Cs j dA eZ) (Cs k fO cP) kJ Nn aq
   ·exfalso
    simp only [Bool.or_eq_true,beq_iff_eq] at hk;rcases hk with hk | hk
    ·omega
    ·have:=down l hc hb k 0 (gp _) hk;rw[Nat.add_zero,dV] at this;cases this
  ·obtain⟨k,rfl⟩ : ∃ k,i=m+k:=⟨i - m,by omega⟩
   have Np:Fin k a w':=by
    cases k with
    | zero =>
     rw[Nat.add_zero] at wH bU;have aB:=h1 wH;have aI:∀ j,j < m->l j=true:=fun j hj=>by
      have hr:=iE j hj;cases f with
      | zero=>cases hr
      | succ f =>
       unfold reach at hr;rw[Bool.or_eq_true] at hr;rcases hr with hr | hr
       ·exact bU j hr
       ·obtain⟨k,_,hk⟩:=List.any_eq_true.1 hr;rw[be] at hk;exact qqp hc f k j hk.2 (bU k hk.1)
     exact nt a w' (aB.sz.trans hn) aB.df (fun i o d ho mI oR=>aB.fact i o d ho mI (aI i oR)) aB.base aB.below fun i o d j o' d' hi uP hj cB h1 h2 ak ar aq=>aB.apart i o d j o' d' hi uP hj cB (aI i h1) (aI j h2) ak ar aq
    | succ k =>
     refine h2 k ?_ wH;have:=bU _ (kV (m+(k+1)) (by omega) ej)
     rwa [show m+(k+1) - 1=m+k by omega] at this
   obtain⟨hw,my⟩:=Gd k o ho a w' Np;refine⟨hw,Oper.wp_mono (fun a' w'' hx=>⟨l8,mO,fun h=>?_,fun j hj Gr=>?_⟩) my⟩
   ·exfalso
    simp only [Bool.or_eq_false_iff,beq_eq_false_iff_ne] at h;cases k with
    | zero=>exact h.1 rfl
    | succ k =>
     have h3:=bU _ (kV (m+(k+1)) (by omega) ej);rw[show m+(k+1) - 1=m+k by omega] at h3;have:=down l hc hb k 0 (gp _) h3;rw[Nat.add_zero,h.2] at this;cases this
   ·have iO:j=k:=by
     simp only [Bool.or_eq_true,beq_iff_eq] at hj;simp only [Bool.or_eq_false_iff,beq_eq_false_iff_ne] at Gr;rcases hj with hj | hj
     ·omega
     ·rcases Nat.lt_trichotomy j k with h | h | h
      ·exfalso
       obtain⟨k',rfl⟩ : ∃ k',k=k'+1:=⟨k - 1,by omega⟩
       have h3:=bU _ (kV (m+(k'+1)) (by omega) ej);rw[show m+(k'+1) - 1=m+k' by omega] at h3;rcases gQ j k' with h4 | h4
       ·have:=down l hc hb k' (j+1) (by omega) h3;rw[Gr.2] at this;cases this
       ·exact Gr.1 (by omega)
      ·exact h
      ·exfalso
       have:=down l hc hb j k (by omega) hj;rw[wH] at this;cases this
    rw[iO];exact hx
 ·intro l a w' aI ⟨_,hb,_,h2⟩;have h3:=h2 (ops.size - m - 1) (aI _ (by omega)) (by
   cases hc':l (m+(ops.size - m - 1+1)) with
   | false=>rfl
   | true=>have:=hb _ hc';omega)
  rw[show ops.size - m - 1+1=ops.size - m by omega] at h3;exact dJ a w' h3
theorem qr6 {id:Nat} {a0:Act} {w:World} (hm:P.follows .mixedOrders=true) (F:Nat->Value->World->Prop) (B:Nat->Bool) (m f n:Nat) (hn:a0.tmps.size=n) (hd:qra ops n=true) (ll:qmk .any ops=true) (jV:qrf ops m f=true)
  (hF:∀ i v w w',F i v w->Below w.heap.size w w'->F i v w')
  (aS:∀ (i:Nat) (o:Oper),ops[i]? = some o->i < m->∀ (a:Act) (w':World),Below w.heap.size w w'->(∀ (j:Nat) (oj:Oper) (dj:Nat),ops[j]? = some oj->oj.dst=some dj->dep .any ops i j=true->F j (a.tmps.getD dj undef) w') →
   (∀ s,(∀ (i:Nat) (o:Oper),i < m->ops[i]? = some o->o.dst≠some s)->a.tmps.getD s undef=a0.tmps.getD s undef)->a.tmps.size=n →
   Region.wanted o (yielded ops a.tmps)=true/\o.dst≠none/\Oper.wp P o a w' (fun a' w''=>∃ v,a'=a.put o.dst v/\F i v w''/\Below w'.heap.size w' w''/\(B i=true->∃ p,v = .pointer (some ⟨p,0,none⟩)/\w'.heap.size<=p/\p < w''.heap.size)) Q)
  (nt:∀ (a:Act) (w':World),a.tmps.size=n->a.defers=a0.defers->(∀ (i:Nat) (o:Oper) (d:Nat),ops[i]? = some o->o.dst=some d->i < m->F i (a.tmps.getD d undef) w') →
   (∀ s,(∀ (i:Nat) (o:Oper),i < m->ops[i]? = some o->o.dst≠some s)->a.tmps.getD s undef=a0.tmps.getD s undef)->Below w.heap.size w w' →
   (∀ (i:Nat) (o:Oper) (d:Nat) (j:Nat) (o':Oper) (d':Nat),ops[i]? = some o->o.dst=some d->ops[j]? = some o'->o'.dst=some d'->i < m->j < m->B i=true->B j=true->i≠j->a.tmps.getD d undef≠a.tmps.getD d' undef) →
   ∃ T:Nat->Act->World->Prop,T 0 a w'/\(∀ (k:Nat) (o:Oper),ops[m+k]? = some o->∀ a1 w1,T k a1 w1->Region.wanted o (yielded ops a1.tmps)=true/\Oper.wp P o a1 w1 (fun a2 w2=>T (k+1) a2 w2) Q)/\∀ a1 w1,T (ops.size - m) a1 w1->Q .normal a1 w1) :
  (Code.region id ops true).wp P Q a0 w :=
 qrs hm F B m f n hn hd ll jV (fun k a w'=>∃ T:Nat->Act->World->Prop,T k a w'/\(∀ (k:Nat) (o:Oper),ops[m+k]? = some o->∀ a1 w1,T k a1 w1->Region.wanted o (yielded ops a1.tmps)=true/\Oper.wp P o a1 w1 (fun a2 w2=>T (k+1) a2 w2) Q)/\∀ a1 w1,T (ops.size - m) a1 w1->Q .normal a1 w1) hF aS nt
  (fun k o ho a w' ⟨T,h1,h2,h3⟩=>⟨(h2 k o ho a w' h1).1,Oper.wp_mono (fun _ _ h=>⟨T,h,h2,h3⟩) (h2 k o ho a w' h1).2⟩)
  (fun _ _ ⟨_,h1,_,h3⟩=>h3 _ _ h1)
def quk (ops:Array Oper) (m s:Nat):Bool:=(List.range m).all fun i=>(ops[i]?).bind (·.dst) != some s
theorem yi {m s:Nat} (h:quk ops m s=true):∀ (i:Nat) (o:Oper),i < m->ops[i]? = some o->o.dst≠some s:=fun i o hi ho e=>by
 have:=bA.1 h i (gC.2 hi);rw[ho,Option.bind_some,e] at this;simp at this
theorem qr7 {id:Nat} {a0:Act} {w:World} (hm:P.follows .mixedOrders=true) (F:Nat->Value->World->Prop) (m f n:Nat) (hn:a0.tmps.size=n) (hd:qra ops n=true) (ll:qmk .any ops=true) (jV:qrf ops m f=true) (az:ops.size=m+1)
  (hF:∀ i v w w',F i v w->Below w.heap.size w w'->F i v w')
  (aS:∀ (i:Nat) (o:Oper),ops[i]? = some o->i < m->∀ (a:Act) (w':World),Below w.heap.size w w'->(∀ (j:Nat) (oj:Oper) (dj:Nat),ops[j]? = some oj->oj.dst=some dj->dep .any ops i j=true->F j (a.tmps.getD dj undef) w') →
   (∀ s,(∀ (i:Nat) (o:Oper),i < m->ops[i]? = some o->o.dst≠some s)->a.tmps.getD s undef=a0.tmps.getD s undef)->a.tmps.size=n →
   Region.wanted o (yielded ops a.tmps)=true/\o.dst≠none/\Oper.wp P o a w' (fun a' w''=>∃ v,a'=a.put o.dst v/\F i v w''/\Below w'.heap.size w' w'') Q)
  (eA:∀ (o:Oper),ops[m]? = some o->∀ (a:Act) (w':World),(∀ (i:Nat) (o:Oper) (d:Nat),ops[i]? = some o->o.dst=some d->i < m->F i (a.tmps.getD d undef) w') →
   Region.wanted o (yielded ops a.tmps)=true/\o.dst≠none/\Oper.wp P o a w' (fun a' w''=>∃ v,a'=a.put o.dst v/\F m v w''/\Below w'.heap.size w' w'') Q)
  (dJ:∀ (a:Act) (w':World),a.tmps.size=n->a.defers=a0.defers->(∀ (i:Nat) (o:Oper) (d:Nat),ops[i]? = some o->o.dst=some d->F i (a.tmps.getD d undef) w') →
   (∀ s,(∀ (i:Nat) (o:Oper),ops[i]? = some o->o.dst≠some s)->a.tmps.getD s undef=a0.tmps.getD s undef)->Below w.heap.size w w'->Q .normal a w') :
  (Code.region id ops true).wp P Q a0 w:=by
 have tQ:=qr0 hd;refine qr6 hm F (fun _=>false) m f n hn hd ll jV hF (fun i o ho hi a w' h1 h2 h3 h4=>?_) (fun a w' h1 h2 h3 h4 h5 _=>?_)
 ·obtain⟨g1,g2,g3⟩:=aS i o ho hi a w' h1 h2 h3 h4;exact⟨g1,g2,Oper.wp_mono (fun _ _ ⟨v,e1,e2,e3⟩=>⟨v,e1,e2,e3,fun e=>by cases e⟩) g3⟩
 ·refine⟨fun k b U=>(k=0->b=a/\U=w')/\(k=1->b.tmps.size=n/\b.defers=a0.defers/\(∀ (i:Nat) (o:Oper) (d:Nat),ops[i]? = some o->o.dst=some d->F i (b.tmps.getD d undef) U)/\(∀ s,(∀ (i:Nat) (o:Oper),ops[i]? = some o->o.dst≠some s)->b.tmps.getD s undef=a0.tmps.getD s undef)/\Below w.heap.size w U),⟨fun _=>⟨rfl,rfl⟩,fun e=>by cases e⟩,fun k o ho b U hT=>?_,fun b U hT=>?_⟩
  ·have hk:k=0:=by have:=(gv.1 ho).1;omega
   subst hk;obtain⟨rfl,rfl⟩:=hT.1 rfl;obtain⟨g1,g2,g3⟩:=eA o ho b U h3;refine⟨g1,Oper.wp_mono (fun b' U' ⟨v,e1,e2,e3⟩=>⟨fun e=>by omega,fun _=>?_⟩) g3⟩;obtain⟨d,mI⟩:=Option.ne_none_iff_exists'.1 g2;obtain⟨bX,ey⟩:=tQ m o d ho mI;rw[e1,mI];refine⟨by show (b.tmps.setIfInBounds d v).size=_;simpa using h1,h2,fun i oi di hi uP=>?_,fun s hs=>?_,h5.trans (e3.mono h5.size)⟩
   ·rw[q3s];by_cases oR:i=m
    ·subst oR;rw[show ops[i+0]? = ops[i]? from rfl,hi] at ho;injection ho with ho;subst ho
     rw[mI] at uP;injection uP with uP;subst uP
     rw[if_pos ⟨rfl,by rw[h1];exact bX⟩];exact e2
    ·rw[if_neg (fun e=>ey i oi hi oR (by rw[uP,e.1]))];have:=(gv.1 hi).1;exact hF _ _ _ _ (h3 i oi di hi uP (by omega)) e3
   ·rw[q3s,if_neg (fun e=>hs m o ho (by rw[mI,e.1]))];exact h4 s fun i oi _ hi=>hs i oi hi
  ·rw[show ops.size - m=1 by omega] at hT;obtain⟨g1,g2,g3,g4,g5⟩:=hT.2 rfl;exact dJ b U g1 g2 g3 g4 g5
theorem qt9 {o:Oper} {a:Act} {w:World} {K:Act->World->Prop} (t:TypeId) (bN:o.op = .alloc t) (v:Value) (w':World) (cy:(Instr.alloc t true (.tuple #[])).run P w = .ok v w') (h:K (a.put o.dst v) w'):Oper.wp P o a w K Q:=by
 unfold Oper.wp;simp[execOp,bN,cy,Result.andThen];exact h
end Go.Cx
namespace Go.Cx
open Go.RowKit Go.Proofs.YtlhicnfeajejhaaGreatDoor
variable {K:List Cl} {hi lo:Int->Int}
theorem qr9 {f g:Int->Int} {r:Int} : ∀ {K:List Cl},(∀ x∈K,f x.id*se x.s r=g x.id*se x.s r)->q1q f r K=q1q g r K
 | [],_=>rfl
 | x :: K,h=>by
  show f x.id*se x.s r+q1q f r K=g x.id*se x.s r+q1q g r K;rw[h x (.head _),qr9 fun y hy=>h y (.tail _ hy)]
theorem lin (G:Good K) (M:Mtc K hi lo) (bW:∀ a,¬ yp K hi a) {h:Int->Int} (hh:∀ d,h d≠0->∃ a,hi a=d/\hi a≠0) (hz:∀ c,hi c≠0->q1q h c K=0):∀ d,h d=0:=by
 obtain⟨r,hr,Sf⟩:=qed (Wy K hi) bW _ (K.map Cl.id) (nlr _);have cO:∀ c,hi c≠0->c∈K.map Cl.id:=fun c hc=>by
  obtain⟨_,_,y,hy,_,e,_⟩:=G.jm (M.sg c hc);exact e ▸ gI hy
 have step:∀ c,hi c≠0->h (hi c)≠0->∃ b,hi b≠0/\h (hi b)≠0/\Wy K hi b c:=fun c hc aq=>by
  refine gD fun dS=>?_
  have h1:q1q h c K=q1q (qw (hi c) (h (hi c))) c K:=qr9 fun x hx=>by
   unfold qw;by_cases qG:x.id=hi c
   ·rw[if_pos qG,qG]
   ·rw[if_neg qG,Int.zero_mul];refine gD fun hp=>dS ?_
    obtain⟨b,hb,cG⟩:=hh x.id fun e=>hp (by rw[e,Int.zero_mul])
    refine⟨b,cG,fun e=>hp (by rw[<-hb,e,Int.zero_mul]),?_,fun e=>qG (by rw[<-hb,<-e]),hc⟩;have hs:se x.s c≠0:=fun e=>hp (by rw[e,Int.mul_zero])
    refine gD fun CE=>hs (q9b fun s hs e=>CE ⟨s,?_,e⟩)
    rw[hb,q0b G.asc hx];exact hs
  have h2:q1q (qw (hi c) (h (hi c))) c K=h (hi c)*sgn K (hi c) c:=by rw[<-G.bdD];exact(q5f _ _ _).symm
  rw[hz c hc,h2] at h1;exact(Int.mul_ne_zero aq (M.sg c hc)) h1.symm
 have key:∀ k c,hi c≠0->(K.map Cl.id).length - r c<=k->h (hi c)=0:=by
  intro k;induction k with
  | zero =>
   intro c hc hk;refine gD fun aq=>?_
   obtain⟨b,hb,_,hw⟩:=step c hc aq;have h1:=hr b (cO b hb) c (cO c hc) hw;have h2:=Sf b;omega
  | succ k ih =>
   intro c hc hk;refine gD fun aq=>?_
   obtain⟨b,hb,IY,hw⟩:=step c hc aq;have h1:=hr b (cO b hb) c (cO c hc) hw;have h2:=Sf b;exact IY (ih b hb (by omega))
 intro d;refine gD fun aq=>?_
 obtain⟨a,rfl,ha⟩:=hh d aq;exact aq (key _ a ha (nlr _))
def HiC (hi:Int->Int) (h:Int->Int):Prop:=∀ d,h d≠0->∃ a,hi a=d/\hi a≠0
theorem qqv (r:Int):∀ K:List Cl,q1q zz r K=0
 | []=>rfl
 | x :: K=>by
  show 0*se x.s r+q1q zz r K=0;rw[qqv r K,Int.zero_mul];rfl
theorem qd1 (k:Int) (f:Int->Int) (r:Int):∀ K:List Cl,q1q (fun d=>k*f d) r K=k*q1q f r K
 | []=>(Int.mul_zero k).symm
 | x :: K=>by
  show k*f x.id*se x.s r+q1q (fun d=>k*f d) r K=k*(f x.id*se x.s r+q1q f r K);rw[qd1 k f r K,Int.mul_add,Int.mul_assoc]
theorem qs3 (G:Good K) (M:Mtc K hi lo) (bW:∀ a,¬ yp K hi a) {f h:Int->Int} (hf:In0 K f) (hh:HiC hi h) (hl:∀ c,hi c≠0->f c+q1q h c K=0) :
  q79 K hi f=(fun d=>f d+q1q h d K,h):=by
 obtain⟨n,hn⟩:=q9f G M bW hf;have h1:=qos hn;have h2:=qjr hn;have h3:=qis hn;generalize hA:(q79 K hi f).1=F at hn h1 h2 h3;generalize hB:(q79 K hi f).2=H at hn h1 h2 h3;have hd:∀ d,(fun d=>h d+(-1)*H d) d=0:=lin G M bW (h:=fun d=>h d+(-1)*H d) (fun d hd=>by
  by_cases e:h d=0
  ·have e2:H d≠0:=fun e2=>hd (by show h d + -1*H d=0;rw[e,e2];rfl)
   rcases h2 d e2 with e3 | e3
   ·exact absurd rfl e3
   ·exact e3
  ·exact hh d e) fun c hc=>by
   rw[q70,qd1];have e1:=hl c hc;have e2:=h1 c;rw[qqv] at e2;have e3:F c=0:=gD fun e=>hc (h3 c e)
   omega
 have he:h=H:=funext fun d=>by have:=hd d;simp only at this;omega
 have hF:F=fun d=>f d+q1q h d K:=funext fun d=>by rw[h1 d,qqv,he];omega
 have:q79 K hi f=((q79 K hi f).1,(q79 K hi f).2):=rfl;rw[this,hA,hB,hF,he]
theorem qg9 (G:Good K) (M:Mtc K hi lo) (bW:∀ a,¬ yp K hi a) {f:Int->Int} (hf:In0 K f) :
  HiC hi (q79 K hi f).2/\(∀ d,(q79 K hi f).1 d=f d+q1q (q79 K hi f).2 d K)/\∀ c,hi c≠0->(q79 K hi f).1 c=0:=by
 obtain⟨n,hn⟩:=q9f G M bW hf;refine⟨fun d hd=>(qjr hn d hd).resolve_left fun e=>e rfl,fun d=>?_,fun c hc=>gD fun e=>hc (qis hn c e)⟩;have:=qos hn d;rw[qqv] at this;omega
theorem HiC.lin {h g:Int->Int} (hh:HiC hi h) (hg:HiC hi g) (x y:Int):HiC hi fun d=>x*h d+y*g d:=fun d hd=>by
 by_cases e:h d=0
 ·have e2:g d≠0:=fun e2=>hd (by show x*h d+y*g d=0;rw[e,e2];simp)
  exact hg d e2
 ·exact hh d e
theorem In0.lin {f g:Int->Int} (hf:In0 K f) (hg:In0 K g) (x y:Int):In0 K fun d=>x*f d+y*g d:=fun d hd=>by
 by_cases e:f d=0
 ·have e2:g d≠0:=fun e2=>hd (by show x*f d+y*g d=0;rw[e,e2];simp)
  exact hg d e2
 ·exact hf d e
theorem qsh (G:Good K) (M:Mtc K hi lo) (bW:∀ a,¬ yp K hi a) {f g:Int->Int} (hf:In0 K f) (hg:In0 K g) (x y:Int) :
  q79 K hi (fun d=>x*f d+y*g d)=(fun d=>x*(q79 K hi f).1 d+y*(q79 K hi g).1 d,fun d=>x*(q79 K hi f).2 d+y*(q79 K hi g).2 d):=by
 obtain⟨f1,f2,f3⟩:=qg9 G M bW hf;obtain⟨g1,g2,g3⟩:=qg9 G M bW hg;have hs:∀ d,q1q (fun d=>x*(q79 K hi f).2 d+y*(q79 K hi g).2 d) d K=x*q1q (q79 K hi f).2 d K+y*q1q (q79 K hi g).2 d K:=fun d=>by
  rw[q70 (fun d=>x*(q79 K hi f).2 d) (fun d=>y*(q79 K hi g).2 d),qd1,qd1]
 have he:∀ d,x*f d+y*g d+q1q (fun d=>x*(q79 K hi f).2 d+y*(q79 K hi g).2 d) d K=x*(q79 K hi f).1 d+y*(q79 K hi g).1 d:=fun d=>by
  rw[hs,f2,g2,Int.mul_add,Int.mul_add];omega
 rw[qs3 G M bW (hf.lin hg x y) (f1.lin g1 x y) fun c hc=>by rw[he,f3 c hc,g3 c hc];simp];exact Prod.ext (funext he) rfl
theorem qsi (G:Good K) (M:Mtc K hi lo) (bW:∀ a,¬ yp K hi a) {g:Int->Int} (hg:HiC hi g) (hf:In0 K fun d=>q1q g d K):(q79 K hi fun d=>q1q g d K).1=zz:=by
 have h1:HiC hi fun d=>(-1)*g d:=fun d hd=>hg d fun e=>hd (by show -1*g d=0;rw[e];rfl)
 rw[qs3 G M bW hf h1 fun c _=>by rw[qd1];omega];refine funext fun d=>?_
 show q1q g d K+q1q (fun d=>(-1)*g d) d K=0;rw[qd1];omega
theorem qu3 (G:Good K) {x:Cl} (hx:x∈K) (r:Int):se x.s r=sgn K x.id r:=by
 have h1:=qcq G.asc x.id 1 r;have h2:=G.bdD x.id 1 r;have h3:bdD K x.id 1 r=q1q (qw x.id 1) r K:=q5f _ _ _;rw[q0b G.asc hx] at h1;omega
theorem qta (G:Good K) (f:Int->Int):In0 K fun d=>q1q f d K:=fun d hd=>by
 refine gD fun hn=>hd ?_
 show q1q f d K=0;rw[qr9 (g:=zz) fun x hx=>?_,qqv];rw[qu3 G hx];have:sgn K x.id d=0:=gD fun e=>by
  obtain⟨_,_,y,hy,_,e2,_⟩:=G.jm e;exact hn (e2 ▸ gI hy)
 rw[this,Int.mul_zero,Int.mul_zero]
def sL (L:List Int) (g:Int->Int):Int:=(L.map g).sum
theorem qlk (a:Int) (L:List Int) (g:Int->Int):sL (a :: L) g=g a+sL L g:=by unfold sL;rw[gP,bw]
theorem qpt (A:Int->Int) (d:Int):∀ {L:List Int},L.Nodup->sL L (fun a=>A a*qw a 1 d)=if d∈L then A d else 0
 | [],_=>rfl
 | a :: L,h=>by
  rw[qlk,qpt A d (List.nodup_cons.1 h).2];unfold qw;by_cases e:d=a
  ·subst e;rw[if_pos rfl,if_neg (List.nodup_cons.1 h).1,if_pos (.head _)];omega
  ·rw[if_neg e];by_cases hm:d∈L
   ·rw[if_pos hm,if_pos (.tail _ hm)];simp
   ·rw[if_neg hm,if_neg fun x=>(gw.1 x).elim e hm];simp
theorem qsj (A:Int->Int) (r:Int):∀ L:List Int,q1q (fun d=>sL L fun a=>A a*qw a 1 d) r K=sL L fun a=>A a*bdD K a 1 r
 | []=>qqv r K
 | a :: L=>by
  have h1:(fun d=>sL (a :: L) fun a=>A a*qw a 1 d)=fun d=>A a*qw a 1 d+sL L fun a=>A a*qw a 1 d:=funext fun d=>qlk _ _ _
  have h3:bdD K a 1 r=q1q (qw a 1) r K:=q5f _ _ _;rw[h1,q70 (fun d=>A a*qw a 1 d),qd1,qsj A r L,qlk,h3]
theorem qtb (G:Good K) (M:Mtc K hi lo) (bW:∀ a,¬ yp K hi a) (A:Int->Int):∀ L:List Int,
  In0 K (fun r=>sL L fun a=>A a*bdD K a 1 r)/\∀ r,(q79 K hi fun r=>sL L fun a=>A a*bdD K a 1 r).1 r=sL L fun a=>A a*(q79 K hi (bdD K a 1)).1 r
 | []=>⟨fun d hd=>absurd rfl hd,fun r=>by
  have:(fun r=>sL [] fun a=>A a*bdD K a 1 r)=fun d=>q1q zz d K:=funext fun d=>(qqv d K).symm
  rw[this,qsi G M bW (g:=zz) (fun d hd=>absurd rfl hd) (qta G zz)];rfl⟩
 | a :: L=>by
  obtain⟨i1,i2⟩:=qtb G M bW A L;have h1:(fun r=>sL (a :: L) fun a=>A a*bdD K a 1 r)=fun r=>A a*bdD K a 1 r+1*(sL L fun a=>A a*bdD K a 1 r):=funext fun r=>by rw[qlk,Int.one_mul]
  rw[h1];refine⟨(qcu G a 1).lin i1 _ _,fun r=>?_⟩;rw[qsh G M bW (qcu G a 1) i1];show _+1*(q79 K hi _).1 r=_;rw[i2,qlk,Int.one_mul]
end Go.Cx
namespace Go.Proofs.YtlhicnfeajejhaaGreatDoor
open Go.RowKit Go.Cx
def qtc (w:World) (p r c:Nat) (u:Value):Prop:=w.cell? ⟨p,0,none⟩=some (.int .i64 r)/\w.cell? ⟨p,1,none⟩=some (.int .i64 c)/\w.cell? ⟨p,2,none⟩=some u
theorem qtc.q8 {w w':World} {p r c:Nat} {u:Value} (h:qtc w p r c u) (hb:Below w.heap.size w w'):qtc w' p r c u:=⟨Cx.q8 hb h.1,Cx.q8 hb h.2.1,Cx.q8 hb h.2.2⟩
end Go.Proofs.YtlhicnfeajejhaaGreatDoor
namespace Go.Cx
open Go.Proofs.YtlhicnfeajejhaaGreatDoor
section
variable {K:List Cl} {hi lo:Int->Int}
theorem qul (G:Good K) (M:Mtc K hi lo) {W:Int->Nat} (hW:Wgt K hi W) {n:Nat} {f h f' h':Int->Int} (k:Clr K hi n f h f' h'):In0 K f->Ph (K.map Cl.id) W f'<=Ph (K.map Cl.id) W f/\In0 K f':=by
 induction k with
 | done f h _=>exact fun a=>⟨nlr _,a⟩
 | step n f h f' h' c h1 h2 _ _ ih =>
  intro a;have s1:=qb8 G M hW a h1 h2;obtain⟨g1,g2⟩:=ih (qmn G a c);have g1:Ph (K.map Cl.id) W f'<=Ph (K.map Cl.id) W (stF K hi f c):=g1;exact⟨by omega,g2⟩
theorem qu4 (G:Good K) (M:Mtc K hi lo) (bW:∀ a,¬ yp K hi a) (hl:K.length<=65535) (c r:Int):nb (q85 K hi lo (bdD K c 1) r)<=K.length+4:=by
 unfold q85;split
 ·rw[q0g];omega
 ·rw[qel (qcu G c 1)];obtain⟨W,hW⟩:=qct G M bW;obtain⟨n,k⟩:=q9f G M bW (qcu G c 1);obtain⟨h1,h2⟩:=qul G M hW k (qcu G c 1);have h3:∀ d,nb (bdD K c 1 d)<=1:=fun d=>by
   rw[G.bdD,Int.one_mul];refine q31 _ _ ?_;by_cases e:sgn K c d=0
   ·rw[e];decide
   ·rcases G.q2v e with e | e <;> rw[e] <;> decide
  have h4:=qoa hW h3 hl;rw[show 1+K.length+3=K.length+4 by omega] at h4;exact qb9 hW.pos h2 h1 h4 r
theorem qu5 (L:List Int) (g:Int->Int) (k:Nat) (hk:k < L.length):sL (L.take (k+1)) g=sL (L.take k) g+g (L.getD k 0):=by
 unfold sL;rw[gq,g8 hk,bm,List.sum_append,gF,g8 hk];simp
theorem qtd {r c i k:Nat} (g:Nat->Int) (hi:i < r) (hk:k < c):((List.range (r*c)).map g).getD (i*c+k) 0=g (i*c+k):=by
 have h:i*c+k < r*c:=by
  have:(i+1)*c<=r*c:=bE c hi;rw[Nat.add_mul,Nat.one_mul] at this;omega
 rw[gF,List.getElem?_map,List.getElem?_range h];rfl
end
end Go.Cx
namespace Go.Proofs.YtlhicnfeajejhaaGreatDoor
open Go.RowKit Go.Cx
section
variable {K:List Cl} (G:Cx.Good K) (hc:chk K=(0,0)) (hbb:∀ f r,q1q (fun d=>q1q f d K) r K=0) {m:List (Int×Int)} (hm:j8 K m=0)
include G hc hm
theorem qss (d:Int):∃ hi lo,xk K zz zz m=some (hi,lo)/\Mtc K hi lo/\(∀ a,¬ yp K hi a)/\mhi K m=hi/\mlo K m=lo/\yt K m d=q27 K hi lo d/\yt K m (d - 1)=q27 K hi lo (d - 1)/\yt K m (d+1)=q27 K hi lo (d+1):=by
 obtain⟨hi,lo,hp,M,bW⟩:=q84 G hm;have iq:canon K=K:=G.cells.1;have hE:opE K m=0:=by unfold opE;rw[hc,if_pos rfl,iq];exact hm
 have h1:mhi K m=hi:=by unfold mhi;rw[iq,hp];rfl
 have h2:mlo K m=lo:=by unfold mlo;rw[iq,hp];rfl
 refine⟨hi,lo,hp,M,bW,h1,h2,?_,?_,?_⟩ <;> (unfold yt;rw[if_pos hE,iq,h1,h2])
theorem qu6 (hl:K.length<=65535) (d:Int):∀ x∈qrb K m d,nb x<=K.length+4:=fun x hx=>by
 obtain⟨hi,lo,hp,M,bW,h1,h2,_⟩:=qss G hc hm d;unfold qrb at hx;obtain⟨t,_,rfl⟩:=go.1 hx;rw[G.cells.1,h1,h2];exact qu4 G M bW hl _ _
include hbb
end
theorem qu7 (l:List Int) (f:Int->Int) (r:Int):q1q (fun d=>q1q f d (q25 l)) r (q25 l)=0:=by
 have h:=qut f ((l.take 12).map q11) (qsq l) r;rw[q5f] at h;rw[<-h];exact congrArg (fun g=>q1q g r _) (funext fun d=>(q5f f d _).symm)
theorem qte (l:List Int):∀ x∈q25 l,0<=x.dim/\x.dim<=5:=fun x hx=>by
 have S:=qid ((l.take 12).map q11) fun s hs=>by
  obtain⟨x,_,rfl⟩:=go.1 hs;exact⟨(q5d x).1,(q5d x).2.1⟩
 have hx:x∈xf (kg ((l.take 12).map q11)) (kg ((l.take 12).map q11)).length:=hx;generalize kg ((l.take 12).map q11)=A at S hx;obtain⟨i,hi,rfl⟩:=go.1 hx;have hi:=gC.1 hi;have hm:A.getD i []∈A:=by
  rw[gF,g8 hi];exact List.getElem_mem _
 have h1:=S.len _ hm;have h2:=List.length_pos_iff.2 (S.ne _ hm);show 0<=((A.getD i []).length:Int) - 1/\((A.getD i []).length:Int) - 1<=5;omega
end Go.Proofs.YtlhicnfeajejhaaGreatDoor
