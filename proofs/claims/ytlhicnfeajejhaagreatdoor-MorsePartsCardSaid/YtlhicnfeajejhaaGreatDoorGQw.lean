/- Steps towards MorseParts. Conditions: none. -/
import Derived.Test.YtlhicnfeajejhaaGreatDoorGQv
set_option maxRecDepth 1000000
set_option maxHeartbeats 16000000
namespace Go.Cx
open Go.RowKit
variable {P:Program} {ops:Array Oper} {Q:Exit->Act->World->Prop}
def qrq (ops:Array Oper) (m f:Nat):Bool:=decide (m < ops.size) && ((List.range m).all fun i=>reach ops f m i) && (List.range ops.size).all fun k=>decide (k<=m) || dep .any ops k (k - 1)
structure StL (ops:Array Oper) (m:Nat) (F:Nat->Value->World->Prop) (B:Nat->Bool) (a0:Act) (w0:World) (l:Nat->Bool) (a:Act) (w:World):Prop where
 sz:a.tmps.size=a0.tmps.size
 df:a.defers=a0.defers
 fact:∀ (i:Nat) (o:Oper) (d:Nat),ops[i]? = some o->o.dst=some d->l i=true->F i (a.tmps.getD d undef) w
 base:∀ s,(∀ (i:Nat) (o:Oper),i < m->ops[i]? = some o->o.dst≠some s)->a.tmps.getD s undef=a0.tmps.getD s undef
 below:BwQ w0 w
 box:∀ (i:Nat) (o:Oper) (d:Nat),ops[i]? = some o->o.dst=some d->l i=true->B i=true->∃ p,a.tmps.getD d undef = .pointer (some ⟨p,0,none⟩)/\p < w.heap.size
 apart:∀ (i:Nat) (o:Oper) (d:Nat) (j:Nat) (o':Oper) (d':Nat),ops[i]? = some o->o.dst=some d->ops[j]? = some o'->o'.dst=some d'->l i=true->l j=true->B i=true->B j=true->i≠j->a.tmps.getD d undef≠a.tmps.getD d' undef
theorem qrr {id:Nat} {a0:Act} {w:World} (hm:P.follows .mixedOrders=true) (F:Nat->Value->World->Prop) (B:Nat->Bool) (m f n:Nat) (hn:a0.tmps.size=n) (hd:qfa ops n=true) (mx:qmk .any ops=true) (mO:qrq ops m f=true)
  (Fin:Nat->Act->World->Prop)
  (hF:∀ i v w w',F i v w->BwQ w w'->F i v w')
  (aX:∀ (i:Nat) (o:Oper),ops[i]? = some o->i < m->∀ (a:Act) (w':World),BwQ w w'->(∀ (j:Nat) (oj:Oper) (dj:Nat),ops[j]? = some oj->oj.dst=some dj->dep .any ops i j=true->F j (a.tmps.getD dj undef) w') →
   (∀ s,(∀ (i:Nat) (o:Oper),i < m->ops[i]? = some o->o.dst≠some s)->a.tmps.getD s undef=a0.tmps.getD s undef)->a.tmps.size=n →
   Region.wanted o (yielded ops a.tmps)=true/\o.dst≠none/\Oper.wp P o a w' (fun a' w''=>∃ v,a'=a.put o.dst v/\F i v w''/\BwQ w' w''/\(B i=true->∃ p,v = .pointer (some ⟨p,0,none⟩)/\w'.heap.size<=p/\p < w''.heap.size)) Q)
  (oB:∀ (a:Act) (w':World),a.tmps.size=n->a.defers=a0.defers->(∀ (i:Nat) (o:Oper) (d:Nat),ops[i]? = some o->o.dst=some d->i < m->F i (a.tmps.getD d undef) w') →
   (∀ s,(∀ (i:Nat) (o:Oper),i < m->ops[i]? = some o->o.dst≠some s)->a.tmps.getD s undef=a0.tmps.getD s undef)->BwQ w w' →
   (∀ (i:Nat) (o:Oper) (d:Nat) (j:Nat) (o':Oper) (d':Nat),ops[i]? = some o->o.dst=some d->ops[j]? = some o'->o'.dst=some d'->i < m->j < m->B i=true->B j=true->i≠j->a.tmps.getD d undef≠a.tmps.getD d' undef)->Fin 0 a w')
  (GF:∀ (k:Nat) (o:Oper),ops[m+k]? = some o->∀ (a:Act) (w':World),Fin k a w'->Region.wanted o (yielded ops a.tmps)=true/\Oper.wp P o a w' (fun a' w''=>Fin (k+1) a' w'') Q)
  (dU:∀ (a:Act) (w':World),Fin (ops.size - m) a w'->Q .normal a w') :
  (Code.region id ops true).wp P Q a0 w:=by
 have uT:=qr1 hd;unfold qrq at mO;rw[gZ,gZ,decide_eq_true_eq] at mO;obtain⟨⟨Nk,iX⟩,Xx⟩:=mO;have jI:∀ i,i < m->reach ops f m i=true:=fun i hi=>bj.1 iX i (gD.2 hi)
 have mi:∀ k,m < k->k < ops.size->dep .any ops k (k - 1)=true:=fun k h1 h2=>by have:=bj.1 Xx k (gD.2 h2);rw[Bool.or_eq_true,decide_eq_true_eq] at this;exact this.resolve_left (by omega)
 have down:∀ (l:Nat->Bool),(∀ i,l i=true->∀ j,dep .any ops i j=true->l j=true)->(∀ j,l j=true->j < ops.size)->∀ k j,j<=k->l (m+k)=true->l (m+j)=true:=fun l hc hb k j jX hk=>by
  induction k with
  | zero=>rw[show j=0 by omega];exact hk
  | succ k ih =>
   rcases gP j (k+1) with hlt | mW
   ·refine ih (by omega) ?_;have:=hc _ hk _ (mi (m+(k+1)) (by omega) (hb _ hk))
    rwa [show m+(k+1) - 1=m+k by omega] at this
   ·rw[show j=k+1 by omega];exact hk
 refine qr4 hm mx (fun l a w'=>(∀ i,l i=true->∀ j,dep .any ops i j=true->l j=true)/\(∀ j,l j=true->j < ops.size)/\(l m=false->StL ops m F B a0 w l a w')/\(∀ k,l (m+k)=true->l (m+(k+1))=false->Fin (k+1) a w')) ?_ ?_ ?_
 ·exact⟨fun i h=>absurd h Bool.false_ne_true,fun i h=>absurd h Bool.false_ne_true,fun _=>⟨rfl,rfl,fun _ _ _ _ _ h=>absurd h Bool.false_ne_true,fun _ _=>rfl,qb (Below.refl _ w) 1,fun _ _ _ _ _ h=>absurd h Bool.false_ne_true,fun _ _ _ _ _ _ _ _ _ _ h=>absurd h Bool.false_ne_true⟩,fun k h=>absurd h Bool.false_ne_true⟩
 ·intro i o ho l a w' vK bQ ⟨hc,hb,h1,h2⟩;have ed:=(gp.1 ho).1;have iD:∀ j,(fun j=>j == i || l j) j=true->∀ k,dep .any ops j k=true->(fun j=>j == i || l j) k=true:=fun j hj k hk=>by
   simp only [Bool.or_eq_true,beq_iff_eq] at hj ⊢;rcases hj with rfl | hj
   ·exact .inr (bQ k hk)
   ·exact .inr (hc j hj k hk)
  have mj:∀ j,(fun j=>j == i || l j) j=true->j < ops.size:=fun j hj=>by
   simp only [Bool.or_eq_true,beq_iff_eq] at hj;rcases hj with rfl | hj
   ·exact ed
   ·exact hb j hj
  by_cases xK:i < m
  ·have dL:l m=false:=by
    cases hc':l m with
    | false=>rfl
    | true =>have:=q70 hc f m i (jI i xK) hc';rw[vK] at this;cases this
   have az:=h1 dL;obtain⟨hw,Lk,my⟩:=aX i o ho xK a w' az.below (fun j oj dj hj bW EA=>az.fact j oj dj hj bW (bQ j EA)) az.base (az.sz.trans hn);refine⟨hw,Oper.wp_mono (fun a' w'' hx=>?_) my⟩;obtain⟨v,rfl,hv,qC,im⟩:=hx;obtain⟨d,lL⟩:=Option.ne_none_iff_exists'.1 Lk;obtain⟨cj,eJ⟩:=uT i o d ho lL;refine⟨iD,mj,fun _=>?_,fun k hk=>?_⟩
   ·rw[lL];have fG:∀ j (oj:Oper) dj,ops[j]? = some oj->oj.dst=some dj->j≠i->(a.put (some d) v).tmps.getD dj undef=a.tmps.getD dj undef:=fun j oj dj hj bW cE=>by rw[q3s,if_neg (fun e=>eJ j oj hj cE (by rw[bW,e.1]))]
    have new:(a.put (some d) v).tmps.getD d undef=v:=by rw[q3s,if_pos ⟨rfl,by rw[az.sz,hn];exact cj⟩]
    have wK:∀ j,j≠i->(j == i || l j)=true->l j=true:=fun j cE ez=>by
     have:(j == i)=false:=by simpa using cE
     rwa [this,Bool.false_or] at ez
    have same:∀ (oj:Oper) dj,ops[i]? = some oj->oj.dst=some dj->dj=d:=fun oj dj hj bW=>by
     rw[ho] at hj;injection hj with hj;subst hj
     rw[lL] at bW;injection bW with bW;exact bW.symm
    refine⟨by show (a.tmps.setIfInBounds d v).size=_;simpa using az.sz,az.df,fun j oj dj hj bW ez=>?_,fun s hs=>?_,(btr az.below qC),fun j oj dj hj bW ez hB=>?_,fun j oj dj k ok dk hj bW hk kR ez db lP Nl al=>?_⟩
    ·by_cases cE:j=i
     ·subst cE;rw[same oj dj hj bW,new];exact hv
     ·rw[fG j oj dj hj bW cE];exact hF _ _ _ _ (az.fact j oj dj hj bW (wK j cE ez)) qC
    ·rw[q3s,if_neg (fun e=>hs i o xK ho (by rw[lL,e.1]))];exact az.base s hs
    ·by_cases cE:j=i
     ·subst cE;obtain⟨p,h3,_,h4⟩:=im hB;exact⟨p,by rw[same oj dj hj bW,new];exact h3,h4⟩
     ·obtain⟨p,h3,h4⟩:=az.box j oj dj hj bW (wK j cE ez) hB;exact⟨p,by rw[fG j oj dj hj bW cE];exact h3,gM h4 qC.size⟩
    ·by_cases cE:j=i
     ·subst cE;have iB:k≠j:=fun e=>al e.symm
      obtain⟨p,h3,h5,_⟩:=im lP;obtain⟨q,h6,h7⟩:=az.box k ok dk hk kR (wK k iB db) Nl;rw[same oj dj hj bW,new,fG k ok dk hk kR iB,h3,h6];intro e;injection e with e;injection e with e;injection e with e;omega
     ·by_cases iB:k=i
      ·subst iB;obtain⟨p,h3,h5,_⟩:=im Nl;obtain⟨q,h6,h7⟩:=az.box j oj dj hj bW (wK j cE ez) lP;rw[same ok dk hk kR,new,fG j oj dj hj bW cE,h3,h6];intro e;injection e with e;injection e with e;injection e with e;omega
      ·rw[fG j oj dj hj bW cE,fG k ok dk hk kR iB];exact az.apart j oj dj k ok dk hj bW hk kR (wK j cE ez) (wK k iB db) lP Nl al
   ·exfalso
    simp only [Bool.or_eq_true,beq_iff_eq] at hk;rcases hk with hk | hk
    ·omega
    ·have:=down l hc hb k 0 (go _) hk;rw[Nat.add_zero,dL] at this;cases this
  ·obtain⟨k,rfl⟩ : ∃ k,i=m+k:=⟨i - m,by omega⟩
   have Nn:Fin k a w':=by
    cases k with
    | zero =>
     rw[Nat.add_zero] at vK bQ;have az:=h1 vK;have aG:∀ j,j < m->l j=true:=fun j hj=>by
      have hr:=jI j hj;cases f with
      | zero=>cases hr
      | succ f =>
       unfold reach at hr;rw[Bool.or_eq_true] at hr;rcases hr with hr | hr
       ·exact bQ j hr
       ·obtain⟨k,_,hk⟩:=List.any_eq_true.1 hr;rw[gZ] at hk;exact q70 hc f k j hk.2 (bQ k hk.1)
     exact oB a w' (az.sz.trans hn) az.df (fun i o d ho lL xK=>az.fact i o d ho lL (aG i xK)) az.base az.below fun i o d j o' d' hi R0 hj bW h1 h2 ak aw al=>az.apart i o d j o' d' hi R0 hj bW (aG i h1) (aG j h2) ak aw al
    | succ k =>
     refine h2 k ?_ vK;have:=bQ _ (mi (m+(k+1)) (by omega) ed)
     rwa [show m+(k+1) - 1=m+k by omega] at this
   obtain⟨hw,my⟩:=GF k o ho a w' Nn;refine⟨hw,Oper.wp_mono (fun a' w'' hx=>⟨iD,mj,fun h=>?_,fun j hj Dl=>?_⟩) my⟩
   ·exfalso
    simp only [Bool.or_eq_false_iff,beq_eq_false_iff_ne] at h;cases k with
    | zero=>exact h.1 rfl
    | succ k =>have h3:=bQ _ (mi (m+(k+1)) (by omega) ed);rw[show m+(k+1) - 1=m+k by omega] at h3;have:=down l hc hb k 0 (go _) h3;rw[Nat.add_zero,h.2] at this;cases this
   ·have jX:j=k:=by
     simp only [Bool.or_eq_true,beq_iff_eq] at hj;simp only [Bool.or_eq_false_iff,beq_eq_false_iff_ne] at Dl;rcases hj with hj | hj
     ·omega
     ·rcases Nat.lt_trichotomy j k with h | h | h
      ·exfalso
       obtain⟨k',rfl⟩ : ∃ k',k=k'+1:=⟨k - 1,by omega⟩
       have h3:=bQ _ (mi (m+(k'+1)) (by omega) ed);rw[show m+(k'+1) - 1=m+k' by omega] at h3;rcases gP j k' with h4 | h4
       ·have:=down l hc hb k' (j+1) (by omega) h3;rw[Dl.2] at this;cases this
       ·exact Dl.1 (by omega)
      ·exact h
      ·exfalso
       have:=down l hc hb j k (by omega) hj;rw[vK] at this;cases this
    rw[jX];exact hx
 ·intro l a w' aG ⟨_,hb,_,h2⟩;have h3:=h2 (ops.size - m - 1) (aG _ (by omega)) (by
   cases hc':l (m+(ops.size - m - 1+1)) with
   | false=>rfl
   | true=>have:=hb _ hc';omega)
  rw[show ops.size - m - 1+1=ops.size - m by omega] at h3;exact dU a w' h3
theorem qrk {id:Nat} {a0:Act} {w:World} (hm:P.follows .mixedOrders=true) (F:Nat->Value->World->Prop) (B:Nat->Bool) (m f n:Nat) (hn:a0.tmps.size=n) (hd:qfa ops n=true) (mx:qmk .any ops=true) (mO:qrq ops m f=true)
  (hF:∀ i v w w',F i v w->BwQ w w'->F i v w')
  (aX:∀ (i:Nat) (o:Oper),ops[i]? = some o->i < m->∀ (a:Act) (w':World),BwQ w w'->(∀ (j:Nat) (oj:Oper) (dj:Nat),ops[j]? = some oj->oj.dst=some dj->dep .any ops i j=true->F j (a.tmps.getD dj undef) w') →
   (∀ s,(∀ (i:Nat) (o:Oper),i < m->ops[i]? = some o->o.dst≠some s)->a.tmps.getD s undef=a0.tmps.getD s undef)->a.tmps.size=n →
   Region.wanted o (yielded ops a.tmps)=true/\o.dst≠none/\Oper.wp P o a w' (fun a' w''=>∃ v,a'=a.put o.dst v/\F i v w''/\BwQ w' w''/\(B i=true->∃ p,v = .pointer (some ⟨p,0,none⟩)/\w'.heap.size<=p/\p < w''.heap.size)) Q)
  (oB:∀ (a:Act) (w':World),a.tmps.size=n->a.defers=a0.defers->(∀ (i:Nat) (o:Oper) (d:Nat),ops[i]? = some o->o.dst=some d->i < m->F i (a.tmps.getD d undef) w') →
   (∀ s,(∀ (i:Nat) (o:Oper),i < m->ops[i]? = some o->o.dst≠some s)->a.tmps.getD s undef=a0.tmps.getD s undef)->BwQ w w' →
   (∀ (i:Nat) (o:Oper) (d:Nat) (j:Nat) (o':Oper) (d':Nat),ops[i]? = some o->o.dst=some d->ops[j]? = some o'->o'.dst=some d'->i < m->j < m->B i=true->B j=true->i≠j->a.tmps.getD d undef≠a.tmps.getD d' undef) →
   ∃ T:Nat->Act->World->Prop,T 0 a w'/\(∀ (k:Nat) (o:Oper),ops[m+k]? = some o->∀ a1 w1,T k a1 w1->Region.wanted o (yielded ops a1.tmps)=true/\Oper.wp P o a1 w1 (fun a2 w2=>T (k+1) a2 w2) Q)/\∀ a1 w1,T (ops.size - m) a1 w1->Q .normal a1 w1) :
  (Code.region id ops true).wp P Q a0 w :=
 qrr hm F B m f n hn hd mx mO (fun k a w'=>∃ T:Nat->Act->World->Prop,T k a w'/\(∀ (k:Nat) (o:Oper),ops[m+k]? = some o->∀ a1 w1,T k a1 w1->Region.wanted o (yielded ops a1.tmps)=true/\Oper.wp P o a1 w1 (fun a2 w2=>T (k+1) a2 w2) Q)/\∀ a1 w1,T (ops.size - m) a1 w1->Q .normal a1 w1) hF aX oB
  (fun k o ho a w' ⟨T,h1,h2,h3⟩=>⟨(h2 k o ho a w' h1).1,Oper.wp_mono (fun _ _ h=>⟨T,h,h2,h3⟩) (h2 k o ho a w' h1).2⟩)
  (fun _ _ ⟨_,h1,_,h3⟩=>h3 _ _ h1)
def qtg (ops:Array Oper) (m s:Nat):Bool:=(List.range m).all fun i=>(ops[i]?).bind (·.dst) != some s
theorem qpt {m s:Nat} (h:qtg ops m s=true):∀ (i:Nat) (o:Oper),i < m->ops[i]? = some o->o.dst≠some s:=fun i o hi ho e=>by have:=bj.1 h i (gD.2 hi);rw[ho,Option.bind_some,e] at this;simp at this
theorem qs0 {o:Oper} {a:Act} {w:World} {K:Act->World->Prop} (t:TypeId) (bJ:o.op = .alloc t) (v:Value) (w':World) (cB:(Instr.alloc t true (.tuple #[])).run P w = .ok v w') (h:K (a.put o.dst v) w'):Oper.wp P o a w K Q:=by unfold Oper.wp;simp[execOp,bJ,cB,Result.andThen];exact h
end Go.Cx
namespace Go.Proofs.YtlhicnfeajejhaaGreatDoor
open Go.RowKit Go.Cx
def BoxM (b:Nat) (v:Value) (w:World):Prop:=∃ p,v = .pointer (some ⟨p,0,none⟩)/\b<=p/\p < w.heap.size/\(∃ x:Int,w.cell? ⟨p,0,none⟩=some (.int .i64 x))/\(∃ x:Int,w.cell? ⟨p,1,none⟩=some (.int .i64 x))/\(∃ a n k,w.cell? ⟨p,2,none⟩=some (.slice a n k))/\∀ j,w.frozen? ⟨p,j,none⟩=false
theorem BoxM.q8 {b:Nat} {v:Value} {w w':World} (h:BoxM b v w) (hb:BwQ w w'):BoxM b v w':=by obtain⟨p,h1,h2,h3,⟨x,hx⟩,⟨y,hy⟩,⟨a,n,k,hz⟩,h4⟩:=h;exact⟨p,h1,h2,gM h3 hb.size,⟨x,Cx.q8 hb hx⟩,⟨y,Cx.q8 hb hy⟩,⟨a,n,k,Cx.q8 hb hz⟩,fun j=>(hb.frozen (by exact h3)).trans (h4 j)⟩
def qrs (w:World) (p:Nat) (x y z:Value):World:=((w.setCell ⟨p,0,none⟩ x).setCell ⟨p,1,none⟩ y).setCell ⟨p,2,none⟩ z
theorem BoxM.set {w:World} {b p q:Nat} (h:BoxM b (.pointer (some ⟨p,0,none⟩)) w) (al:p≠q) (x y z:Value):BoxM b (.pointer (some ⟨p,0,none⟩)) (qrs w q x y z):=by
 obtain⟨p',h1,h2,h3,⟨x',hx⟩,⟨y',hy⟩,⟨a,n,k,hz⟩,h4⟩:=h;injection h1 with h1;injection h1 with h1;injection h1 with h1;subst h1
 exact⟨p,rfl,h2,by simpa [qrs] using h3,⟨x',xe (xe (xe hx al) al) al⟩,⟨y',xe (xe (xe hy al) al) al⟩,⟨a,n,k,xe (xe (xe hz al) al) al⟩,fun j=>by simpa [qrs,World.frozen?_setCell] using h4 j⟩
theorem qse {B p:Nat} {w w':World} (h:Below B w w') (hp:B<=p) (x y z:Value):Below B w (qrs w' p x y z):=((h.setCell hp x).setCell hp y).setCell hp z
end Go.Proofs.YtlhicnfeajejhaaGreatDoor
namespace Go.Proofs.YtlhicnfeajejhaaGreatDoor
open Go.RowKit Go.Cx
section
variable {K:List Cl} (G:Cx.Good K) (hc:chk K=(0,0)) (hbb:∀ f r,q1q (fun d=>q1q f d K) r K=0) {m:List (Int×Int)} (hm:j8 K m=0)
include G hc hm
theorem qqy (d:Int):∃ hi lo,xk K zz zz m=some (hi,lo)/\Mtc K hi lo/\(∀ a,¬ yp K hi a)/\mhi K m=hi/\mlo K m=lo/\yt K m d=q27 K hi lo d/\yt K m (d - 1)=q27 K hi lo (d - 1)/\yt K m (d+1)=q27 K hi lo (d+1):=by
 obtain⟨hi,lo,hp,M,mI⟩:=q84 G hm;have wL:canon K=K:=G.cells.1;have hE:opE K m=0:=by unfold opE;rw[hc,if_pos rfl,wL];exact hm
 have h1:mhi K m=hi:=by unfold mhi;rw[wL,hp];rfl
 have h2:mlo K m=lo:=by unfold mlo;rw[wL,hp];rfl
 refine⟨hi,lo,hp,M,mI,h1,h2,?_,?_,?_⟩ <;> (unfold yt;rw[if_pos hE,wL,h1,h2])
include hbb
end
end Go.Proofs.YtlhicnfeajejhaaGreatDoor
namespace Go.Proofs.YtlhicnfeajejhaaGreatDoor
open Go.RowKit Go.Cx
attribute [local go_sem ↓] Go.wp_at_zero Go.wp_at_succ
structure Twi (w W:World) (b:Nat) (x u:Value) (K:List Cl) (M:List (Int×Int)):Prop where
 bv:Bv W b x
 cx:(Mok.cx K).holds (.agg #[x]) W
 pr:(Mok.prs M).holds u W
 bl:BwQ w W
theorem Twi.q8 {w W V:World} {b:Nat} {x u:Value} {K:List Cl} {M:List (Int×Int)} (h:Twi w W b x u K M) (hb:BwQ W V):Twi w V b x u K M :=
 ⟨h.bv.q8 hb,Mok.q8 h.cx hb,Mok.q8 h.pr hb,(btr h.bl hb)⟩
end Go.Proofs.YtlhicnfeajejhaaGreatDoor
