/- Steps towards SequenceChecks. Conditions: none. -/
import Derived.Test.YtmkpbhaoalbhjaaGreatDoorXRs
set_option maxRecDepth 1000000
set_option maxHeartbeats 0
open Go.Value renaming slice→O,agg→I,pointer→σ,bool→τ,int→H,tuple→ψ
open Option renaming none→Z,some→Y
open Go renaming undef→V,World→δ,Value→ε
open Go.IntKind renaming i64→φ
open Go.Cx renaming keep→J
namespace Go.Cx
open Go.RowKit
variable {P:Program}{ops:Array Oper}{Q:Exit->Act->δ->Prop}
structure StU (bk:ε->Option Nat)(C:List (Nat×Nat))(g:Nat->ε->ε)(ops:Array Oper)(m:Nat)(F:Bool->Nat->ε->δ->Prop)(B:Nat->Bool)(a0:Act)(w0:δ)(l:Nat->Bool)(a:Act)(w:δ):Prop where
 cl:∀i,l i=true->∀j,dep .any ops i j=true->l j=true
 sz:a.tmps.size=a0.tmps.size
 df:a.defers=a0.defers
 fact:∀(i:Nat) (o:Oper) (d:Nat),ops[i]? =Y o->o.dst=Y d->l i=true->F (l m) i (a d V) w
 base:∀s,(∀(i:Nat) (o:Oper),ops[i]? =Y o->o.dst≠Y s)->a s V=a0 s V
 below:Below w0 w0 w
 box:∀(i:Nat) (o:Oper) (d:Nat),ops[i]? =Y o->o.dst=Y d->l i=true->B i=true->∃p,bk (a d V)=Y p/\p<w
 apart:∀(i:Nat) (o:Oper) (d:Nat) (j:Nat) (o':Oper) (d':Nat),ops[i]? =Y o->o.dst=Y d->ops[j]? =Y o'->o'.dst=Y d'->l i=true->l j=true->B i=true->B j=true->i≠j->bk (a d V)≠bk (a.tmps.getD d' V)
 copy:∀c∈C,l c.1=true->∀(o:Oper) (d:Nat) (o':Oper) (d':Nat),ops[c.1]? =Y o->o.dst=Y d->ops[c.2]? =Y o'->o'.dst=Y d'->a d V=g c.1 (a.tmps.getD d' V)
theorem vf {id:Nat}{a0:Act}{w:δ}(hm:P.follows .mixedOrders=true)(F:Bool->Nat->ε->δ->Prop)(B:Nat->Bool)(bk:ε->Option Nat)(C:List (Nat×Nat))(g:Nat->ε->ε)(hC:C.all (fun c=>dep .any ops c.1 c.2)=true)(m n:Nat)(hn:a0.tmps.size=n)(hd:q6a ops n=true)(lP:qmk .any ops=true)(D8:m<ops.size)(A6:(ops[m]?).bind (·.dst)=Z)
  (hF:∀b i v w w',F b i v w->Below w w w'->F b i v w')
  (dq:∀(i:Nat) (o:Oper),ops[i]? =Y o->i≠m->∀(b:Bool) (a:Act) (w':δ),(dep .any ops i m=true->b=true)->(dep .any ops m i=true->b=false)->Below w w w'->(∀(j:Nat) (oj:Oper) (dj:Nat),ops[j]? =Y oj->oj.dst=Y dj->dep .any ops i j=true->F b j (a dj V) w') →
   (∀s,(∀(i:Nat) (o:Oper),ops[i]? =Y o->o.dst≠Y s)->a s V=a0 s V)->a.tmps.size=n →
   Region.wanted o (yielded ops a.tmps)=true/\o.dst≠Z/\Oper.wp P o a w' (fun a' w''=>∃v,a'=a.put o.dst v/\F b i v w''/\Below w' w' w''/\(B i=true->∃p,bk v=Y p/\w'<=p/\p<w''.heap.size)/\(∀c∈C,c.1=i->∀(o':Oper) (d':Nat),ops[c.2]? =Y o'->o'.dst=Y d'->v=g i (a.tmps.getD d' V))) Q)
  (AB:∀(o:Oper),ops[m]? =Y o->∀(l:Nat->Bool) (a:Act) (w':δ),(∀j,dep .any ops m j=true->l j=true)->l m=false->StU bk C g ops m F B a0 w l a w'->Region.wanted o (yielded ops a.tmps)=true/\Oper.wp P o a w' (fun a' w''=>a'=a.put o.dst V/\Below w w w''/\w'<=w''.heap.size ∧
   ∀(i:Nat) (oi:Oper) (di:Nat),ops[i]? =Y oi->oi.dst=Y di->l i=true->F true i (a di V) w'') Q)
  (cZ:∀(a:Act) (w':δ),a.tmps.size=n->a.defers=a0.defers->(∀(i:Nat) (o:Oper) (d:Nat),ops[i]? =Y o->o.dst=Y d->F true i (a d V) w') →
   (∀s,(∀(i:Nat) (o:Oper),ops[i]? =Y o->o.dst≠Y s)->a s V=a0 s V)->Below w w w'->Q .normal a w') :
  (Code.region id ops true).wp P Q a0 w:=by
 have lQ:=qbq hd;refine qdc hm lP (fun l a w'=>StU bk C g ops m F B a0 w l a w') ?_ ?_ ?_
 ·exact⟨fun i h=>absurd h Bool.false_ne_true,rfl,rfl,fun _ _ _ _ _ h=>absurd h Bool.false_ne_true,fun _ _=>rfl,qb (Below.refl _ w) 1,fun _ _ _ _ _ h=>absurd h Bool.false_ne_true,fun _ _ _ _ _ _ _ _ _ _ h=>absurd h Bool.false_ne_true,fun _ _ h=>absurd h Bool.false_ne_true⟩
 ·intro i o ho l a w' jA aK ag;have dF:∀j,(fun j=>j == i || l j) j=true->∀k,dep .any ops j k=true->(fun j=>j == i || l j) k=true:=fun j hj k hk=>by
   simp only [Bool.or_eq_true,beq_iff_eq]at hj ⊢;rcases hj with rfl|hj
   ·exact .inr (aK k hk)
   ·exact .inr (ag.cl j hj k hk)
  have ij:∀j,j≠i->(j == i || l j)=true->l j=true:=fun j aH cy=>by
   have:(j == i)=false:=by simpa using aH
   rwa [this,Bool.false_or]at cy
  by_cases aD:i=m
  ·subst aD;obtain⟨hw,fB⟩:=AB o ho l a w' aK jA ag;refine⟨hw,Oper.wp_mono (fun a' w'' hx=>?_) fB⟩;obtain⟨rfl,bX,hsz,BP⟩:=hx;have dw:o.dst=none:=by rw[ho]at A6;exact A6
   rw[dw];have ne:∀j (oj:Oper) dj,ops[j]? =Y oj->oj.dst=Y dj->j≠i:=fun j oj dj hj ar e=>by
    subst e;rw[ho]at hj;injection hj with hj;subst hj
    rw[dw]at ar;cases ar
   have lJ:(i == i || l i)=true:=by simp
   refine⟨dF,ag.sz,ag.df,fun j oj dj hj ar cy=>?_,ag.base,bX,fun j oj dj hj ar cy hB=>?_,fun j oj dj k ok dk hj ar hk bN cy eh pw px ah=>?_,fun c ej E5 oj dj ok dk hj ar hk bN=>?_⟩
   ·simp only [lJ];exact BP j oj dj hj ar (ij j (ne j oj dj hj ar) cy)
   ·obtain⟨p,h1,h2⟩:=ag.box j oj dj hj ar (ij j (ne j oj dj hj ar) cy) hB;exact⟨p,h1,gz h2 hsz⟩
   ·exact ag.apart j oj dj k ok dk hj ar hk bN (ij j (ne j oj dj hj ar) cy) (ij k (ne k ok dk hk bN) eh) pw px ah
   ·exact ag.copy c ej (ij c.1 (ne c.1 oj dj hj ar) E5) oj dj ok dk hj ar hk bN
  ·obtain⟨hw,kD,fB⟩:=dq i o ho aD (l m) a w' (fun h=>aK m h) (fun h=>by
    cases bW:l m with
    |false=>rfl
    |true =>have:=ag.cl m bW i h;rw[jA]at this;cases this) ag.below (fun j oj dj hj ar qI=>ag.fact j oj dj hj ar (aK j qI)) ag.base (ag.sz.trans hn)
   refine⟨hw,Oper.wp_mono (fun a' w'' hx=>?_) fB⟩;obtain⟨v,rfl,hv,ni,fF,uf⟩:=hx;obtain⟨d,dw⟩:=Option.ne_none_iff_exists'.1 kD;obtain⟨iZ,nN⟩:=lQ i o d ho dw;rw[dw];have bW:(m == i || l m)=l m:=by
    have:(m == i)=false:=by simpa using fun e:m=i=>aD e.symm
    rw[this,Bool.false_or]
   have old:∀j (oj:Oper) dj,ops[j]? =Y oj->oj.dst=Y dj->j≠i->(a.put (Y d) v).tmps.getD dj V=a dj undef:=fun j oj dj hj ar aH=>by rw[q3s,if_neg (fun e=>nN j oj hj aH (by rw[ar,e.1]))]
   have new:(a.put (Y d) v).tmps.getD d V=v:=by rw[q3s,if_pos ⟨rfl,by rw[ag.sz,hn];exact iZ⟩]
   have same:∀(oj:Oper) dj,ops[i]? =Y oj->oj.dst=Y dj->dj=d:=fun oj dj hj ar=>by
    rw[ho]at hj;injection hj with hj;subst hj
    rw[dw]at ar;injection ar with ar;exact ar.symm
   refine⟨dF,by show (a.tmps.setIfInBounds d v).size=_;simpa using ag.sz,ag.df,fun j oj dj hj ar cy=>?_,fun s hs=>?_,(btr ag.below ni),fun j oj dj hj ar cy hB=>?_,fun j oj dj k ok dk hj ar hk bN cy eh pw px ah=>?_,fun c ej E5 oj dj ok dk hj ar hk bN=>?_⟩
   ·simp only [bW];by_cases aH:j=i
    ·subst aH;rw[same oj dj hj ar,new];exact hv
    ·rw[old j oj dj hj ar aH];exact hF _ _ _ _ _ (ag.fact j oj dj hj ar (ij j aH cy)) ni
   ·rw[q3s,if_neg (fun e=>hs i o ho (by rw[dw,e.1]))];exact ag.base s hs
   ·by_cases aH:j=i
    ·subst aH;obtain⟨p,h3,_,h4⟩:=fF hB;exact⟨p,by rw[same oj dj hj ar,new];exact h3,h4⟩
    ·obtain⟨p,h3,h4⟩:=ag.box j oj dj hj ar (ij j aH cy) hB;exact⟨p,by rw[old j oj dj hj ar aH];exact h3,gz h4 ni.size⟩
   ·by_cases aH:j=i
    ·subst aH;have eO:k≠j:=fun e=>ah e.symm
     obtain⟨p,h3,h5,_⟩:=fF pw;obtain⟨q,h6,h7⟩:=ag.box k ok dk hk bN (ij k eO eh) px;rw[same oj dj hj ar,new,old k ok dk hk bN eO,h3,h6];intro e;injection e with e;omega
    ·by_cases eO:k=i
     ·subst eO;obtain⟨p,h3,h5,_⟩:=fF px;obtain⟨q,h6,h7⟩:=ag.box j oj dj hj ar (ij j aH cy) pw;rw[same ok dk hk bN,new,old j oj dj hj ar aH,h3,h6];intro e;injection e with e;omega
     ·rw[old j oj dj hj ar aH,old k ok dk hk bN eO];exact ag.apart j oj dj k ok dk hj ar hk bN (ij j aH cy) (ij k eO eh) pw px ah
   ·have uA:dep .any ops c.1 c.2=true:=gE.1 hC c ej;by_cases aH:c.1=i
    ·have A2:c.2≠i:=fun e=>by have:=aK c.2 (aH ▸ uA);rw[e,jA]at this;cases this
     rw[old c.2 ok dk hk bN A2,same oj dj (aH ▸ hj) ar,new,aH];exact uf c ej aH ok dk hk bN
    ·have oT:=ij c.1 aH E5;have A2:c.2≠i:=fun e=>by have:=ag.cl c.1 oT c.2 uA;rw[e,jA]at this;cases this
     rw[old c.2 ok dk hk bN A2,old c.1 oj dj hj ar aH];exact ag.copy c ej oT oj dj ok dk hj ar hk bN
 ·intro l a w' ao ag;have bW:=ao m D8;refine cZ a w' (ag.sz.trans hn) ag.df (fun i o d ho dw=>?_) ag.base ag.below;have:=ag.fact i o d ho dw (ao i (gh.1 ho).1)
  rwa [bW]at this
end Go.Cx
namespace Go.Proofs.YtmkpbhaoalbhjaaGreatDoor
open Go.RowKit Go.Cx
attribute [local go_sem ↓] Go.wp_at_zero Go.wp_at_succ
def bkT:ε->Option Nat
 | σ (Y ad)=>Y ad.block
 | ψ a=>match (a[0]? : Option ε)with
  |some (I b)=>match (b[3]? : Option ε)with
   |some (O (Y ad) _ _)=>Y ad.block
   |_=>Z
  |_=>Z
 |_=>Z
def gT (i:Nat)(v:ε):Value:=if i=9 then match v with | ψ a=>a.getD 0 V|_=>V else v
def qbi (K:List Cl)(d:Int):List Int:=(List.range (nId K (d-1)*nId K d)).map fun t=>qac K d (t / nId K d) (t%nId K d)
theorem qft {p:Int}{K:List Cl}{d:Int}(hp:prN p.toNat=true):hK p K d<=nId K d:=by have ng:=(yi.1 hp).1;have h1:=(q0s (by omega) (q0u (q9f K d hp).1 (qbp K d (p:=p) (by omega)))).2.1;unfold hK qaw qg2;rw[gp];exact gd (gY _ _) h1
theorem qvv (n:Int)(w:δ):Calls Tryz.prog 56 #[n] w fun e w'=>e=.returned (τ (!(n == 0)))/\Below w w w':=by
 go_enter Tryz.func56,Tryz.ntmps56;by_cases h1:n=0
 ·subst h1;go_wp2;go_ret;exact⟨rfl,q9⟩
 ·go_wp2;go_ret;exact⟨rfl,q9⟩
theorem qlr {w:δ}{v x:ε}{K:List Cl}{p:Int}{m:Nat}{Bd:List (List Int)}(d:Int)(h:Kx w v K)(hE:FmV w x p (nId K d) m Bd)(hp:prI p=true)(hd : -900<=d/\d<=900)(hn:∀d,nId K d<=100)(hm:m<=200)(hs:(qia p K d m Bd).isSome=true) :
  Calls Tryz.prog 30 #[v,H φ d,x] w fun e w'=>(∃y X,e=.returned (ψ #[y,τ true])/\qia p K d m Bd=Y X/\FmO w w' y p (hK p K d) m X)/\Below w w w':=by
 obtain⟨a,an,ac,rfl⟩:=h.shape;obtain⟨u,rfl,hu,hF⟩:=hE;obtain⟨ea,en,ec,rfl⟩:=qg hu;obtain⟨hz,X,hX⟩:=qoh (vm hp).2.2 hF hs;have PR:=jg hz hX;clear hz hX hs;obtain⟨r,hr⟩:=x4 (nId K d);rw[<-hr]at hF ⊢;have ir:r<=100:=by rw[hr];exact hn d
 have HH:=kp h hu hF hp hn hr;clear h hu hF hp hn hr;go_enter Tryz.func30,Tryz.ntmps30;go_wp2_with fail;obtain⟨W,hW⟩:=x4 (((w.alloc (.cells #[O a an ac] 36)).alloc (.cells #[p,r,m,O ea en ec] 30)).alloc (.cells #[H φ 0,H φ 0,H φ 0,O Z 0 0] 30));rw[<-hW];have hw:Below w w W:=by rw[hW];exact(((q9).alloc (nlr _) _).alloc (by simp) _).alloc (by simp;omega) _
 have aG:W.heap.size=w+3:=by rw[hW];simp
 have b3:W w=O a an ac:=by rw[hW];exact qk (qk (xz w _ _ 0 rfl) _) _
 have b5:∀(i:Nat) (x:ε),(#[p,r,m,O ea en ec] : Array ε)[i]? =Y x->W ⟨w+1,i,Z⟩=Y x:=fun i x hx=>by rw[hW];exact qk (zx w _ _ _ i hx) _
 have r6:∀(i:Nat) (x:ε),(#[H φ 0,H φ 0,H φ 0,O Z 0 0] : Array ε)[i]? =Y x->W ⟨w+1+1,i,Z⟩=Y x:=fun i x hx=>by rw[hW];exact jw w _ _ _ _ i hx
 have f6:∀i,W.frozen? ⟨w+1+1,i,Z⟩=false:=fun i=>by rw[hW];exact q1e w _ _ _ _ i
 obtain⟨s5,iB⟩:=x4 (w.heap.size+1);obtain⟨s6,cW⟩:=x4 (w.heap.size+1+1);rw[<-iB]at b5;rw[<-cW]at r6 f6;rw[<-cW,<-iB];have e0:=b5 0 _ rfl;have e1:=b5 1 _ rfl;have e2:=b5 2 _ rfl;have e3:=b5 3 _ rfl;have fj:okM p r m Bd.flatten=true:=q3d HH.a3 HH.a2 (by omega) (by omega);have HW:=kp r6 f6 hw aG iB cW;have pE:=lhd (HH.out.1.keep hw);have I9:=jg (HH.a1.keep hw) fj;clear r6 f6 hw aG hW iB cW fj b5;have pN:∀w',Below W W w'->(Instr.loadAt 36 (σ w)).run Tryz.prog w'=.ok (I #[O a an ac]) w':=fun w' hb=>by have:=J hb b3;simp[go_sem,this]
 have sN:∀w',Below W W w'->(Instr.loadAt 30 (σ s5)).run Tryz.prog w'=.ok (I #[p,r,m,O ea en ec]) w':=fun w' hb=>by have g0:=J hb e0;have g1:=J hb e1;have g2:=J hb e2;have g3:=J hb e3;simp[go_sem,g0,g1,g2,g3]
 have EX:∀w',Below W W w'->(Instr.loadAt 3 (σ (Y ⟨s5,1,Z⟩))).run Tryz.prog w'=.ok r w':=fun w' hb=>qe0 _ _ _ (J hb e1)
 refine qp4 fun KO cD=>?_
 go_cut [31]from 15 to 30 (fun x wx=>x=τ false/\Hid (Below W W wx))
 case first =>
  rename_i At K2 hJ aQ;refine q0m rfl (fun i v w'=>match i with
   |0=>v=I #[O a an ac]
   |1=>v=τ true
   |2=>v=τ false
   |3=>v=τ false
   |4=>v=I #[p,r,m,O ea en ec]
   |5=>v=τ true
   |6=>v=τ false
   |7=>v=τ false
   |8=>v=τ false
   |9=>v=σ (Y ⟨s5,1,Z⟩)
   |10=>v=r
   |11=>v=I #[O a an ac]
   |12=>v=d
   |13=>∃b1 b2,v=O b1 r b2
   |14=>v=r
   |15=>v=τ false
   |16=>v=τ false
   |_=>True) 90 rfl (by kernel_rfl) (by kernel_rfl) ?keep ?step ?done
  case keep =>
   intro i v w1 w2 h hb
   match i,h with
   |0,h=>exact h
   |1,h=>exact h
   |2,h=>exact h
   |3,h=>exact h
   |4,h=>exact h
   |5,h=>exact h
   |6,h=>exact h
   |7,h=>exact h
   |8,h=>exact h
   |9,h=>exact h
   |10,h=>exact h
   |11,h=>exact h
   |12,h=>exact h
   |13,h=>exact h
   |14,h=>exact h
   |15,h=>exact h
   |16,h=>exact h
   |i+17,h=>trivial
  case step =>
   intro i o ho b w' hw hd ab hsz
   match i,ho,hd with
   |0,rfl,_ =>exact⟨rfl,q8o _ _ rfl _ (zr qu ab 3) _ (pN w' hw) ⟨_,rfl,rfl,q9⟩⟩
   |1,rfl,hd =>
    have g15:b 15 V=I #[O a an ac]:=(zf hd 0)
    exact⟨rfl,qdj _ _ _ rfl (fun _ _=>rfl) #[I #[O a an ac]] (by rw[<-g15];simp[Act.eval]) ((qad (pE.out.keep hw) HH.a4).mono fun e w2 ⟨h1,h2⟩=>⟨_,h1,_,rfl,rfl,h2⟩)⟩
   |2,rfl,hd =>exact⟨rfl,q3g _ _ _ rfl _ (zf hd 1) _ rfl ⟨_,rfl,rfl,q9⟩⟩
   |3,rfl,hd =>exact⟨rfl,q1b _ (.inl rfl) ⟨_,rfl,(zf hd 2),q9⟩⟩
   |4,rfl,hd =>exact⟨gwf 3 18 (zf hd 3),q8o _ _ rfl _ (zr qu ab 5) _ (sN w' hw) ⟨_,rfl,rfl,q9⟩⟩
   |5,rfl,hd =>
    have g19:b 19 V=I #[p,r,m,O ea en ec]:=(zf hd 4)
    exact⟨gwf 3 18 (zf hd 3),qdj _ _ _ rfl (fun _ _=>rfl) #[I #[p,r,m,O ea en ec]] (by rw[<-g19];simp[Act.eval]) ((q8x p r m _ _ w' (I9.out.1.keep hw)).mono fun e w2 ⟨h1,h2⟩=>⟨τ true,by rw[h1,I9.out.2],_,rfl,rfl,h2⟩)⟩
   |6,rfl,hd =>exact⟨gwf 3 18 (zf hd 3),q3g _ _ _ rfl _ (zf hd 5) _ rfl ⟨_,rfl,rfl,q9⟩⟩
   |7,rfl,hd =>exact⟨rfl,q29 _ _ _ rfl (zf hd 3) ⟨_,rfl,(zf hd 6),q9⟩⟩
   |8,rfl,hd =>exact⟨rfl,q1b _ (.inl rfl) ⟨_,rfl,(zf hd 7),q9⟩⟩
   |9,rfl,hd =>exact⟨gwf 8 23 (zf hd 8),q8b _ _ _ rfl _ (zr qu ab 5) _ (jv w' _ 1 (by decide)) ⟨_,rfl,rfl,q9⟩⟩
   |10,rfl,hd =>exact⟨gwf 8 23 (zf hd 8),q8o _ _ rfl _ (zf hd 9) _ (EX w' hw) ⟨_,rfl,rfl,q9⟩⟩
   |11,rfl,hd =>exact⟨gwf 8 23 (zf hd 8),q8o _ _ rfl _ (zr qu ab 3) _ (pN w' hw) ⟨_,rfl,rfl,q9⟩⟩
   |12,rfl,hd =>exact⟨gwf 8 23 (zf hd 8),q1b _ (.inl rfl) ⟨_,rfl,(zr qu ab 1),q9⟩⟩
   |13,rfl,hd =>
    have LC:b 26 V=I #[O a an ac]:=(zf hd 11)
    have U8:b 27 V=d:=(zf hd 12)
    exact⟨gwf 8 23 (zf hd 8),qdj _ _ _ rfl (fun _ _=>rfl) #[I #[O a an ac],d] (by rw[<-LC,<-U8];simp[Act.eval]) ((qbb (pE.out.keep hw) d).mono fun e w2 ⟨x,h1,h2,h3⟩=>⟨x,h1,x,rfl,(by rw[HH.b5];exact qj h2),h3⟩)⟩
   |14,rfl,hd =>obtain⟨b1,b2,LD⟩:∃b1 b2,b 28 V=O b1 r b2:=zf hd 13;exact⟨gwf 8 23 (zf hd 8),qi5 _ rfl rfl _ _ _ LD ⟨_,rfl,rfl,q9⟩⟩
   |15,rfl,hd =>exact⟨gwf 8 23 (zf hd 8),qnf _ _ _ _ _ rfl _ _ (zf hd 10) (zf hd 14) _ rfl (qlk _ _) ⟨_,rfl,rfl,q9⟩⟩
   |16,rfl,hd =>exact⟨rfl,q29 _ _ _ rfl (zf hd 8) ⟨_,rfl,(zf hd 15),q9⟩⟩
   |i+17,ho,hd =>have:i+17<17:=(gh.1 ho).1;omega
  case done =>intro b w2 hsz aO hf ab hw;have U9:b 31 V=τ false:=hf 16 _ _ rfl rfl;refine aQ _ _ (Met.intro (hJ _ _ ⟨b 15 V,b 16 V,b 17 V,b 18 V,b 19 V,b 20 V,b 21 V,b 22 V,b 23 V,b 24 V,b 25 V,b 26 V,b 27 V,b 28 V,b 29 V,b 30 V,b 31 V,⟨U9,(lhd hw)⟩,(q8z hsz aO ab).trans ?_⟩));kernel_rfl
 case rest =>
  obtain⟨rfl,cX⟩:=hcut;refine cD _ _ ?_;have EY:∀w',Below wc wc w'->(Instr.loadAt 3 (σ s5)).run Tryz.prog w'=.ok p w':=fun w' hb=>qe0 _ _ _ (J hb (J cX.out e0))
  replace pN:=fun w' (hb:Below wc wc w')=>pN w' ((btr cX.out hb))
  replace sN:=fun w' (hb:Below wc wc w')=>sN w' ((btr cX.out hb))
  have sO:∀w',Below wc wc w'->Calls Tryz.prog 37 #[I #[O a an ac],d] w' fun e w2=>∃s,e=.returned (I #[(nId K (d-1):Nat),r,s])/\Sl w2 2 s (wvs (qbi K d))/\Below w' w' w2:=fun w' hb=>by rw[HH.b5];exact q6x ((pE.out.keep cX.out).keep hb) d (by omega) (gd (HH.a4 _) (by decide)) (gd (HH.a4 _) (by decide))
  have sP:∀(w':δ) (s:ε),Sl w' 2 s (wvs (qbi K d))->Calls Tryz.prog 36 #[p,I #[(nId K (d-1):Nat),r,s]] w' fun e w2=>∃x,e=.returned x/\FmV w2 x p (nId K (d-1)) r (bdP p K d)/\Below w' w' w2:=fun w' s hs=>by rw[HH.b5];refine qfo hs (qav (vm HH.a3).1 K d) (q6y p K d) (fun x hx=>?_) HH.a3 (gd (HH.a4 _) (by decide)) (gd (HH.a4 _) (by decide));obtain⟨t,_,rfl⟩:=gj.1 hx;have h1:=qdv HH.out.1.q1v ((q04 K d).getD (t%nId K d) 0) ((q04 K (d-1)).getD (t / nId K d) 0);have h2:=(vm HH.a3).2.1;unfold qac;omega
  have sQ:∀(w':δ) (y:ε),Below wc wc w'->FmV w' y p (nId K (d-1)) r (bdP p K d)->Calls Tryz.prog 16 #[y,I #[p,r,m,O ea en ec]] w' fun e w2=>∃z,e=.returned (ψ #[z,τ true])/\FmV w2 z p (nId K (d-1)) m (mulM p m (bdP p K d) Bd)/\Below w' w' w2/\∃q,bkT (ψ #[z,τ true])=Y q/\w'<=q/\q<w2:=fun w' y hb hy=>by obtain⟨s,rfl,hs,hF⟩:=hy;refine(qom p _ r m s _ _ Bd w' hs ((I9.out.1.keep cX.out).keep hb) HH.a3 hF HH.a2 (gd (HH.a4 _) (by decide)) (by omega) (by omega)).mono ?_;rintro e w2 ⟨E,rfl,h1,h2,h3,h4⟩;exact⟨_,rfl,qbh h3 (q4t (vm HH.a3).1 hF) (gd (HH.a4 _) (by decide)) (by omega),h4,E,rfl,h1,h2⟩
  go_upto_region 3 with fail
  go_cut [8,9]from 33 to 43 (fun x y wx=>∃(q:Nat) (s:ε),x=σ q/\y=τ true/\Hid (wx ⟨q,3,Z⟩=Y s/\Sl wx 1 s (ints (mulM p m (bdP p K d) Bd).flatten)/\Below wc wc wx))
  case first =>
   rename_i At K2 hJ aQ;refine vf rfl (fun b i v w'=>match b,i with
    |false,0=>v=σ s5
    |false,1=>v=p
    |false,2=>v=I #[O a an ac]
    |false,3=>v=d
    |false,4=>∃s,v=I #[(nId K (d-1):Nat),r,s]/\Sl w' 2 s (wvs (qbi K d))
    |false,5=>FmV w' v p (nId K (d-1)) r (bdP p K d)
    |false,6=>v=I #[p,r,m,O ea en ec]
    |false,7=>∃y,v=ψ #[y,τ true]/\FmV w' y p (nId K (d-1)) m (mulM p m (bdP p K d) Bd)
    |false,8=>∃y,v=ψ #[y,τ true]/\FmV w' y p (nId K (d-1)) m (mulM p m (bdP p K d) Bd)
    |false,9=>FmV w' v p (nId K (d-1)) m (mulM p m (bdP p K d) Bd)
    |false,10=>v=τ true
    |false,11=>q6r v w'/\∃q,v=σ (Y ⟨q,0,Z⟩)/\wc<=q
    |true,8=>∃y,v=ψ #[y,τ true]
    |true,10=>v=τ true
    |true,11=>∃q s,v=σ (Y ⟨q,0,Z⟩)/\w' ⟨q,3,Z⟩=Y s/\Sl w' 1 s (ints (mulM p m (bdP p K d) Bd).flatten)
    |true,13=>v=τ true
    |_,_=>True) (fun i=>i == 7 || i == 11) bkT [(8,7),(9,8)] gT (by kernel_rfl) 12 90 rfl (by kernel_rfl) (by kernel_rfl) (by decide) rfl ?keep ?step ?store ?done
   case keep =>
    intro b i v w1 w2 h hb
    match b,i,h with
    |false,0,h=>exact h
    |false,1,h=>exact h
    |false,2,h=>exact h
    |false,3,h=>exact h
    |false,4,⟨s,h1,h2⟩=>exact⟨s,h1,h2.keep hb⟩
    |false,5,h=>exact h.keep hb
    |false,6,h=>exact h
    |false,7,⟨y,h1,h2⟩=>exact⟨y,h1,h2.keep hb⟩
    |false,8,⟨y,h1,h2⟩=>exact⟨y,h1,h2.keep hb⟩
    |false,9,h=>exact h.keep hb
    |false,10,h=>exact h
    |false,11,⟨h1,h2⟩=>exact⟨h1.keep hb,h2⟩
    |false,i+12,h=>trivial
    |true,0,h=>trivial
    |true,1,h=>trivial
    |true,2,h=>trivial
    |true,3,h=>trivial
    |true,4,h=>trivial
    |true,5,h=>trivial
    |true,6,h=>trivial
    |true,7,h=>trivial
    |true,8,h=>exact h
    |true,9,h=>trivial
    |true,10,h=>exact h
    |true,11,⟨q,s,h1,h2,h3⟩=>exact⟨q,s,h1,J hb h2,h3.keep hb⟩
    |true,12,h=>trivial
    |true,13,h=>exact h
    |true,i+14,h=>trivial
   case step =>
    intro i o ho aD ph b w' bU hbf hw hd ab hsz
    match i,ho,aD,bU,hbf,hd with
    |0,rfl,_,_,hbf,_ =>obtain rfl:=jb hbf;exact yb rfl (zr qu ab 5) (jv w' _ 0 (by decide)) ⟨_,rfl,rfl,j7 q9 rfl rfl⟩
    |1,rfl,_,_,hbf,hd =>obtain rfl:=jb hbf;exact jm rfl (zf hd 0) (EY w' hw) ⟨_,rfl,rfl,j7 q9 rfl rfl⟩
    |2,rfl,_,_,hbf,_ =>obtain rfl:=jb hbf;exact jm rfl (zr qu ab 3) (pN w' hw) ⟨_,rfl,rfl,j7 q9 rfl rfl⟩
    |3,rfl,_,_,hbf,_ =>obtain rfl:=jb hbf;exact jo (.inl rfl) ⟨_,rfl,(zr qu ab 1),j7 q9 rfl rfl⟩
    |4,rfl,_,_,hbf,hd =>
     obtain rfl:=jb hbf;have EM:b 36 V=I #[O a an ac]:=(zf hd 2)
     have UA:b 37 V=d:=(zf hd 3)
     exact q0e rfl #[I #[O a an ac],d] (by rw[<-EM,<-UA];simp[Act.eval]) ((sO w' hw).mono fun e w2 ⟨s,h1,h2,h3⟩=>⟨_,h1,_,rfl,⟨s,rfl,h2⟩,j7 h3 rfl rfl⟩)
    |5,rfl,_,_,hbf,hd =>
     obtain rfl:=jb hbf;obtain⟨s4,LF,LG⟩:∃s,b 38 V=I #[(nId K (d-1):Nat),r,s]/\Sl w' 2 s (wvs (qbi K d)):=zf hd 4;have L4:b 35 V=p:=(zf hd 1)
     have UB:b 38 V=I #[(nId K (d-1):Nat),r,s4]:=LF;exact q0e rfl #[p,I #[(nId K (d-1):Nat),r,s4]] (by rw[<-L4,<-UB];simp[Act.eval]) ((sP w' s4 LG).mono fun e w2 ⟨x,h1,h2,h3⟩=>⟨_,h1,_,rfl,h2,j7 h3 rfl rfl⟩)
    |6,rfl,_,_,hbf,_ =>obtain rfl:=jb hbf;exact jm rfl (zr qu ab 5) (sN w' hw) ⟨_,rfl,rfl,j7 q9 rfl rfl⟩
    |7,rfl,_,_,hbf,hd =>
     obtain rfl:=jb hbf;have f39:FmV w' (b 39 V) p (nId K (d-1)) r (bdP p K d):=zf hd 5;have LH:b 40 V=I #[p,r,m,O ea en ec]:=(zf hd 6)
     exact q0e rfl #[b 39 V,I #[p,r,m,O ea en ec]] (by rw[<-LH];simp[Act.eval]) ((sQ w' _ hw f39).mono fun e w2 ⟨y,h1,h2,h3,h4⟩=>⟨_,h1,_,rfl,⟨y,rfl,h2⟩,h3,fun _=>h4,fun c hc h=>absurd h ((by decide:∀c∈([(8,7),(9,8)] : List (Nat×Nat)),c.1≠7) c hc)⟩)
    |8,rfl,_,_,hbf,hd =>obtain rfl:=jb hbf;exact jo (.inl rfl) ⟨_,rfl,(zf hd 7),q9,fun h=>absurd h (by decide),fun c hc h=>by obtain rfl:c=(8,7):=(by decide:∀c∈([(8,7),(9,8)] : List (Nat×Nat)),c.1=8->c=(8,7)) c hc h;intro o' d' ik eT;obtain rfl:=osi ik;obtain rfl:=osi eT;rfl⟩
    |9,rfl,_,_,hbf,hd =>obtain rfl:=jb hbf;obtain⟨y,f33,fy⟩:∃y,b 33 V=ψ #[y,τ true]/\FmV w' y p (nId K (d-1)) m (mulM p m (bdP p K d) Bd):=zf hd 8;exact q85 rfl f33 rfl ⟨_,rfl,fy,q9,fun h=>absurd h (by decide),fun c hc h=>by obtain rfl:c=(9,8):=(by decide:∀c∈([(8,7),(9,8)] : List (Nat×Nat)),c.1=9->c=(9,8)) c hc h;intro o' d' ik eT;obtain rfl:=osi ik;obtain rfl:=osi eT;(show _=gT 9 (b 33 V));rw[f33];rfl⟩
    |10,rfl,_,_,_,hd =>
     have f33:∃y,b 33 V=ψ #[y,τ true]:=by
      cases ph with
      |false=>obtain⟨y,h1,h2⟩:∃y,b 33 V=ψ #[y,τ true]/\FmV w' y p (nId K (d-1)) m (mulM p m (bdP p K d) Bd):=zf hd 8;exact⟨y,h1⟩
      |true=>exact zf hd 8
     obtain⟨y,f33⟩:=f33;exact q85 rfl f33 rfl ⟨_,rfl,(by cases ph <;> rfl),j7 q9 rfl rfl⟩
    |11,rfl,_,_,hbf,_ =>obtain rfl:=jb hbf;exact⟨rfl,gu _,vt _ rfl _ _ (q07 _) ⟨_,rfl,⟨q4h _,_,rfl,hw.size⟩,(q9).alloc (nlr _) _,(fun _=>⟨_,rfl,nlr _,by simp⟩),fun c hc h=>absurd h ((by decide:∀c∈([(8,7),(9,8)] : List (Nat×Nat)),c.1≠11) c hc)⟩⟩
    |12,ho,aD,bU,hbf,hd=>exact absurd rfl aD
    |13,rfl,_,bU,_,hd =>obtain rfl:=jb bU;have f43:b 43 V=τ true:=zf hd 10;exact jo (.inr rfl) ⟨_,rfl,f43,j7 q9 rfl rfl⟩
    |i+14,ho,aD,bU,hbf,hd =>have:i+14<14:=(gh.1 ho).1;omega
   case store =>
    intro o ho l b w' aP bW ag;obtain rfl:=osi ho;have f8:q6r (b 8 V) w'/\∃q,b 8 V=σ (Y ⟨q,0,Z⟩)/\wc<=q:=by have h1:=ag.fact 11 _ _ rfl rfl (aP 11 (by kernel_rfl));rw[bW]at h1;exact h1
    have f42:FmV w' (b 42 V) p (nId K (d-1)) m (mulM p m (bdP p K d) Bd):=by have h1:=ag.fact 9 _ _ rfl rfl (aP 9 (by kernel_rfl));rw[bW]at h1;exact h1
    have f33:∃y,b 33 V=ψ #[y,τ true]/\FmV w' y p (nId K (d-1)) m (mulM p m (bdP p K d) Bd):=by have h1:=ag.fact 8 _ _ rfl rfl (aP 8 (by kernel_rfl));rw[bW]at h1;exact h1
    have fD:=ag.apart 7 _ 41 11 _ 8 rfl rfl rfl rfl (aP 7 (by kernel_rfl)) (aP 11 (by kernel_rfl)) rfl rfl (by decide);have fx:b 33 V=gT 8 (b 41 V):=ag.copy (8,7) (by simp) (aP 8 (by kernel_rfl)) _ _ _ _ rfl rfl rfl rfl;have fO:b 42 V=gT 9 (b 33 V):=ag.copy (9,8) (by simp) (aP 9 (by kernel_rfl)) _ _ _ _ rfl rfl rfl rfl;obtain⟨y,f33,_⟩:=f33;have UC:b 41 V=ψ #[y,τ true]:=fx.symm.trans f33;have PS:b 42 V=y:=by rw[fO,f33];rfl
    rw[PS]at f42;obtain⟨s,rfl,hs,hF⟩:=f42;obtain⟨so,sn,sc,rfl⟩:=qg hs;obtain⟨⟨q,e8,hq,q0,q1,q2,q3,hz⟩,q',PT,dA⟩:=f8;have iW:q'=q:=by rw[e8]at PT;injection PT with e;injection e with e;injection e with e;exact e.symm
    rw[iW]at dA;rw[UC,e8]at fD;have ah:∀ad n c,O so sn sc=O (Y ad) n c->ad.block≠q:=fun ad n c e h=>by
     injection e with e;subst e
     exact fD (by show Y ad.block=Y q;rw[h])
    have z0:=hz 0;have z1:=hz 1;have z2:=hz 2;have z3:=hz 3;obtain⟨t0,t1,t2,t3⟩:=q1f q0 q1 q2 q3;refine⟨rfl,ju _ _ _ rfl _ _ e8 PS (vx q0 q1 q2 q3 hz) ⟨rfl,?_,by simp,fun i oi di hi eI hl=>?_⟩⟩
    ·exact jj ag.below dA _ _ _ _
    ·have h1:=ag.fact i oi di hi eI hl;rw[bW]at h1
     match i,hi,hl,h1 with
     |8,hi,hl,⟨y,h1,_⟩=>exact⟨y,h1⟩
     |10,hi,hl,h1=>exact h1
     |11,hi,hl,h1 =>obtain rfl:=osi hi;obtain rfl:=osi eI;rw[e8];refine⟨q,_,rfl,t3 _ _ _ _,?_⟩;exact y8 (y8 (y8 (y8 hs _ _ ah) _ _ ah) _ _ ah) _ _ ah
     |13,hi,hl,h1=>have h2:=ag.cl 13 hl 12 (by kernel_rfl);rw[bW]at h2;cases h2
     |0,hi,hl,h1=>trivial
     |1,hi,hl,h1=>trivial
     |2,hi,hl,h1=>trivial
     |3,hi,hl,h1=>trivial
     |4,hi,hl,h1=>trivial
     |5,hi,hl,h1=>trivial
     |6,hi,hl,h1=>trivial
     |7,hi,hl,h1=>trivial
     |9,hi,hl,h1=>trivial
     |12,hi,hl,h1=>trivial
     |i+14,hi,hl,h1=>trivial
   case done =>intro b w2 hsz aO hf ab hw;obtain⟨q,s,g8,g3,gs⟩:∃q s,b 8 V=σ (Y ⟨q,0,Z⟩)/\w2 ⟨q,3,Z⟩=Y s/\Sl w2 1 s (ints (mulM p m (bdP p K d) Bd).flatten):=hf 11 _ _ rfl rfl;have g9:b 9 V=τ true:=hf 13 _ _ rfl rfl;refine aQ _ _ (Met.intro (hJ _ _ ⟨b 8 V,b 9 V,b 33 V,b 34 V,b 35 V,b 36 V,b 37 V,b 38 V,b 39 V,b 40 V,b 41 V,b 42 V,b 43 V,⟨q,s,g8,g9,(lhd ⟨g3,gs,hw⟩)⟩,(q8z hsz aO ab).trans ?_⟩));kernel_rfl
  case rest =>
   obtain⟨q,s,rfl,rfl,H3⟩:=hcut;obtain⟨so,sn,sc,rfl⟩:=qg H3.a1;have q3:=H3.out.1;clear pN sN EY EX sO sP sQ;go_wp2_with fail;refine(ql5 _ _ 56 #[] (fun n=>!(n == 0)) _ H3.a1 (fun _ _=>rfl) (fun C1 _ t _=>qvv t C1)).mono ?_;rintro e w4 ⟨rfl,aN⟩;have EZ:(mulM p m (bdP p K d) Bd).flatten.any (fun n=>!(n == 0))=!((mulM p m (bdP p K d) Bd).flatten.all (fun n=>n == 0)):=by rw[List.not_all_eq_any_not]
   rw[EZ];clear EZ;have dx:Below W W w4:=((btr cX.out H3.b2)).trans (aN.mono (gd cX.out.size H3.b2.size));have cW:s6<W:=by rw[HW.b5,HW.a3];omega
   have z0:=(dx.cell (p:=s6) cW).trans (HW.out.1 0 _ rfl);have z1:=(dx.cell (p:=⟨s6,1,Z⟩) cW).trans (HW.out.1 1 _ rfl);have z2:=(dx.cell (p:=⟨s6,2,Z⟩) cW).trans (HW.out.1 2 _ rfl);have z3:=(dx.cell (p:=⟨s6,3,Z⟩) cW).trans (HW.out.1 3 _ rfl);have y0:=(dx.frozen (p:=s6) cW).trans (HW.a1 0);have y1:=(dx.frozen (p:=⟨s6,1,Z⟩) cW).trans (HW.a1 1);have y2:=(dx.frozen (p:=⟨s6,2,Z⟩) cW).trans (HW.a1 2);have y3:=(dx.frozen (p:=⟨s6,3,Z⟩) cW).trans (HW.a1 3);have jF:=lhd dx;clear dx aN cW;have hz:=PR.out.1;rw[hz];have HZ:=lhd hz;clear hz;have c3:=J jF.out b3;have AD:=J jF.out e0;have Co:=J jF.out e1;have AE:=J jF.out e2;have Cp:=J jF.out e3;go_wp2_with fail;refine(qlf (pE.out.keep jF.out) HH.a3 d hd HH.a4).mono ?_;rintro e w5 ⟨x5,y5,rfl,hx,hy,aC⟩;obtain⟨u5,rfl,Av,Cb,_⟩:=hx;obtain⟨OI,OJ,OK,rfl⟩:=qg Av;obtain⟨u6,rfl,LI,Cc,_⟩:=hy;obtain⟨UD,UE,UF,rfl⟩:=qg LI;obtain⟨hk,pO⟩:=x4 (hK p K d);obtain⟨bk,kN⟩:=x4 (bK p K d);rw[<-pO,<-HH.b5]at Cb;rw[<-kN,<-HH.b5]at Cc;rw[<-pO,<-kN,<-HH.b5];have H5:=q4q Av Cb LI Cc aC pO kN;clear Av Cb LI Cc aC pO kN c3 AD Co AE Cp;have rY:hk<=100/\bk<=100:=by have h1:=qft (K:=K) (d:=d) (vm HH.a3).2.2;have h2:=(qst K d (vm HH.a3).2.2).2;have h3:=HH.a4 d;rw[<-H5.a5]at h1;rw[<-H5.b6]at h2;omega
   have eP:=(vm HH.a3).2.2;obtain⟨hX,oJ,LJ⟩:=PR.out.2;rw[<-H5.a5,<-H5.b6]at hX oJ;rw[<-H5.a5]at LJ;have IA:=yt hX oJ LJ eP;clear hX oJ LJ eP;go_wp2_with fail;obtain⟨C1,hV⟩:=x4 ((w5.alloc (.cells #[p,r,hk,O OI OJ OK] 30)).alloc (.cells #[p,r,bk,O UD UE UF] 30));rw[<-hV];obtain⟨LK,iK⟩:=x4 w5.heap.size;rw[<-iK];have fu:Below w5 w5 C1:=by rw[hV];exact((q9).alloc (nlr _) _).alloc (by simp) _
   have v12:C1 ⟨LK,2,Z⟩=hk:=by rw[hV,iK];exact qk (xz w5 _ _ 2 rfl) _
   have PU:LK<C1.heap.size:=by rw[hV,iK];simp;omega
   have Fa:Below w4 w4 C1:=(btr H5.a4 fu);have HV:=kg v12 fu PU Fa iK;have HA:=jg (show FmV C1 _ p r hk (q24 p K d)from⟨_,rfl,H5.out.1.keep fu,H5.a1⟩) (show FmV C1 _ p r bk (q9e p K d)from⟨_,rfl,H5.a2.keep fu,H5.a3⟩);clear hV fu v12 PU Fa iK;refine(qpe HA.out.1 HA.out.2 HH.a3 (by omega) (by omega)).mono ?_;rintro e w7 ⟨x7,rfl,sI,cq⟩;obtain⟨kb,AF⟩:=x4 (hk+bk);rw[<-AF]at sI IA;obtain⟨u7,rfl,Ay,sI⟩:=sI;obtain⟨OW,OX,OY,rfl⟩:=qg Ay;have UG:kb<=200:=by omega
   have H7:=yh (show FmV w7 _ p r kb (jl (q24 p K d) (q9e p K d))from⟨_,rfl,Ay,sI⟩) cq AF;clear Ay sI cq AF;have iL:Below W W w7:=jF.out.trans (((btr HV.a3 H7.a1)).mono jF.out.size);have AD:=fun o=>qk (J iL e0) o
   have Co:=fun o=>qk (J iL e1) o
   have AE:=fun o=>qk (J iL e2) o
   have Cp:=fun o=>qk (J iL e3) o
   have PV:=lhd iL;clear iL;go_wp2_with fail;clear AD Co AE Cp;obtain⟨W7,pC⟩:=x4 (w7.alloc (.cells #[p,r,kb,O OW OX OY] 30));rw[<-pC];have cq:Below w7 w7 W7:=by rw[pC];exact(q9).alloc (nlr _) _
   have iL:Below W W W7:=(btr PV.out cq);have AG:Below C1.heap.size C1 W7:=(btr H7.a1 cq);have D7:FmV W7 (I #[p,r,m,O ea en ec]) p r m Bd:=⟨_,rfl,I9.out.1.keep iL,HH.a2⟩
   refine(qrq (H7.out.1.keep cq) D7 HH.a3 (by omega) (by omega) (by omega) IA.out.1).mono ?_;rintro e w8 ⟨E,rfl,hE,xT,_,tL,fg⟩;obtain⟨km,cd⟩:=x4 (kb*m);rw[<-cd]at xT ⊢;obtain⟨V8,Cq⟩:=x4 (w8.alloc (.cells #[p,kb,m,O E km km] 30));have AH:Below W7 W7 V8:=by rw[Cq];exact fg.alloc fg.size _
   have iM:Below W W V8:=(btr iL AH);have Fb:Below C1.heap.size C1 V8:=(btr AG AH);have AD:=J iM e0;have AE:=J iM e2;have v12:=(Fb.cell (p:=⟨LK,2,Z⟩) HV.a2).trans HV.out.1;have XF:V8 ⟨w8,3,Z⟩=O E km km:=by rw[Cq];exact xz w8 _ _ 3 rfl
   have cW:s6<W:=by rw[HW.b5,HW.a3];omega
   have z0:=(iM.cell (p:=s6) cW).trans (HW.out.1 0 _ rfl);have z1:=(iM.cell (p:=⟨s6,1,Z⟩) cW).trans (HW.out.1 1 _ rfl);have z2:=(iM.cell (p:=⟨s6,2,Z⟩) cW).trans (HW.out.1 2 _ rfl);have z3:=(iM.cell (p:=⟨s6,3,Z⟩) cW).trans (HW.out.1 3 _ rfl);have y0:=(iM.frozen (p:=s6) cW).trans (HW.a1 0);have y1:=(iM.frozen (p:=⟨s6,1,Z⟩) cW).trans (HW.a1 1);have y2:=(iM.frozen (p:=⟨s6,2,Z⟩) cW).trans (HW.a1 2);have y3:=(iM.frozen (p:=⟨s6,3,Z⟩) cW).trans (HW.a1 3);obtain⟨fP,Fe⟩:=x4 (hk*m);have jM:fP<=km:=by rw[Fe,cd];exact gI _ (by have:=H7.b2;omega)
   have XG:fP<=20000:=by rw[Fe];exact gd (Nat.mul_le_mul rY.1 hm) (by decide)
   have UH:(fP:Int)<=km:=by omega
   have PW:IntKind.i64.wrap ((hk:Int)*(m:Int))=(fP:Int):=by rw[Fe];exact kd (by omega) (by omega)
   have Cr:Sl V8 1 (O E km km) (ints X.flatten):=xT.keep (by rw[Cq];exact(q9).alloc (nlr _) _);have Ff:W<=E:=gd iL.size hE;have PX:Rw V8 E X.flatten:=tL.keep (by rw[Cq];exact(q9).alloc (nlr _) _) (gh.1 tL).1;have H8:=qan Cr Ff iM cW Cq Fe jM cd PX;clear tL PX D7 cq iL AG hE xT fg AH iM Fb Cr Ff cW Fe jM cd pC Cq;go_wp2_with fail;rw[<-H8.a4]
   go_still_tail 14,(by kernel_rfl)
   change wpList _ _ _ _ _ V8.drew;go_wp2_with fail;obtain⟨t0,t1,t2,t3⟩:=q1f z0 z1 z2 z3;have ah:E≠s6:=by have:=H8.a1;have:=H8.a3;omega
   have pO:=H5.a5;refine bodyPost_ret (v:=ψ #[I #[p,hk,m,O E fP km],τ true]) (by simp[results,Tryz.results30,go_sem,t0,t1,t2,t3]) rfl ⟨⟨_,X.take hk,rfl,IA.a2,?_⟩,?_⟩
   ·rw[<-pO];have hF:FM p kb m X:=IA.a1;have Bm:X.flatten.length=km:=by rw[hF.q1d,H8.a7]
    have h1:=H8.b8.own (n:=fP) (b:=w) (by rw[Bm];exact H8.a6) (by have:=H8.a1;have:=HW.a2.size;omega) (by rw[Bm,H8.a7];exact gd (Nat.mul_le_mul (show kb<=400 by omega) hm) (by decide));rw[Bm,H8.a5,qfj hk hF.wid]at h1;rw[H8.a5];exact⟨_,rfl,(vl h1 (fun b e=>by have e:E=b:=osi e;rw[<-e];exact ah) _ _ _ _).drew,hF.take (by have:=H7.b2;omega)⟩
   ·exact qb (jj ((btr HW.a2 H8.a2)) (by rw[HW.b5];omega) _ _ _ _) 1
end Go.Proofs.YtmkpbhaoalbhjaaGreatDoor
namespace Go.Cx
open Go.RowKit Go.Proofs.YtmkpbhaoalbhjaaGreatDoor
theorem qnl (p:Int)(K L:List Cl)(d:Int):((List.range (nId L d*nId K d)).map fun t=>qw ((q04 K d).getD (t%nId K d) 0) 1 ((q04 L d).getD (t / nId K d) 0)).map (fun x=>x%p)=(q5q p K L d).flatten:=by unfold q5q;rw[qio (q04 L d) (q04 K d) fun c r=>qw c 1 r%p,List.map_map];rfl
end Go.Cx
namespace Go.Proofs.YtmkpbhaoalbhjaaGreatDoor
open Go.RowKit Go.Cx
attribute [local go_sem ↓] Go.wp_at_zero Go.wp_at_succ
def gTk (k i:Nat)(v:ε):Value:=if i=k then match v with | ψ a=>a.getD 0 V|_=>V else v
def BxV (w:δ)(q:Nat)(p:Int)(r c:Nat)(M:List (List Int)):Prop:=∃a n k,w q=p/\w ⟨q,1,Z⟩=r/\w ⟨q,2,Z⟩=c/\w ⟨q,3,Z⟩=O a n k/\Sl w 1 (O a n k) (ints M.flatten)/\FM p r c M
theorem BxV.keep {w w':δ}{q:Nat}{p:Int}{r c:Nat}{M:List (List Int)}(h:BxV w q p r c M)(hb:Below w w w'):BxV w' q p r c M:=by obtain⟨a,n,k,h0,h1,h2,h3,h4,h5⟩:=h;exact⟨a,n,k,J hb h0,J hb h1,J hb h2,J hb h3,h4.keep hb,h5⟩
theorem qnm {w:δ}{p:Addr}{a:Option Addr}{n c:Nat}(h:w p=O a n c):(Instr.loadAt 95 (σ (Y p))).run Tryz.prog w=.ok (I #[O a n c]) w:=by simp[go_sem,h]
theorem qix (c r:Int):(qw c 1 r).natAbs<=1:=by unfold qw;split <;> decide
theorem qnn {w:δ}{v u m:ε}{A L:List Cl}{p d:Int}(h:Kx w v A)(k:Kx w u L)(hs:q6v A L)(hm:qip w m (A.map Cl.id))(hp:prI p=true)(hd : -900<=d/\d<=900)(kF:∀d,nId A d<=100)(Fg:∀d,nId L d<=100)(hX:(qef p A L d).isSome=true) :
  Calls Tryz.prog 52 #[v,u,m,H φ d,p] w fun e w'=>∃y,e=.returned (ψ #[y,H φ 0])/\FmF w w' y p (hK p L d) (hK p A d) (yu p A L d)/\Below w w w':=by
 obtain⟨a,an,ac,rfl⟩:=h.shape;obtain⟨c,cn,cc,rfl⟩:=k.shape;have HM:=lhd hm;obtain⟨s,An,rfl,cU,_,_⟩:=hm;obtain⟨sa,sn,sc,rfl⟩:=qg cU;have HH:=q5h h k hs HM.out hp kF Fg hX;clear h k hs cU HM hp kF Fg hX;go_enter Tryz.func52,Tryz.ntmps52;go_wp2_with fail;obtain⟨W,hW⟩:=x4 ((((w.alloc (.cells #[O a an ac] 36)).alloc (.cells #[O c cn cc] 36)).alloc (.cells #[O sa sn sc] 95)).alloc (.cells #[H φ 0,H φ 0,H φ 0,O Z 0 0] 30));rw[<-hW];have hw:Below w w W:=by rw[hW];exact((((q9).alloc (nlr _) _).alloc (by simp) _).alloc (by simp;omega) _).alloc (by simp;omega) _
 have b5:W w=O a an ac:=by rw[hW];exact qk (qk (qk (xz w _ _ 0 rfl) _) _) _
 have b6:W (w+1:Nat)=O c cn cc:=by rw[hW];exact qk (qk (zx w _ _ _ 0 rfl) _) _
 have b7:W (w+1+1:Nat)=O sa sn sc:=by rw[hW];exact qk (jw w _ _ _ _ 0 rfl) _
 have PY:∀(i:Nat) (x:ε),(#[H φ 0,H φ 0,H φ 0,O Z 0 0] : Array ε)[i]? =Y x->W ⟨w+1+1+1,i,Z⟩=Y x:=fun i x hx=>by rw[hW];have h1:=qd (((w.alloc (.cells #[O a an ac] 36)).alloc (.cells #[O c cn cc] 36)).alloc (.cells #[O sa sn sc] 95)) #[H φ 0,H φ 0,H φ 0,O Z 0 0] 30 (0,0) i;simp only [World.size_alloc]at h1;rw[h1];exact hx
 have f10:∀i,W.frozen? ⟨w+1+1+1,i,Z⟩=false:=fun i=>by rw[hW];have h2:=heap_alloc_new (((w.alloc (.cells #[O a an ac] 36)).alloc (.cells #[O c cn cc] 36)).alloc (.cells #[O sa sn sc] 95)) (.cells #[H φ 0,H φ 0,H φ 0,O Z 0 0] 30);simp only [World.size_alloc]at h2;exact jz h2 i
 have aG:W.heap.size=w+4:=by rw[hW];simp
 have HW:=yt hw PY f10 aG;clear hW hw PY f10 aG;refine(qax p W).mono ?_;rintro e w1 ⟨rfl,ae⟩;rw[show prI p=true from HH.a4];have fC:Below w w w1:=(btr HW.out.1 ae)
 replace b5:=J ae b5
 replace b6:=J ae b6
 replace b7:=J ae b7
 have H1:=jg fC ae;clear fC ae;go_wp2_with fail;refine(qln (HH.out.1.keep H1.out.1) (HH.a1.keep H1.out.1) HH.a2 (HH.a3.keep H1.out.1)).mono ?_;rintro e w2 ⟨rfl,aj⟩;have iQ:Below w w w2:=(btr H1.out.1 aj)
 replace b5:=J aj b5
 replace b6:=J aj b6
 replace b7:=J aj b7
 have H2:=jg iQ ((btr H1.out.2 aj));clear iQ aj;go_wp2_with fail;refine(qad (HH.out.1.keep H2.out.1) HH.a5).mono ?_;rintro e w3 ⟨rfl,aw⟩;have IB:Below w w w3:=(btr H2.out.1 aw)
 replace b5:=J aw b5
 replace b6:=J aw b6
 replace b7:=J aw b7
 have H3:=jg IB ((btr H2.out.2 aw));clear IB aw;go_wp2_with fail;refine(qad (HH.a1.keep H3.out.1) HH.a6).mono ?_;rintro e w4 ⟨rfl,aN⟩;have oA:Below w w w4:=(btr H3.out.1 aN)
 replace b5:=J aN b5
 replace b6:=J aN b6
 replace b7:=J aN b7
 have H4:=jg oA ((btr H3.out.2 aN));clear oA aN;have cp:=(vm HH.a4).1;have kJ:∀w',Below w4 w4 w'->Calls Tryz.prog 84 #[I #[O a an ac],I #[O c cn cc],I #[O sa sn sc],d] w' fun e w2=>∃s,e=.returned (I #[(nId L d:Nat),(nId A d:Nat),s])/\Sl w2 2 s (wvs ((List.range (nId L d*nId A d)).map fun t=>qw ((q04 A d).getD (t%nId A d) 0) 1 ((q04 L d).getD (t / nId A d) 0)))/\Below w' w' w2:=fun w' hb=>by have wB:=(btr H4.out.1 hb);exact qq8 (HH.out.1.keep wB) (HH.a1.keep wB) HH.a2 (HH.a3.keep wB) (gd (HH.a5 _) (by decide)) (gd (HH.a6 _) (by decide))
 have hMod:∀(w':δ) (s:ε),Sl w' 2 s (wvs ((List.range (nId L d*nId A d)).map fun t=>qw ((q04 A d).getD (t%nId A d) 0) 1 ((q04 L d).getD (t / nId A d) 0)))->Calls Tryz.prog 36 #[p,I #[(nId L d:Nat),(nId A d:Nat),s]] w' fun e w2=>∃x,e=.returned x/\FmV w2 x p (nId L d) (nId A d) (q5q p A L d)/\Below w' w' w2:=fun w' s hs=>by refine qfo hs (qrf cp A L d) (qnl p A L d) (fun x hx=>?_) HH.a4 (gd (HH.a6 _) (by decide)) (gd (HH.a5 _) (by decide));obtain⟨t,_,rfl⟩:=gj.1 hx;have h1:=qix ((q04 A d).getD (t%nId A d) 0) ((q04 L d).getD (t / nId A d) 0);have h2:=(vm HH.a4).2.1;omega
 have sR:∀w',Below w4 w4 w'->Calls Tryz.prog 32 #[I #[O a an ac],d,p] w' fun e w2=>∃x,e=.returned x/\FmV w2 x p (nId A d) (hK p A d) (q24 p A d)/\Below w' w' w2:=fun w' hb=>by have wB:=(btr H4.out.1 hb);exact(qh7 (HH.out.1.keep wB) HH.a4 d hd HH.a5).mono fun e w2 ⟨x,h1,h2,h3⟩=>⟨x,h1,h2.fm,h3⟩
 have UI:hK p A d<=100:=gd (qft (vm HH.a4).2.2) (HH.a5 d);have hMul:∀(w':δ) (y z:ε),FmV w' y p (nId L d) (nId A d) (q5q p A L d)->FmV w' z p (nId A d) (hK p A d) (q24 p A d)->Calls Tryz.prog 16 #[y,z] w' fun e w2=>∃x,e=.returned (ψ #[x,τ true])/\FmV w2 x p (nId L d) (hK p A d) (mulM p (hK p A d) (q5q p A L d) (q24 p A d))/\Below w' w' w2/\∃q,bkT (ψ #[x,τ true])=Y q/\w'<=q/\q<w2:=fun w' y z hy hz=>by obtain⟨s,rfl,hs,hF⟩:=hy;obtain⟨t,rfl,ht,hG⟩:=hz;refine(qom p _ _ _ s t _ _ w' hs ht HH.a4 hF hG (gd (HH.a6 _) (by decide)) (gd (HH.a5 _) (by decide)) (by omega)).mono ?_;rintro e w2 ⟨E,rfl,h1,h2,h3,h4⟩;exact⟨_,rfl,qbh h3 (q4t cp hF) (gd (HH.a6 _) (by decide)) (by omega),h4,E,rfl,h1,h2⟩
 go_upto_region 8 with fail
 go_cut [13,14]from 38 to 52 (fun x y wx=>∃q:Nat,x=σ q/\y=τ true/\Hid (BxV wx q (p) (nId L d) (hK p A d) (mulM p (hK p A d) (q5q p A L d) (q24 p A d))/\w4<=q/\Below w4 w4 wx))
 case first =>
  rename_i At K2 hJ aQ;refine vf rfl (fun b i v w'=>match b,i with
   |false,0=>v=p
   |false,1=>v=I #[O a an ac]
   |false,2=>v=I #[O c cn cc]
   |false,3=>v=I #[O sa sn sc]
   |false,4=>v=d
   |false,5=>∃s,v=I #[(nId L d:Nat),(nId A d:Nat),s]/\Sl w' 2 s (wvs ((List.range (nId L d*nId A d)).map fun t=>qw ((q04 A d).getD (t%nId A d) 0) 1 ((q04 L d).getD (t / nId A d) 0)))
   |false,6=>FmV w' v p (nId L d) (nId A d) (q5q p A L d)
   |false,7=>v=I #[O a an ac]
   |false,8=>v=d
   |false,9=>v=p
   |false,10=>FmV w' v p (nId A d) (hK p A d) (q24 p A d)
   |false,11=>∃y,v=ψ #[y,τ true]/\FmV w' y (p) (nId L d) (hK p A d) (mulM p (hK p A d) (q5q p A L d) (q24 p A d))
   |false,12=>∃y,v=ψ #[y,τ true]/\FmV w' y (p) (nId L d) (hK p A d) (mulM p (hK p A d) (q5q p A L d) (q24 p A d))
   |false,13=>FmV w' v (p) (nId L d) (hK p A d) (mulM p (hK p A d) (q5q p A L d) (q24 p A d))
   |false,14=>v=τ true
   |false,15=>q6r v w'/\∃q,v=σ (Y ⟨q,0,Z⟩)/\w4<=q
   |true,12=>∃y,v=ψ #[y,τ true]
   |true,14=>v=τ true
   |true,15=>∃q,v=σ (Y ⟨q,0,Z⟩)/\BxV w' q (p) (nId L d) (hK p A d) (mulM p (hK p A d) (q5q p A L d) (q24 p A d))/\w4<=q
   |true,17=>v=τ true
   |_,_=>True) (fun i=>i == 11 || i == 15) bkT [(12,11),(13,12)] (gTk 13) (by kernel_rfl) 16 61 rfl (by kernel_rfl) (by kernel_rfl) (by decide) rfl ?keep ?step ?store ?done
  case keep =>
   intro b i v w1 w2 h hb
   match b,i,h with
   |false,0,h=>exact h
   |false,1,h=>exact h
   |false,2,h=>exact h
   |false,3,h=>exact h
   |false,4,h=>exact h
   |false,5,⟨s,h1,h2⟩=>exact⟨s,h1,h2.keep hb⟩
   |false,6,h=>exact h.keep hb
   |false,7,h=>exact h
   |false,8,h=>exact h
   |false,9,h=>exact h
   |false,10,h=>exact h.keep hb
   |false,11,⟨y,h1,h2⟩=>exact⟨y,h1,h2.keep hb⟩
   |false,12,⟨y,h1,h2⟩=>exact⟨y,h1,h2.keep hb⟩
   |false,13,h=>exact h.keep hb
   |false,14,h=>exact h
   |false,15,⟨h1,h2⟩=>exact⟨h1.keep hb,h2⟩
   |false,i+16,h=>trivial
   |true,0,h=>trivial
   |true,1,h=>trivial
   |true,2,h=>trivial
   |true,3,h=>trivial
   |true,4,h=>trivial
   |true,5,h=>trivial
   |true,6,h=>trivial
   |true,7,h=>trivial
   |true,8,h=>trivial
   |true,9,h=>trivial
   |true,10,h=>trivial
   |true,11,h=>trivial
   |true,12,h=>exact h
   |true,13,h=>trivial
   |true,14,h=>exact h
   |true,15,⟨q,h1,h2,h3⟩=>exact⟨q,h1,h2.keep hb,h3⟩
   |true,16,h=>trivial
   |true,17,h=>exact h
   |true,i+18,h=>trivial
  case step =>
   intro i o ho aD ph b w' bU hbf hw hd ab hsz
   match i,ho,aD,bU,hbf,hd with
   |0,rfl,_,_,hbf,_ =>obtain rfl:=jb hbf;exact jo (.inl rfl) ⟨_,rfl,(zr qu ab 4),j7 q9 rfl rfl⟩
   |1,rfl,_,_,hbf,_ =>obtain rfl:=jb hbf;exact jm rfl (zr qu ab 5) (q10 (J hw b5)) ⟨_,rfl,rfl,j7 q9 rfl rfl⟩
   |2,rfl,_,_,hbf,_ =>obtain rfl:=jb hbf;exact jm rfl (zr qu ab 6) (q10 (J hw b6)) ⟨_,rfl,rfl,j7 q9 rfl rfl⟩
   |3,rfl,_,_,hbf,_ =>obtain rfl:=jb hbf;exact jm rfl (zr qu ab 7) (qnm (J hw b7)) ⟨_,rfl,rfl,j7 q9 rfl rfl⟩
   |4,rfl,_,_,hbf,_ =>obtain rfl:=jb hbf;exact jo (.inl rfl) ⟨_,rfl,(zr qu ab 3),j7 q9 rfl rfl⟩
   |5,rfl,_,_,hbf,hd =>
    obtain rfl:=jb hbf;have LH:b 40 V=I #[O a an ac]:=(zf hd 1)
    have LM:b 41 V=I #[O c cn cc]:=(zf hd 2)
    have UJ:b 42 V=I #[O sa sn sc]:=(zf hd 3)
    have UK:b 43 V=d:=(zf hd 4)
    exact q0e rfl #[I #[O a an ac],I #[O c cn cc],I #[O sa sn sc],d] (by rw[<-LH,<-LM,<-UJ,<-UK];simp[Act.eval]) ((kJ w' hw).mono fun e w2 ⟨s,h1,h2,h3⟩=>⟨_,h1,_,rfl,⟨s,rfl,h2⟩,j7 h3 rfl rfl⟩)
   |6,rfl,_,_,hbf,hd =>
    obtain rfl:=jb hbf;obtain⟨s4,LN,UL⟩:∃s,b 44 V=I #[(nId L d:Nat),(nId A d:Nat),s]/\Sl w' 2 s (wvs ((List.range (nId L d*nId A d)).map fun t=>qw ((q04 A d).getD (t%nId A d) 0) 1 ((q04 L d).getD (t / nId A d) 0))):=zf hd 5;have LO:b 39 V=p:=(zf hd 0)
    have UN:b 44 V=I #[(nId L d:Nat),(nId A d:Nat),s4]:=LN;exact q0e rfl #[p,I #[(nId L d:Nat),(nId A d:Nat),s4]] (by rw[<-LO,<-UN];simp[Act.eval]) ((hMod w' s4 UL).mono fun e w2 ⟨x,h1,h2,h3⟩=>⟨_,h1,_,rfl,h2,j7 h3 rfl rfl⟩)
   |7,rfl,_,_,hbf,_ =>obtain rfl:=jb hbf;exact jm rfl (zr qu ab 5) (q10 (J hw b5)) ⟨_,rfl,rfl,j7 q9 rfl rfl⟩
   |8,rfl,_,_,hbf,_ =>obtain rfl:=jb hbf;exact jo (.inl rfl) ⟨_,rfl,(zr qu ab 3),j7 q9 rfl rfl⟩
   |9,rfl,_,_,hbf,_ =>obtain rfl:=jb hbf;exact jo (.inl rfl) ⟨_,rfl,(zr qu ab 4),j7 q9 rfl rfl⟩
   |10,rfl,_,_,hbf,hd =>
    obtain rfl:=jb hbf;have EI:b 46 V=I #[O a an ac]:=(zf hd 7)
    have Ly:b 47 V=d:=(zf hd 8)
    have LP:b 48 V=p:=(zf hd 9)
    exact q0e rfl #[I #[O a an ac],d,p] (by rw[<-EI,<-Ly,<-LP];simp[Act.eval]) ((sR w' hw).mono fun e w2 ⟨x,h1,h2,h3⟩=>⟨_,h1,_,rfl,h2,j7 h3 rfl rfl⟩)
   |11,rfl,_,_,hbf,hd =>obtain rfl:=jb hbf;have f45:FmV w' (b 45 V) p (nId L d) (nId A d) (q5q p A L d):=zf hd 6;have f49:FmV w' (b 49 V) p (nId A d) (hK p A d) (q24 p A d):=zf hd 10;exact q0e rfl #[b 45 V,b 49 V] (by simp[Act.eval]) ((hMul w' _ _ f45 f49).mono fun e w2 ⟨y,h1,h2,h3,h4⟩=>⟨_,h1,_,rfl,⟨y,rfl,h2⟩,h3,fun _=>h4,fun c hc h=>absurd h ((by decide:∀c∈([(12,11),(13,12)] : List (Nat×Nat)),c.1≠11) c hc)⟩)
   |12,rfl,_,_,hbf,hd =>obtain rfl:=jb hbf;exact jo (.inl rfl) ⟨_,rfl,(zf hd 11),q9,fun h=>absurd h (by decide),fun c hc h=>by obtain rfl:c=(12,11):=(by decide:∀c∈([(12,11),(13,12)] : List (Nat×Nat)),c.1=12->c=(12,11)) c hc h;intro o' d' ik eT;obtain rfl:=osi ik;obtain rfl:=osi eT;rfl⟩
   |13,rfl,_,_,hbf,hd =>obtain rfl:=jb hbf;obtain⟨y,fM,fy⟩:∃y,b 38 V=ψ #[y,τ true]/\FmV w' y (p) (nId L d) (hK p A d) (mulM p (hK p A d) (q5q p A L d) (q24 p A d)):=zf hd 12;exact q85 rfl fM rfl ⟨_,rfl,fy,q9,fun h=>absurd h (by decide),fun c hc h=>by obtain rfl:c=(13,12):=(by decide:∀c∈([(12,11),(13,12)] : List (Nat×Nat)),c.1=13->c=(13,12)) c hc h;intro o' d' ik eT;obtain rfl:=osi ik;obtain rfl:=osi eT;(show _=gTk 13 13 (b 38 V));rw[fM];rfl⟩
   |14,rfl,_,_,_,hd =>
    have fM:∃y,b 38 V=ψ #[y,τ true]:=by
     cases ph with
     |false=>obtain⟨y,h1,h2⟩:∃y,b 38 V=ψ #[y,τ true]/\FmV w' y (p) (nId L d) (hK p A d) (mulM p (hK p A d) (q5q p A L d) (q24 p A d)):=zf hd 12;exact⟨y,h1⟩
     |true=>exact zf hd 12
    obtain⟨y,fM⟩:=fM;exact q85 rfl fM rfl ⟨_,rfl,(by cases ph <;> rfl),q9,(by simp),fun c hc h=>absurd h ((by decide:∀c∈([(12,11),(13,12)] : List (Nat×Nat)),c.1≠14) c hc)⟩
   |15,rfl,_,_,hbf,_ =>obtain rfl:=jb hbf;exact⟨rfl,gu _,vt _ rfl _ _ (q07 _) ⟨_,rfl,⟨q4h _,_,rfl,hw.size⟩,(q9).alloc (nlr _) _,(fun _=>⟨_,rfl,nlr _,by simp⟩),fun c hc h=>absurd h ((by decide:∀c∈([(12,11),(13,12)] : List (Nat×Nat)),c.1≠15) c hc)⟩⟩
   |16,ho,aD,bU,hbf,hd=>exact absurd rfl aD
   |17,rfl,_,bU,_,hd =>obtain rfl:=jb bU;have fL:b 52 V=τ true:=zf hd 14;exact jo (.inr rfl) ⟨_,rfl,fL,q9,(by simp),fun c hc h=>absurd h ((by decide:∀c∈([(12,11),(13,12)] : List (Nat×Nat)),c.1≠17) c hc)⟩
   |i+18,ho,aD,bU,hbf,hd =>have:i+18<18:=(gh.1 ho).1;omega
  case store =>
   intro o ho l b w' aP bW ag;obtain rfl:=osi ho;have fA:q6r (b 13 V) w'/\∃q,b 13 V=σ (Y ⟨q,0,Z⟩)/\w4<=q:=by have h1:=ag.fact 15 _ _ rfl rfl (aP 15 (by kernel_rfl));rw[bW]at h1;exact h1
   have f0:FmV w' (b 51 V) (p) (nId L d) (hK p A d) (mulM p (hK p A d) (q5q p A L d) (q24 p A d)):=by have h1:=ag.fact 13 _ _ rfl rfl (aP 13 (by kernel_rfl));rw[bW]at h1;exact h1
   have fM:∃y,b 38 V=ψ #[y,τ true]/\FmV w' y (p) (nId L d) (hK p A d) (mulM p (hK p A d) (q5q p A L d) (q24 p A d)):=by have h1:=ag.fact 12 _ _ rfl rfl (aP 12 (by kernel_rfl));rw[bW]at h1;exact h1
   have fD:=ag.apart 11 _ 50 15 _ 13 rfl rfl rfl rfl (aP 11 (by kernel_rfl)) (aP 15 (by kernel_rfl)) rfl rfl (by decide);have fx:b 38 V=gTk 13 12 (b 50 V):=ag.copy (12,11) (by simp) (aP 12 (by kernel_rfl)) _ _ _ _ rfl rfl rfl rfl;have fO:b 51 V=gTk 13 13 (b 38 V):=ag.copy (13,12) (by simp) (aP 13 (by kernel_rfl)) _ _ _ _ rfl rfl rfl rfl;obtain⟨y,fM,_⟩:=fM;have eC:b 50 V=ψ #[y,τ true]:=fx.symm.trans fM;have e0:b 51 V=y:=by rw[fO,fM];rfl
   rw[e0]at f0;obtain⟨s,rfl,hs,hF⟩:=f0;obtain⟨so,sn,sc,rfl⟩:=qg hs;obtain⟨⟨q,eA,hq,q0,q1,q2,q3,hz⟩,q',iC,dA⟩:=fA;have iW:q'=q:=by rw[eA]at iC;injection iC with e;injection e with e;injection e with e;exact e.symm
   rw[iW]at dA;rw[eC,eA]at fD;have ah:∀ad n c,O so sn sc=O (Y ad) n c->ad.block≠q:=fun ad n c e h=>by
    injection e with e;subst e
    exact fD (by show Y ad.block=Y q;rw[h])
   have z0:=hz 0;have z1:=hz 1;have z2:=hz 2;have z3:=hz 3;obtain⟨t0,t1,t2,t3⟩:=q1f q0 q1 q2 q3;refine⟨rfl,ju _ _ _ rfl _ _ eA e0 (vx q0 q1 q2 q3 hz) ⟨rfl,?_,by simp,fun i oi di hi eI hl=>?_⟩⟩
   ·exact jj ag.below dA _ _ _ _
   ·have h1:=ag.fact i oi di hi eI hl;rw[bW]at h1
    match i,hi,hl,h1 with
    |12,hi,hl,⟨y,h1,_⟩=>exact⟨y,h1⟩
    |14,hi,hl,h1=>exact h1
    |15,hi,hl,h1 =>obtain rfl:=osi hi;obtain rfl:=osi eI;rw[eA];refine⟨q,rfl,⟨_,_,_,t0 _ _ _ _,t1 _ _ _ _,t2 _ _ _ _,t3 _ _ _ _,?_,hF⟩,dA⟩;exact y8 (y8 (y8 (y8 hs _ _ ah) _ _ ah) _ _ ah) _ _ ah
    |17,hi,hl,h1=>have h2:=ag.cl 17 hl 16 (by kernel_rfl);rw[bW]at h2;cases h2
    |0,hi,hl,h1=>trivial
    |1,hi,hl,h1=>trivial
    |2,hi,hl,h1=>trivial
    |3,hi,hl,h1=>trivial
    |4,hi,hl,h1=>trivial
    |5,hi,hl,h1=>trivial
    |6,hi,hl,h1=>trivial
    |7,hi,hl,h1=>trivial
    |8,hi,hl,h1=>trivial
    |9,hi,hl,h1=>trivial
    |10,hi,hl,h1=>trivial
    |11,hi,hl,h1=>trivial
    |13,hi,hl,h1=>trivial
    |16,hi,hl,h1=>trivial
    |i+18,hi,hl,h1=>trivial
  case done =>intro b w2 hsz aO hf ab hw;obtain⟨q,gA,gB,gq⟩:∃q,b 13 V=σ (Y ⟨q,0,Z⟩)/\BxV w2 q (p) (nId L d) (hK p A d) (mulM p (hK p A d) (q5q p A L d) (q24 p A d))/\w4<=q:=hf 15 _ _ rfl rfl;have gL:b 14 V=τ true:=hf 17 _ _ rfl rfl;refine aQ _ _ (Met.intro (hJ _ _ ⟨b 13 V,b 14 V,b 38 V,b 39 V,b 40 V,b 41 V,b 42 V,b 43 V,b 44 V,b 45 V,b 46 V,b 47 V,b 48 V,b 49 V,b 50 V,b 51 V,b 52 V,⟨q,gA,gL,(lhd ⟨gB,gq,hw⟩)⟩,(q8z hsz aO ab).trans ?_⟩));kernel_rfl
 case rest =>
  obtain⟨q,rfl,rfl,H8⟩:=hcut;obtain⟨ea,en,ec,c0,c1,c2,c3,pK,PZ⟩:=H8.out.1;obtain⟨hk,pO⟩:=x4 (hK p A d);obtain⟨r,hr⟩:=x4 (nId L d);rw[<-pO]at c2;rw[<-hr]at c1;have fJ:Below w w wc:=(btr H4.out.1 H8.b2)
  replace b6:=J H8.b2 b6
  have Iz:=qlr (x:=I #[p,r,hk,O ea en ec]) d (HH.a1.keep fJ) ⟨_,by rw[hr],pK,by rw[pO];exact PZ⟩ HH.a4 hd HH.a6 (by rw[pO];omega) (by have:=HH.b7;unfold qef at this;rw[pO];exact this);have H9:=yh Iz fJ pO;clear pK PZ Iz fJ pO hr kJ hMod sR hMul UI b5 b7;go_wp2_with fail;refine H9.out.1.mono ?_;rintro e w9 ⟨Qa,ei⟩;have eN:qef p A L d=qia p L d hk (mulM p hk (q5q p A L d) (q24 p A d)):=by unfold qef;rw[<-H9.b2]
  rw[<-H9.b2]at Qa;have hX:=HH.b7;rw[eN]at hX;obtain⟨y,X,rfl,Qb,hF⟩:=Qa
  ·have hy:yu p A L d=X:=by unfold yu;rw[eN,Qb];rfl
   obtain⟨s9,rfl,LQ,Ix,Fh⟩:=hF.f;obtain⟨ya,yn,yc,rfl⟩:=qg LQ;have fW:Below W W w9:=((btr H4.out.2 H8.b2)).trans (ei.mono (by have:=H4.out.2.size;have:=H8.b2.size;omega));obtain⟨r2,cE⟩:=x4 (hK p L d);rw[<-cE];have aA:Below w9 w9 (w9.alloc (.cells #[p,r2,hk,O ya yn yc] 30)):=(q9).alloc (nlr _) _;have iK:w.heap.size+1+1+1<W:=by have:=HW.b3;omega
   have g0:=fun o=>qk (J fW (HW.a1 0 _ rfl)) o
   have g1:=fun o=>qk (J fW (HW.a1 1 _ rfl)) o
   have g2:=fun o=>qk (J fW (HW.a1 2 _ rfl)) o
   have g3:=fun o=>qk (J fW (HW.a1 3 _ rfl)) o
   have z0:=fun o=>xf (fW.alloc fW.size o) iK (HW.a2 0)
   have z1:=fun o=>xf (fW.alloc fW.size o) iK (HW.a2 1)
   have z2:=fun o=>xf (fW.alloc fW.size o) iK (HW.a2 2)
   have z3:=fun o=>xf (fW.alloc fW.size o) iK (HW.a2 3)
   have HF:=q5h LQ Ix Fh fW aA hy cE iK;clear LQ Ix Fh fW aA hy cE Qb iK c0 c1 c2 c3 b6 hX eN ei;go_wp2_with fail;obtain⟨t0,t1,t2,t3⟩:=q1f (g0 (.cells #[p,r2,hk,O ya yn yc] 30)) (g1 _) (g2 _) (g3 _);refine bodyPost_ret (v:=ψ #[I #[p,r2,hk,O ya yn yc],H φ 0]) (by simp[results,Tryz.results52,go_sem,t0,t1,t2,t3]) rfl ⟨_,rfl,?_,?_⟩
   ·rw[HF.a5,<-HF.a6,<-H9.b2];have ah:∀ad n c,O ya yn yc=O (Y ad) n c->ad.block≠w+1+1+1:=fun ad n c e=>by have h1:=HF.a2 ad n c e;have h2:=H4.out.2.size;have h3:=H8.b2.size;have h4:=HF.b7;omega
    refine⟨_,rfl,y8 (y8 (y8 (y8 (HF.out.1.keep HF.a4) _ _ ah) _ _ ah) _ _ ah) _ _ ah,by rw[HF.a6];exact HF.a1,fun ad n c e=>?_⟩;have h1:=HF.a2 ad n c e;have h2:=H9.a1.size;omega
   ·exact jj (((btr HW.out.1 HF.a3)).alloc (by have:=HW.out.1.size;have:=HF.a3.size;omega) _) (by omega) _ _ _ _
