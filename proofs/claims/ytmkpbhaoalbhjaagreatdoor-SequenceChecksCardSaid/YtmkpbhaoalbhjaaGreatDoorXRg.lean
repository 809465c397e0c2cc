/- Steps towards SequenceChecks. Conditions: none. -/
import Derived.Test.YtmkpbhaoalbhjaaGreatDoorXOx
import Derived.Test.YtmkpbhaoalbhjaaGreatDoorXRd
set_option maxRecDepth 1000000
set_option maxHeartbeats 0
open Go.Value renaming slice→O,agg→I,pointer→σ,bool→τ,int→H,tuple→ψ
open Option renaming none→Z,some→Y
open Go.IntKind renaming i64→φ
open Go renaming World→δ,Value→ε
open Go.Cx renaming keep→J
namespace Go.Cx
def prI (p:Int):Bool:=decide (0<=p) && prN p.toNat
theorem ql4 (P:Nat):prI (P:Int)=prN P:=by simp[prI]
theorem qg7 {p:Int}(h:p<2):prI p=false:=by
 unfold prI;by_cases h0:0<=p
 ·rw[decide_eq_true h0,Bool.true_and];cases hp:prN p.toNat with
  |false=>rfl
  |true=>have:=(yi.1 hp).1;omega
 ·rw[decide_eq_false h0];rfl
theorem qg8 {p:Int}(h:997<p):prI p=false:=by
 unfold prI;cases hp:prN p.toNat with
 |false=>rw[Bool.and_false]
 |true=>have:=(yi.1 hp).2.1;omega
theorem q3r {p:Int}(h:prI p=true):2<=p/\p<=997/\prN p.toNat=true:=by
 have h0:¬p<2:=fun e=>by rw[qg7 e]at h;cases h
 have h1:¬997<p:=fun e=>by rw[qg8 e]at h;cases h
 unfold prI at h;exact⟨by omega,by omega,(Bool.and_eq_true_iff.1 h).2⟩
theorem qok {P k:Nat}(hk:2<=k)(JR:k<P)(h:P%k=0):prN P=false:=by
 cases hp:prN P with
 |false=>rfl
 |true=>exact absurd h ((yi.1 hp).2.2 k hk JR)
end Go.Cx
namespace Go.Proofs.YtmkpbhaoalbhjaaGreatDoor
open Go.RowKit Go.Cx
attribute [local go_sem ↓] Go.wp_at_zero Go.wp_at_succ
theorem qd0 (P k:Nat):((P:Int).tmod (k:Int))=((P%k:Nat):Int):=Int.ofNat_tmod _ _ |>.symm
theorem qax (p:Int)(w:δ):Calls Tryz.prog 39 #[p] w fun e w'=>e=.returned (τ (prI p))/\Below w w w':=by
 by_cases h1:p<2
 ·rw[qg7 h1];go_enter Tryz.func39,Tryz.ntmps39;go_wp2;go_ret;exact⟨rfl,q9⟩
 by_cases h2:997<p
 ·rw[qg8 h2];go_enter Tryz.func39,Tryz.ntmps39;go_wp2;go_ret;exact⟨rfl,q9⟩
 obtain⟨P,rfl⟩:∃P:Nat,p=(P:Int):=⟨p.toNat,by omega⟩
 rw[ql4];go_enter Tryz.func39,Tryz.ntmps39;go_wp2;go_loopw [3] (fun k wr=>∃n:Nat,k=n/\2<=n/\n<=32/\Hid (∀j,2<=j->j<n->P%j≠0)/\Below w w wr) (fun k _=>33-(vI k).toNat)
 case atStart=>exact⟨2,rfl,nlr _,by decide,(lhd (fun j h3 h4=>by omega)),q9⟩
 case round =>
  obtain⟨n,rfl,hn,bZ,HI,hB⟩:=hrel;have fC:IntKind.i64.wrap ((n:Int)*(n:Int))=((n*n:Nat):Int):=by rw[Int.natCast_mul];have h5:n*n<=32*32:=Nat.mul_le_mul bZ bZ;exact IntWalk.i64_in _ (by rw[<-Int.natCast_mul];omega)
  obtain⟨q,hq⟩:=x4 (n*n);rw[<-hq]at fC;have HQ:=lhd hq;by_cases Xk:q<=P
  ·have Sv:n<=31:=by apply gN;intro h5;have h6:32*32<=n*n:=Nat.mul_le_mul (by omega) (by omega);omega
   have JS:n<P:=by have h6:2*n<=n*n:=Nat.mul_le_mul hn (nlr _);omega
   clear hq;have hm:=qd0 P n;have cY:¬((n:Int)=0):=by omega
   have eR:((n:Int) == 0)=false:=by simpa using cY
   have iQ:IntKind.i64.wrap ((n:Int)+1)=((n+1:Nat):Int):=IntWalk.i64_in _ (by omega);have Du:(q:Int)<=P:=by omega
   obtain⟨m,pg⟩:=x4 (P%n);rw[<-pg]at hm;by_cases h0:m=0
   ·have HN:=lhd (qok hn JS (by rw[<-pg];exact h0));clear pg;subst h0;have iG:(((0:Nat):Int) == 0)=true:=rfl;go_wp2;go_ret;exact⟨by rw[HN.out];rfl,hB⟩
   ·have HN:=lhd (show P%n≠0 from by rw[<-pg];exact h0);have iG:((m:Int) == 0)=false:=by simp;omega
    clear pg;go_wp2;go_roundw
    case measure=>simp[vI];omega
    case rel=>exact⟨n+1,rfl,by omega,by omega,(lhd (fun j h3 h4=>by
     rcases gG j n with h5|h5
     ·exact HI.out j h3 h5
     ·rw[show j=n by omega];exact HN.out)),hB⟩
  ·have Du:¬((q:Int)<=P):=by omega
   have HP:=lhd (qnx (n:=P) (k:=n) (by omega) (by omega) (by omega) HI.out);clear hq;go_wp2;go_ret;exact⟨by rw[HP.out];rfl,hB⟩
theorem qjg (p:Int)(w:δ):Calls Tryz.prog 17 #[p] w fun e w'=>e=.returned (τ (prI p))/\Below w w w':=by
 by_cases h1:p<2
 ·rw[qg7 h1];go_enter Tryz.func17,Tryz.ntmps17;go_wp2;go_ret;exact⟨rfl,q9⟩
 by_cases h2:997<p
 ·rw[qg8 h2];go_enter Tryz.func17,Tryz.ntmps17;go_wp2;go_ret;exact⟨rfl,q9⟩
 obtain⟨P,rfl⟩:∃P:Nat,p=(P:Int):=⟨p.toNat,by omega⟩
 rw[ql4];go_enter Tryz.func17,Tryz.ntmps17;go_wp2;go_loopw [3] (fun k wr=>∃n:Nat,k=n/\2<=n/\n<=P/\Hid (∀j,2<=j->j<n->P%j≠0)/\Below w w wr) (fun k _=>998-(vI k).toNat)
 case atStart=>exact⟨2,rfl,nlr _,by omega,(lhd (fun j h3 h4=>by omega)),q9⟩
 case round =>
  obtain⟨n,rfl,hn,bZ,HI,hB⟩:=hrel;by_cases JS:n<P
  ·have hm:=qd0 P n;have cY:¬((n:Int)=0):=by omega
   have eR:((n:Int) == 0)=false:=by simpa using cY
   have iQ:IntKind.i64.wrap ((n:Int)+1)=((n+1:Nat):Int):=IntWalk.i64_in _ (by omega);have Du:(n:Int)<P:=by omega
   obtain⟨m,pg⟩:=x4 (P%n);rw[<-pg]at hm;by_cases h0:m=0
   ·have HN:=lhd (qok hn JS (by rw[<-pg];exact h0));clear pg;subst h0;have iG:(((0:Nat):Int) == 0)=true:=rfl;go_wp2;go_ret;exact⟨by rw[HN.out];rfl,hB⟩
   ·have HN:=lhd (show P%n≠0 from by rw[<-pg];exact h0);have iG:((m:Int) == 0)=false:=by simp;omega
    clear pg;go_wp2;go_roundw
    case measure=>simp[vI];omega
    case rel=>exact⟨n+1,rfl,by omega,by omega,(lhd (fun j h3 h4=>by
     rcases gG j n with h5|h5
     ·exact HI.out j h3 h5
     ·rw[show j=n by omega];exact HN.out)),hB⟩
  ·have Du:¬((n:Int)<P):=by omega
   have HP:=lhd (yi.2 ⟨show 2<=P by omega,by omega,fun k hk JR=>HI.out k hk (by omega)⟩);go_wp2;go_ret;exact⟨by rw[HP.out];rfl,hB⟩
end Go.Proofs.YtmkpbhaoalbhjaaGreatDoor
namespace Go.Cx
def q8a (r c:Int):Bool:=decide (0<=r/\0<=c/\r<=400/\c<=400)
def okM (p r c:Int)(E:List Int):Bool:=prI p && q8a r c && decide ((E.length:Int)=r*c) && E.all fun n=>decide (0<=n/\n<p)
theorem qg9 {r c:Int}(h:q8a r c=true):0<=r/\0<=c/\r<=400/\c<=400:=of_decide_eq_true h
theorem qd1 {r c:Nat}(hr:r<=400)(hc:c<=400):q8a r c=true:=decide_eq_true ⟨by omega,by omega,by omega,by omega⟩
end Go.Cx
namespace Go.Proofs.YtmkpbhaoalbhjaaGreatDoor
open Go.RowKit Go.Cx
attribute [local go_sem ↓] Go.wp_at_zero Go.wp_at_succ
theorem qsu (r c:Int)(w:δ):Calls Tryz.prog 43 #[r,c] w fun e w'=>e=.returned (τ (q8a r c))/\Below w w w':=by
 unfold q8a;by_cases h1:0<=r
 ·by_cases h2:0<=c
  ·by_cases h3:r<=400
   ·by_cases h4:c<=400
    ·rw[decide_eq_true ⟨h1,h2,h3,h4⟩];go_enter Tryz.func43,Tryz.ntmps43;go_wp2;go_ret;exact⟨rfl,q9⟩
    ·rw[decide_eq_false fun h=>h4 h.2.2.2];go_enter Tryz.func43,Tryz.ntmps43;go_wp2;go_ret;exact⟨rfl,q9⟩
   ·rw[decide_eq_false fun h=>h3 h.2.2.1];go_enter Tryz.func43,Tryz.ntmps43;go_wp2;go_ret;exact⟨rfl,q9⟩
  ·rw[decide_eq_false fun h=>h2 h.2.1];go_enter Tryz.func43,Tryz.ntmps43;go_wp2;go_ret;exact⟨rfl,q9⟩
 ·rw[decide_eq_false fun h=>h1 h.1];go_enter Tryz.func43,Tryz.ntmps43;go_wp2;go_ret;exact⟨rfl,q9⟩
theorem qsv (p r c:Int)(w:δ):Calls Tryz.prog 62 #[p,r,c] w fun e w'=>e=.returned (τ (prI p && q8a r c))/\Below w w w':=by
 go_enter Tryz.func62,Tryz.ntmps62;go_wp2_with fail;refine(qax p _).mono ?_;rintro e w1 ⟨rfl,hb⟩;obtain⟨bp,zJ⟩:=x4 (prI p);rw[<-zJ];have HP:=lhd zJ;clear zJ;cases bp with
 |false =>go_wp2;go_ret;exact⟨by rw[<-HP.out];rfl,hb⟩
 |true =>
  by_cases hm:r<=c
  ·have JT:min r c=r:=by omega
   have Dv:max r c=c:=by omega
   by_cases h1:0<=r
   ·by_cases h2:c<=400
    ·have HF:=lhd (show q8a r c=true from decide_eq_true ⟨by omega,by omega,by omega,by omega⟩);go_wp2
     all_goals
      go_ret;refine⟨?_,hb⟩;rw[<-HP.out,HF.out]
      first
       |rfl
       |exact congrArg (fun b=>Ending.returned (τ b)) (by simp;omega)
    ·have HF:=lhd (show q8a r c=false from decide_eq_false fun h=>by omega);go_wp2
     all_goals
      go_ret;refine⟨?_,hb⟩;rw[<-HP.out,HF.out]
      first
       |rfl
       |exact congrArg (fun b=>Ending.returned (τ b)) (by simp;omega)
   ·have HF:=lhd (show q8a r c=false from decide_eq_false fun h=>by omega);go_wp2
    all_goals
     go_ret;refine⟨?_,hb⟩;rw[<-HP.out,HF.out]
     first
      |rfl
      |exact congrArg (fun b=>Ending.returned (τ b)) (by simp;omega)
  ·have JT:min r c=c:=by omega
   have Dv:max r c=r:=by omega
   by_cases h1:0<=c
   ·by_cases h2:r<=400
    ·have HF:=lhd (show q8a r c=true from decide_eq_true ⟨by omega,by omega,by omega,by omega⟩);go_wp2
     all_goals
      go_ret;refine⟨?_,hb⟩;rw[<-HP.out,HF.out]
      first
       |rfl
       |exact congrArg (fun b=>Ending.returned (τ b)) (by simp;omega)
    ·have HF:=lhd (show q8a r c=false from decide_eq_false fun h=>by omega);go_wp2
     all_goals
      go_ret;refine⟨?_,hb⟩;rw[<-HP.out,HF.out]
      first
       |rfl
       |exact congrArg (fun b=>Ending.returned (τ b)) (by simp;omega)
   ·have HF:=lhd (show q8a r c=false from decide_eq_false fun h=>by omega);go_wp2
    all_goals
     go_ret;refine⟨?_,hb⟩;rw[<-HP.out,HF.out]
     first
      |rfl
      |exact congrArg (fun b=>Ending.returned (τ b)) (by simp;omega)
def IL (w:δ)(E:Nat)(l:List Int):Prop:=∀i n,l[i]? =Y n->w.cell? ⟨E,i,Z⟩=Y (H φ n)/\w.frozen? ⟨E,i,Z⟩=false
theorem IL.keep {w w':δ}{B E:Nat}{l:List Int}(h:IL w E l)(hb:Below B w w')(hE:E<B):IL w' E l:=fun i n hi =>
 have h:=h i n hi
 ⟨(hb.cell (by exact hE)).trans h.1,(hb.frozen (by exact hE)).trans h.2⟩
theorem IL.put {w:δ}{E:Nat}{l:List Int}(h:IL w E l){k:Nat}(hk:k<l.length)(x:Int):IL (w.setCell ⟨E,k,Z⟩ (H φ x)) E (l.set k x):=fun i n hi=>by
 rw[List.getElem?_set]at hi;by_cases eO:k=i
 ·subst eO;rw[if_pos rfl,if_pos hk]at hi;injection hi with hi
  subst hi;obtain⟨h1,h2⟩:=h k _ (gg hk);exact⟨World.cell?_setCell_same' _ _ _ (by rw[h1];rfl),by simpa [World.frozen?_setCell]using h2⟩
 ·rw[if_neg eO]at hi;obtain⟨h1,h2⟩:=h i n hi;exact⟨x8 h1 (by simp),by simpa [World.frozen?_setCell]using h2⟩
theorem IL.set {w:δ}{E:Nat}{l:List Int}(h:IL w E l)(p:Addr)(x:ε)(hp:p.block≠E):IL (w.setCell p x) E l:=fun i n hi=>by obtain⟨h1,h2⟩:=h i n hi;exact⟨xe h1 (fun e=>hp e.symm),by simpa [World.frozen?_setCell]using h2⟩
theorem IL.new (w:δ)(n:Nat)(t:TypeId):IL (w.alloc (.cells (madeCells #[H φ 0] n) t)) w.heap.size (List.replicate n 0):=fun i x hi=>by
 have eN:i<n:=by have:=(gk.1 hi).1;simpa using this
 rw[List.getElem?_replicate,if_pos eN]at hi;injection hi with hi
 subst hi;have h1:=qd w (madeCells #[H φ 0] n) t (0,0) i;have h2:(madeCells #[H φ 0] n)[i]? =H φ 0:=by unfold madeCells;rw[Array.getElem?_map,Array.getElem?_range,if_pos eN];simp[show i%1=0 by omega]
 exact⟨h1.trans h2,jz (heap_alloc_new w _) i⟩
theorem IL.sl {w:δ}{E n:Nat}{l:List Int}(h:IL w E l)(hl:l.length=n)(hn:n<=100000000):Sl w 1 (O E n n) (ints l):=by
 refine⟨Y ⟨E,0,Z⟩,n,n,rfl,nlr _,by unfold maxLen;omega,by rw[xl,hl];simp,fun e=>(by cases e),fun ad bR j u hj=>?_⟩;cases bR
 have eV:=(gk.1 hj).1;rw[xl]at eV;rw[q9r l j eV]at hj;injection hj with hj
 subst hj;rw[Addr.add_lit,Nat.zero_add,gb,gg eV];exact(h j _ (gg eV)).1
theorem qjh (n:Nat)(hn:n<=1000000)(w:δ):(Instr.makeSlice 23 (n:Int) (n:Int)).run Tryz.prog w=.ok (O w n n) (w.alloc (.cells (madeCells #[H φ 0] n) 3)):=by exact run_make_row' 23 3 _ 8 Tryz.underlying23 Tryz.xg rfl φ φ n (by omega) (by omega) w
theorem qol (p:Int)(r c:Nat)(hp:prI p=true)(hr:r<=400)(hc:c<=400)(w:δ):Calls Tryz.prog 42 #[H φ p,H φ r,H φ c] w fun e w'=>∃E,e=.returned (I #[H φ p,H φ r,H φ c,O (Y ⟨E,0,Z⟩) (r*c) (r*c)])/\w.heap.size<=E/\E<w'.heap.size/\IL w' E (List.replicate (r*c) 0)/\Below w.heap.size w w'/\w'.heap[E]? =Y (.cells (madeCells #[H φ 0] (r*c)) 3 (0,0)):=by
 have l6:r*c<=160000:=gd (Nat.mul_le_mul hr hc) (by decide);have fC:IntKind.i64.wrap ((r:Int)*(c:Int))=((r*c:Nat):Int):=by rw[Int.natCast_mul];exact IntWalk.i64_in _ (by rw[<-Int.natCast_mul];omega)
 have jM:=qjh (r*c) (by omega);obtain⟨N,hN⟩:=x4 (r*c);rw[<-hN]at jM fC l6 ⊢;clear hN;have ib:(prI p && q8a r c)=true:=by rw[hp,qd1 hr hc];rfl
 have HF:=lhd ib;clear ib hp;go_enter Tryz.func42,Tryz.ntmps42;go_wp2_with fail;refine(qsv p r c _).mono ?_;rintro e w1 ⟨rfl,ae⟩;rw[HF.out];obtain⟨W,hW⟩:=x4 (w.alloc (.cells #[H φ 0,H φ 0,H φ 0,O Z 0 0] 30));rw[<-hW]at ae;have c0:W w=H φ 0:=by rw[hW];exact qd w _ _ (0,0) 0
 have c1:W ⟨w,1,Z⟩=H φ 0:=by rw[hW];exact qd w _ _ (0,0) 1
 have c2:W ⟨w,2,Z⟩=H φ 0:=by rw[hW];exact qd w _ _ (0,0) 2
 have c3:W ⟨w,3,Z⟩=O Z 0 0:=by rw[hW];exact qd w _ _ (0,0) 3
 have z:∀i,W.frozen? ⟨w,i,Z⟩=false:=fun i=>by rw[hW];exact jz (heap_alloc_new w _) i
 have z0:=z 0;have z1:=z 1;have z2:=z 2;have z3:=z 3;have hw:Below w w W:=by rw[hW];exact(q9).alloc (nlr _) _
 have ak:w.heap.size<W:=by rw[hW];simp
 clear hW z
 replace z0:=xf ae ak z0
 replace z1:=xf ae ak z1
 replace z2:=xf ae ak z2
 replace z3:=xf ae ak z3
 replace c0:=J ae c0
 replace c1:=J ae c1
 replace c2:=J ae c2
 replace c3:=J ae c3
 have aF:Below w w w1:=(btr hw ae);have Dn:w.heap.size<w1:=gz ak ae.size;have HB:=lhd aF;clear ae hw ak aF;go_wp2_with fail;have e0:∀(x y z u:ε) (o:Obj),(((((w1.setCell w x).setCell ⟨w,1,Z⟩ y).setCell ⟨w,2,Z⟩ z).setCell ⟨w,3,Z⟩ u).alloc o) w=Y x:=fun x y z u o =>qk (x8 (x8 (x8 (World.cell?_setCell_same' _ _ _ (by rw[c0];rfl)) (by simp)) (by simp)) (by simp)) o
 have e1:∀(x y z u:ε) (o:Obj),(((((w1.setCell w x).setCell ⟨w,1,Z⟩ y).setCell ⟨w,2,Z⟩ z).setCell ⟨w,3,Z⟩ u).alloc o) ⟨w,1,Z⟩=Y y:=fun x y z u o =>qk (x8 (x8 (World.cell?_setCell_same' _ _ _ (by rw[x8 c1 (by simp)];rfl)) (by simp)) (by simp)) o
 have e2:∀(x y z u:ε) (o:Obj),(((((w1.setCell w x).setCell ⟨w,1,Z⟩ y).setCell ⟨w,2,Z⟩ z).setCell ⟨w,3,Z⟩ u).alloc o) ⟨w,2,Z⟩=Y z:=fun x y z u o =>qk (x8 (World.cell?_setCell_same' _ _ _ (by rw[x8 (x8 c2 (by simp)) (by simp)];rfl)) (by simp)) o
 have e3:∀(x y z u:ε) (o:Obj),(((((w1.setCell w x).setCell ⟨w,1,Z⟩ y).setCell ⟨w,2,Z⟩ z).setCell ⟨w,3,Z⟩ u).alloc o) ⟨w,3,Z⟩=Y u:=fun x y z u o =>qk (World.cell?_setCell_same' _ _ _ (by rw[x8 (x8 (x8 c3 (by simp)) (by simp)) (by simp)];rfl)) o
 refine bodyPost_ret (v:=I #[p,r,c,O w1 N N]) (by simp[results,Tryz.results42,go_sem,e0,e1,e2,e3]) rfl ⟨w1,rfl,HB.out.size,by simp,?_,?_,?_⟩
 ·have h:=IL.new ((((w1.setCell w p).setCell ⟨w,1,Z⟩ r).setCell ⟨w,2,Z⟩ c).setCell ⟨w,3,Z⟩ (O w1 N N)) N 3;simpa using h
 ·exact((((HB.out.setCell (nlr _) _).setCell (nlr _) _).setCell (nlr _) _).setCell (nlr _) _).alloc (by simpa using HB.out.size) _
 ·have h:=heap_alloc_new ((((w1.setCell w p).setCell ⟨w,1,Z⟩ r).setCell ⟨w,2,Z⟩ c).setCell ⟨w,3,Z⟩ (O w1 N N)) (.cells (madeCells #[H φ 0] N) 3);simpa only [World.size_setCell]using h
theorem qid (p:Int)(r c:Nat)(hp:prI p=true)(hr:r<=400)(hc:c<=400)(w:δ):Calls Tryz.prog 42 #[H φ p,H φ r,H φ c] w fun e w'=>∃E,e=.returned (I #[H φ p,H φ r,H φ c,O (Y ⟨E,0,Z⟩) (r*c) (r*c)])/\w.heap.size<=E/\E<w'.heap.size/\IL w' E (List.replicate (r*c) 0)/\Below w.heap.size w w':=by refine(qol p r c hp hr hc w).mono ?_;rintro e w' ⟨E,h1,h2,h3,h4,h5,_⟩;exact⟨E,h1,h2,h3,h4,h5⟩
theorem ql5 (v:ε)(L:List Int)(g:Nat)(cb:Array ε)(f:Int->Bool)(w:δ)(h:Sl w 1 v (ints L))
  (eg:∀args w,(callFunc g args).run Tryz.prog w=.ok (.enter g args) w) (hf:∀W,Below w.heap.size w W->∀t∈L,Calls Tryz.prog g (#[H φ t]++cb) W fun e w'=>e=.returned (τ (f t))/\Below W.heap.size W w') :
  Calls Tryz.prog 55 #[v,.func (.func g) #[] cb] w fun e w'=>e=.returned (τ (L.any f))/\Below w w w':=by
 have HF:=lhd hf;have HE:=lhd eg;clear hf eg;go_enter Tryz.func55,Tryz.ntmps55;go_wp2_with fail;refine(qo0 v L g cb f w h HE.out HF.out).mono ?_;rintro e w1 ⟨i,rfl,hi,hb⟩;have HA:=lhd hi.any;clear hi;go_wp2;go_ret;exact⟨by rw[<-HA.out];rfl,hb⟩
theorem qvj (n p:Int)(B:Nat)(w:δ)(h:w B=p):Calls Tryz.prog 63 #[n,σ B] w fun e w'=>e=.returned (τ (!decide (0<=n/\n<p)))/\Below w w w':=by
 go_enter Tryz.func63,Tryz.ntmps63;by_cases h1:n<0
 ·rw[decide_eq_false fun h=>by omega];go_wp2;go_ret;exact⟨rfl,q9⟩
 ·by_cases h2:p<=n
  ·rw[decide_eq_false fun h=>by omega];go_wp2;go_ret;exact⟨rfl,q9⟩
  ·rw[decide_eq_true ⟨by omega,by omega⟩];go_wp2;go_ret;exact⟨rfl,q9⟩
theorem q8x (p r c:Int)(v:ε)(E:List Int)(w:δ)(h:Sl w 1 v (ints E)):Calls Tryz.prog 35 #[I #[H φ p,H φ r,H φ c,v]] w fun e w'=>e=.returned (τ (okM p r c E))/\Below w.heap.size w w':=by
 obtain⟨a,n,cap,rfl⟩:=qg h;obtain⟨tI,ej,qX,_⟩:=h.open;rw[xl]at qX;unfold maxLen at ej;have hl:n=E.length:=by omega
 have HL:=jg h hl;clear h qX hl;go_enter Tryz.func35,Tryz.ntmps35;go_wp2_with fail;obtain⟨W,hW⟩:=x4 (w.alloc (.cells #[p,r,c,O a n cap] 30));rw[<-hW];have hw:Below w w W:=by rw[hW];exact(q9).alloc (nlr _) _
 have q0:W w=p:=by rw[hW];simp
 have q1:W ⟨w,1,Z⟩=r:=by rw[hW];simp
 have q2:W ⟨w,2,Z⟩=c:=by rw[hW];simp
 have q3:W ⟨w,3,Z⟩=O a n cap:=by rw[hW];simp
 have HW:=lhd hw;clear hW hw;refine(qsv p r c _).mono ?_;rintro e w1 ⟨rfl,hb⟩;have aF:Below w w w1:=(btr HW.out hb)
 replace q0:=J hb q0
 replace q1:=J hb q1
 replace q2:=J hb q2
 replace q3:=J hb q3
 clear hb;by_cases hf:(prI p && q8a r c)=true
 ·rw[hf];have HF:=lhd hf;obtain⟨f1,f2⟩:=Bool.and_eq_true_iff.1 hf;obtain⟨b1,b2,b3,b4⟩:=qg9 f2;obtain⟨rc,l6⟩:=x4 (r*c);have rH:IntKind.i64.wrap (r*c)=rc:=by have h5:r*c<=400*400:=Int.mul_le_mul b3 b4 b2 (by omega);have h6:=Int.mul_nonneg b1 b2;rw[l6];exact IntWalk.i64_in _ (by omega)
  have HO:Hid (okM p r c E=(decide ((E.length:Int)=rc) && E.all fun n=>decide (0<=n/\n<p))):=by show okM p r c E=_;unfold okM;rw[hf,Bool.true_and,<-l6]
  have HB:=lhd aF;clear aF hf f1 f2 b1 b2 b3 b4 l6;by_cases he:(n:Int)=rc
  ·have uB:((n:Int) == rc)=true:=by simpa using he
   have HE:=lhd he;clear he;go_wp2_with fail;refine(ql5 (O a n cap) E 63 #[σ w] (fun t=>!decide (0<=t/\t<p)) w1 (HL.out.1.keep HB.out) (fun _ _=>rfl) (fun W2 aj t _=>qvj t p _ W2 (J aj q0))).mono ?_;rintro e w2 ⟨rfl,aj⟩;have zK:Hid (okM p r c E=!(E.any fun t=>!decide (0<=t/\t<p))):=(lhd (by
    rw[HO.out,decide_eq_true (by rw[<-HL.out.2];exact HE.out),Bool.true_and,List.not_any_eq_all_not]
    congr 1
    funext t;rw[Bool.not_not]))
   obtain⟨an,oD⟩:=x4 (E.any fun t=>!decide (0<=t/\t<p));rw[<-oD]at zK ⊢;clear oD;cases an with
   |true =>go_wp2;go_ret;exact⟨by rw[zK.out];rfl,(btr HB.out aj)⟩
   |false =>go_wp2;go_ret;exact⟨by rw[zK.out];rfl,(btr HB.out aj)⟩
  ·have uB:((n:Int) == rc)=false:=by simpa using he
   have HN:=lhd he;clear he;go_wp2;go_ret;exact⟨by rw[HO.out,decide_eq_false (by rw[<-HL.out.2];exact HN.out),Bool.false_and];rfl,HB.out⟩
 ·have hf:(prI p && q8a r c)=false:=by simpa using hf
  rw[hf];have HO:Hid (okM p r c E=false):=(lhd (by unfold okM;rw[hf];rfl))
  clear hf;go_wp2;go_ret;exact⟨by rw[HO.out];rfl,aF⟩
end Go.Proofs.YtmkpbhaoalbhjaaGreatDoor
namespace Go.Cx
open Go.RowKit
theorem q3d {p:Int}{r c:Nat}{M:List (List Int)}(hp:prI p=true)(h:FM p r c M)(hr:r<=400)(hc:c<=400):okM p r c M.flatten=true:=by unfold okM;rw[hp,qd1 hr hc,h.q1d,decide_eq_true (by rw[Int.natCast_mul]),Bool.true_and,Bool.true_and,Bool.true_and,gE];exact fun n hn=>decide_eq_true (h.qt6 n hn)
theorem qtd {p r c:Int}{E:List Int}(h:okM p r c E=true):∃r' c':Nat,r=r'/\c=c'/\r'<=400/\c'<=400/\prI p=true/\FM p r' c' (rowsOf c' r' E)/\(rowsOf c' r' E).flatten=E:=by
 unfold okM at h;simp only [Bool.and_eq_true,decide_eq_true_eq,List.all_eq_true]at h;obtain⟨⟨⟨h1,h2⟩,h3⟩,h4⟩:=h;obtain⟨f1,f2,f3,f4⟩:=qg9 h2;obtain⟨r',rfl⟩:∃r':Nat,r=r':=⟨r.toNat,by omega⟩
 obtain⟨c',rfl⟩:∃c':Nat,c=c':=⟨c.toNat,by omega⟩
 have hl:E.length=r'*c':=by rw[<-Int.natCast_mul]at h3;omega
 exact⟨r',c',rfl,rfl,by omega,by omega,h1,qel hl h4,qb5 hl⟩
def FmV (w:δ)(v:ε)(p:Int)(r c:Nat)(M:List (List Int)):Prop:=∃s,v=I #[p,r,c,s]/\Sl w 1 s (ints M.flatten)/\FM p r c M
theorem FmV.keep {w w':δ}{v:ε}{p:Int}{r c:Nat}{M:List (List Int)}(h:FmV w v p r c M)(hb:Below w w w'):FmV w' v p r c M:=by obtain⟨s,h1,h2,h3⟩:=h;exact⟨s,h1,h2.keep hb,h3⟩
end Go.Cx
namespace Go.Proofs.YtmkpbhaoalbhjaaGreatDoor
open Go.RowKit Go.Cx
attribute [local go_sem ↓] Go.wp_at_zero Go.wp_at_succ
theorem qdk {w:δ}{a:Option Addr}{n cap:Nat}{l:List Int}(h:Sl w 1 (O a n cap) (ints l)){x y:Nat}(hxy:x<=y)(hy:y<=n) :
  ∃a' c',(∀W,(Instr.sliceAt 23 (O a n cap) (Y (x:Int)) (Y (y:Int)) Z).run Tryz.prog W=.ok (O a' (y-x) c') W)/\Sl w 1 (O a' (y-x) c') (ints ((l.drop x).take (y-x))):=by
 obtain⟨h2,h3,h4,h5,h6⟩:=h.open;refine⟨if cap=x then a else a.map (·.add (x*1)),cap-x,fun W=>?_,?_⟩
 ·have h0:(0:Int)<=(x:Int):=by omega
  have h1:(x:Int)<=(y:Int):=by omega
  have h2:(y:Int)<=(cap:Int):=by omega
  simp[go_sem,sliced,Tryz.underlying23,h0,h1,h2]
 ·have hd:=(h.drop (k:=x) (by omega)).take (k:=y-x) (by omega);rw[gK]at hd;have e:((ints l).drop x).take ((y-x)*1)=ints ((l.drop x).take (y-x)):=by unfold ints;rw[gK,List.map_take,List.map_drop]
  rw[e]at hd;split
  ·rename_i hc;obtain⟨g2,g3,g4,g5,g6⟩:=hd.open;refine⟨a,y-x,cap-x,rfl,by omega,by omega,g4,fun e=>by have:=h5 e;omega,fun ad _ j u hj=>?_⟩;have eV:=(gk.1 hj).1;rw[g4]at eV;omega
  ·rw[gK];exact hd
theorem qte (p r c s d:Int)(v u:ε)(E F:List Int)(w:δ)(h:Sl w 1 v (ints E))(k:Sl w 1 u (ints F))(hE:okM p r c E=true)(hF:okM p s d F=true) :
  Calls Tryz.prog 41 #[I #[p,r,c,v],I #[p,s,d,u]] w fun e w'=>e=.returned (τ true)/\Below w w w':=by
 have HH:=yt h k hE hF;clear h k hE hF;go_enter Tryz.func41,Tryz.ntmps41;go_wp2_with fail;obtain⟨W,hW⟩:=x4 ((w.alloc (.cells #[p,r,c,v] 30)).alloc (.cells #[p,s,d,u] 30));rw[<-hW];have hw:Below w w W:=by rw[hW];exact((q9).alloc (nlr _) _).alloc (by simp) _
 have p0:W w=p:=by rw[hW];simp
 have q0:W (w+1:Nat)=p:=by rw[hW];simp
 have q1:W ⟨w+1,1,Z⟩=s:=by rw[hW];simp
 have q2:W ⟨w+1,2,Z⟩=d:=by rw[hW];simp
 have q3:W ⟨w+1,3,Z⟩=Y u:=by rw[hW];simp
 have HW:=lhd hw;clear hW hw;refine(q8x p r c v E _ (HH.out.1.keep HW.out)).mono ?_;rintro e w1 ⟨rfl,hb⟩;rw[HH.a2]
 replace p0:=J hb p0
 replace q0:=J hb q0
 replace q1:=J hb q1
 replace q2:=J hb q2
 replace q3:=J hb q3
 have HB:=lhd ((btr HW.out hb));clear hb;go_wp2_with fail;refine(q8x p s d u F _ (HH.a1.keep HB.out)).mono ?_;rintro e w2 ⟨rfl,hb⟩;rw[HH.b3]
 replace p0:=J hb p0
 replace q0:=J hb q0
 have aR:=lhd ((btr HB.out hb));clear hb q1 q2 q3;have Dw:(p == p)=true:=by simp
 go_wp2;go_ret;exact⟨rfl,aR.out⟩
theorem q00 {w:δ}{a:Option Addr}{n cap k:Nat}{l:List Int}(h:Sl w 1 (O a n cap) (ints l))(hk:k<n):∃ad x,a=Y ad/\l[k]? =Y x/\w (ad.add k)=x:=by
 obtain⟨h2,h3,h4,h5,h6⟩:=h.open;rw[xl,gK]at h4;obtain⟨ad,rfl⟩:=sadq h5 (by omega)
 obtain⟨x,hx⟩:∃x,l[k]? =Y x:=⟨_,gg (by omega)⟩
 exact⟨ad,x,rfl,hx,h6 ad rfl k _ (by simp[ints,hx])⟩
theorem q4g {x p:Int}(hx:0<=x):x.tmod p=x%p:=Int.tmod_eq_emod_of_nonneg hx
theorem q41 {p x a b:Int}(hp:p<=997)(hx:0<=x/\x<p)(ha:0<=a/\a<p)(hb:0<=b/\b<p):IntKind.i64.wrap (a*b)=a*b/\IntKind.i64.wrap (x+a*b)=x+a*b/\0<=a*b/\a*b<=994009:=by have h1:a*b<=997*997:=Int.mul_le_mul (by omega) (by omega) hb.1 (by omega);have h2:=Int.mul_nonneg ha.1 hb.1;exact⟨IntWalk.i64_in _ (by omega),IntWalk.i64_in _ (by omega),h2,h1⟩
theorem kd {i n:Nat}(hi:i<=1000)(hn:n<=1000):IntKind.i64.wrap ((i:Int)*(n:Int))=((i*n:Nat):Int):=by rw[Int.natCast_mul];have:i*n<=1000*1000:=Nat.mul_le_mul hi hn;exact IntWalk.i64_in _ (by rw[<-Int.natCast_mul];omega)
theorem succ_sub (i n:Nat):(i+1)*n-i*n=n:=by rw[Nat.add_mul,Nat.one_mul];omega
theorem q2x {i r j m:Nat}(hi:i<r)(hj:j<m):i*m+j<r*m:=by have:(i+1)*m<=r*m:=gI m hi;rw[Nat.add_mul,Nat.one_mul]at this;omega
theorem qom (p:Int)(r n m:Nat)(v u:ε)(A B:List (List Int))(w:δ)(h:Sl w 1 v (ints A.flatten))(k:Sl w 1 u (ints B.flatten))(hp:prI p=true)(hA:FM p r n A)(hB:FM p n m B)(hr:r<=400)(hn:n<=400)(hm:m<=400) :
  Calls Tryz.prog 16 #[I #[p,r,n,v],I #[p,n,m,u]] w fun e w'=>∃E:Nat,e=.returned (ψ #[I #[p,r,m,O E (r*m) (r*m)],τ true])/\w<=E/\E<w'/\IL w' E (mulM p m A B).flatten/\Below w w w':=by
 obtain⟨jL,iR,_⟩:=q3r hp;obtain⟨a,an,ac,rfl⟩:=qg h;obtain⟨b,bn,bc,rfl⟩:=qg k;have oD:an=r*n:=by have:=h.open.2.2.1;rw[xl,hA.q1d]at this;omega
 have qE:bn=n*m:=by have:=k.open.2.2.1;rw[xl,hB.q1d]at this;omega
 have hC:=q4t (m:=m) (b:=B) (show (0:Int)<p by omega) hA;obtain⟨C,rI⟩:=x4 (mulM p m A B);rw[<-rI]at hC ⊢;have l7:r*m<=160000:=gd (Nat.mul_le_mul hr hm) (by decide);obtain⟨NN,Dx⟩:=x4 (r*m);have fb:=jg Dx l7;have HH:=qan h k hp hA hB hC rI oD qE;have HO:=jg (q3d hp hA hr hn) (q3d hp hB hn hm);clear h k hp hA hB hC rI Dx l7 oD qE;go_enter Tryz.func16,Tryz.ntmps16;go_wp2_with fail;obtain⟨W,hW⟩:=x4 (((w.alloc (.cells #[p,r,n,O a an ac] 30)).alloc (.cells #[p,n,m,O b bn bc] 30)).alloc (.cells #[H φ 0,H φ 0,H φ 0,O Z 0 0] 30));rw[<-hW];have hw:Below w w W:=by rw[hW];exact(((q9).alloc (nlr _) _).alloc (by simp) _).alloc (by simp;omega) _
 have aG:W.heap.size=w+3:=by rw[hW];simp
 have p0:W w=p:=by rw[hW];exact qk (qk (qd w _ _ (0,0) 0) _) _
 have p1:W ⟨w,1,Z⟩=r:=by rw[hW];exact qk (qk (qd w _ _ (0,0) 1) _) _
 have p2:W ⟨w,2,Z⟩=n:=by rw[hW];exact qk (qk (qd w _ _ (0,0) 2) _) _
 have p3:W ⟨w,3,Z⟩=O a an ac:=by rw[hW];exact qk (qk (qd w _ _ (0,0) 3) _) _
 have q1:W ⟨w+1,1,Z⟩=n:=by rw[hW];have h0:=qd (w.alloc (.cells #[p,r,n,O a an ac] 30)) #[p,n,m,O b bn bc] 30 (0,0) 1;rw[World.size_alloc]at h0;exact qk h0 _
 have q2:W ⟨w+1,2,Z⟩=m:=by rw[hW];have h0:=qd (w.alloc (.cells #[p,r,n,O a an ac] 30)) #[p,n,m,O b bn bc] 30 (0,0) 2;rw[World.size_alloc]at h0;exact qk h0 _
 have q3:W ⟨w+1,3,Z⟩=O b bn bc:=by rw[hW];have h0:=qd (w.alloc (.cells #[p,r,n,O a an ac] 30)) #[p,n,m,O b bn bc] 30 (0,0) 3;rw[World.size_alloc]at h0;exact qk h0 _
 have s0:W (w+1+1:Nat)=H φ 0:=by rw[hW];have h0:=qd ((w.alloc (.cells #[p,r,n,O a an ac] 30)).alloc (.cells #[p,n,m,O b bn bc] 30)) #[H φ 0,H φ 0,H φ 0,O Z 0 0] 30 (0,0) 0;rw[World.size_alloc,World.size_alloc]at h0;exact h0
 have s1:W ⟨w+1+1,1,Z⟩=H φ 0:=by rw[hW];have h0:=qd ((w.alloc (.cells #[p,r,n,O a an ac] 30)).alloc (.cells #[p,n,m,O b bn bc] 30)) #[H φ 0,H φ 0,H φ 0,O Z 0 0] 30 (0,0) 1;rw[World.size_alloc,World.size_alloc]at h0;exact h0
 have s2:W ⟨w+1+1,2,Z⟩=H φ 0:=by rw[hW];have h0:=qd ((w.alloc (.cells #[p,r,n,O a an ac] 30)).alloc (.cells #[p,n,m,O b bn bc] 30)) #[H φ 0,H φ 0,H φ 0,O Z 0 0] 30 (0,0) 2;rw[World.size_alloc,World.size_alloc]at h0;exact h0
 have s3:W ⟨w+1+1,3,Z⟩=O Z 0 0:=by rw[hW];have h0:=qd ((w.alloc (.cells #[p,r,n,O a an ac] 30)).alloc (.cells #[p,n,m,O b bn bc] 30)) #[H φ 0,H φ 0,H φ 0,O Z 0 0] 30 (0,0) 3;rw[World.size_alloc,World.size_alloc]at h0;exact h0
 have z:∀i,W.frozen? ⟨w+1+1,i,Z⟩=false:=fun i=>by have h0:=jz (heap_alloc_new ((w.alloc (.cells #[p,r,n,O a an ac] 30)).alloc (.cells #[p,n,m,O b bn bc] 30)) (.cells #[H φ 0,H φ 0,H φ 0,O Z 0 0] 30)) i;simp at h0;rw[hW];exact h0
 have HC:=qhs p0 p1 p2 p3 q1 q2 q3 s0 s1 s2 s3 z hw aG;clear hW aG z hw p0 p1 p3 q2 q3 s0 s1 s2 s3;obtain⟨HW,aG⟩:=HC.b12;have mJ:=lhd HW;have Dy:=lhd aG;clear HW aG;refine(qte p r n n m _ _ _ _ W (HH.out.1.keep mJ.out) (HH.a1.keep mJ.out) HO.out.1 HO.out.2).mono ?_;rintro e w1 ⟨rfl,ae⟩;have cX:=lhd ae
 replace p2:=J ae p2
 replace q1:=J ae q1
 have p0:=J ae HC.out.1;have p1:=J ae HC.a1;have q2:=J ae HC.a5;clear ae;have B9:((n:Int) != (n:Int))=false:=by simp
 go_wp2_with fail;refine(qid p r m HH.a2 hr hm _).mono ?_;rintro e w3 ⟨E,rfl,dr,dN,l8,aw⟩;rw[<-fb.out.1]at l8 ⊢;have aJ:Below W W w3:=(btr cX.out aw);have fR:W.heap.size<=E:=gd cX.out.size dr;have HZ:=yt l8 aJ fR dN;clear l8 aw aJ p0 p1 p2 q1 q2 B9 dr dN fR;have p1:∀o,(w3.alloc o) ⟨w,1,Z⟩=r:=fun o=>qk (J HZ.a1 HC.a1) o
 go_wp2_with fail;clear p1;obtain⟨W5,dZ⟩:=x4 (w3.alloc (.cells #[p,r,m,O E NN NN] 30));rw[<-dZ];have o:∀i,W5 ⟨w3,i,Z⟩=(#[p,r,m,O E NN NN] : Array ε)[i]?:=fun i=>by rw[dZ];exact qd w3 _ _ (0,0) i
 have jV:Below w3 w3 W5:=by rw[dZ];exact(q9).alloc (nlr _) _
 have JU:w3.heap.size<W5:=by rw[dZ];simp
 have dG:Below W W W5:=(btr HZ.a1 jV);have uD:IL W5 E (List.replicate NN 0):=HZ.out.1.keep jV HZ.b3;have fR:=HZ.a2;have JV:=HZ.b3;have aG:=Dy.out;have aL:w3≠E:=by omega
 have cY:w≠E:=by omega
 have eR:w+1≠E:=by omega
 have bZ:w+1+1≠E:=by omega
 have bT:E<W5:=by omega
 have o0:=o 0;have o1:=o 1;have o2:=o 2;have o3:=o 3;simp at o0 o1 o2 o3;have HG:=q4q o0 o1 o2 o3 dG uD bT;have p0:=J dG HC.out.1;have p1:=J dG HC.a1;have p2:=J dG HC.a2;have p3:=J dG HC.a3;have q2:=J dG HC.a5;have q3:=J dG HC.a6;have HP:=kp p0 p1 p2 p3 q2 q3;have HN:=kg aL cY eR bZ fR;clear o o0 o1 o2 o3 dG uD bT aL cY eR bZ fR JV aG jV JU dZ p0 p2 p3 q2 q3;go_loopw [34] (fun x wr=>∃i:Nat,x=i/\i<=r/\Hid (IL wr E (q8e C (List.replicate m 0) r i).flatten)/\Hid (Kp E W5 wr)/\Hid (Below W W wr)) (fun x _=>r-(vI x).toNat)
 case atStart =>refine⟨0,rfl,gm _,(show Hid _ from ?_),(lhd (Kp.refl _ _)),(lhd HG.a4)⟩;rw[qcl,qat,<-fb.out.1];exact HG.a5
 case round =>
  obtain⟨i,rfl,hi,HE,HK,HB⟩:=hrel;by_cases db:i<r
  ·have rJ:(i:Int)<r:=by omega
   obtain⟨aL,cY,eR,bZ,fR⟩:=HN.out;have c1:=HK.out.cell _ _ cY HP.a1;have c2:=HK.out.cell _ _ cY HP.a2;have c3:=HK.out.cell _ _ cY HP.a3;have rK:IntKind.i64.wrap ((i:Int)*(n:Int))=((i*n:Nat):Int):=kd (by omega) (by omega);have pj:IntKind.i64.wrap ((i:Int)+1)=((i+1:Nat):Int):=IntWalk.i64_in _ (by omega);have qF:IntKind.i64.wrap (((i+1:Nat):Int)*(n:Int))=(((i+1)*n:Nat):Int):=kd (by omega) (by omega);have hle:(i+1)*n<=an:=by rw[HH.a7];exact gI n db
   obtain⟨ra,rc,hcut,aV⟩:=qdk HH.out.1 (x:=i*n) (y:=(i+1)*n) (gI n (by omega)) hle;rw[succ_sub]at hcut aV;rw[q3z HH.a3 db]at aV;obtain⟨ix,lR⟩:=x4 (i*n);obtain⟨iy,oE⟩:=x4 ((i+1)*n);obtain⟨i1,eu⟩:=x4 (i+1);rw[<-lR]at rK hcut;rw[<-eu]at pj;rw[<-oE]at qF hcut;rw[<-eu]at qF;have HR:=jg aV eu;have nO:=HE;have qG:=HK;have Dz:=HB;clear HE HK HB lR oE eu aV hle aL eR bZ fR;obtain⟨wo,eE⟩:=x4 wr;subst eE;go_wp2_with fail;go_loopw [50] (fun x wr=>∃k:Nat,x=k/\k<=n/\Hid (IL wr E (q2b C (List.replicate m 0) r i (q2c p m (zm A i) B k)).flatten)/\Hid (Kp E W5 wr)/\Hid (Below W W wr)) (fun x _=>n-(vI x).toNat)
   case atStart =>refine⟨0,rfl,gm _,(show Hid _ from ?_),qG,Dz⟩;rw[qer,<-qkt db];exact nO.out
   case round =>
    clear nO qG Dz c1 c2 c3;obtain⟨k,rfl,hk,HE,HK,HB⟩:=hrel;by_cases dy:k<n
    ·have cV:(k:Int)<n:=by omega
     obtain⟨ad,x,rfl,hx,d0⟩:=q00 (HR.out.1.keep ((btr mJ.out HB.out))) dy;have nu:0<=x/\x<p:=(HH.a3.row db).2.1 x (gi hx);have dO:j6 (zm A i) k=x:=by have:=q09 (l:=zm A i) (j:=k) (by rw[(HH.a3.row db).1];exact dy);rw[this]at hx;injection hx
     obtain⟨aL,cY,eR,bZ,fR⟩:=HN.out;have c2:=HK.out.cell _ _ eR HP.a4;have c3:=HK.out.cell _ _ eR HP.b5;have JW:IntKind.i64.wrap ((k:Int)*(m:Int))=((k*m:Nat):Int):=kd (by omega) (by omega);have JX:IntKind.i64.wrap ((k:Int)+1)=((k+1:Nat):Int):=IntWalk.i64_in _ (by omega);have D1:IntKind.i64.wrap (((k+1:Nat):Int)*(m:Int))=(((k+1)*m:Nat):Int):=kd (by omega) (by omega);have hle:(k+1)*m<=bn:=by rw[HH.b8];exact gI m dy
     obtain⟨rb,rd,rL,aV⟩:=qdk HH.a1 (x:=k*m) (y:=(k+1)*m) (gI m (by omega)) hle;rw[succ_sub]at rL aV;rw[q3z HH.a4 dy]at aV;obtain⟨kx,rM⟩:=x4 (k*m);obtain⟨ky,rp⟩:=x4 ((k+1)*m);obtain⟨k1,cJ⟩:=x4 (k+1);rw[<-rM]at JW rL;rw[<-cJ]at JX;rw[<-rp]at D1 rL;rw[<-cJ]at D1;have HX:=kg nu dO aV hx cJ;have nO:=HE;have qG:=HK;have rf:=HB;clear HE HK HB rM rp cJ aV hle aL cY eR bZ fR nu dO hx;obtain⟨Sw,zL⟩:=x4 wr;subst zL;go_wp2_with fail;go_loopw [68] (fun y wr=>∃j:Nat,y=j/\j<=m/\Hid (IL wr E (q2b C (List.replicate m 0) r i (kt (q2c p m (zm A i) B (k+1)) (q2c p m (zm A i) B k) j)).flatten)/\Hid (Kp E W5 wr)/\Hid (Below W W wr)) (fun y _=>m-(vI y).toNat)
     case atStart =>refine⟨0,rfl,gm _,(show Hid _ from ?_),qG,rf⟩;rw[q17];exact nO.out
     case round =>
      clear nO qG rf c2 c3 d0;obtain⟨j,rfl,hj,HE,HK,HB⟩:=hrel;by_cases cj:j<m
      ·have pk:(j:Int)<m:=by omega
       obtain⟨bd,y,rfl,hy,d0⟩:=q00 (HX.a2.keep ((btr mJ.out HB.out))) cj;have kX:0<=y/\y<p:=(HH.a4.row dy).2.1 y (gi hy);have jZ:j6 (zm B k) j=y:=by have:=q09 (l:=zm B k) (j:=j) (by rw[(HH.a4.row dy).1];exact cj);rw[this]at hy;injection hy
       have kC:=HH.a5;have aA:=q2v p m (zm A i) B k;have ig:=q2v p m (zm A i) B (k+1);have eW:(kt (q2c p m (zm A i) B (k+1)) (q2c p m (zm A i) B k) j).length=m:=by rw[q1p (by rw[aA,ig]),aA]
       have l9:=qfd (z:=List.replicate m 0) kC.len kC.wid (by simp) db eW cj;rw[q3h (by rw[aA,ig]) (by rw[aA];exact cj)]at l9;obtain⟨o,ho⟩:=x4 (j6 (q2c p m (zm A i) B k) j);have uE:0<=o/\o<p:=by rw[ho];exact qc7 (by omega) m (zm A i) B k _ (gi (q09 (by rw[aA];exact cj)))
       rw[<-ho]at l9;obtain⟨fZ,iF⟩:=HE.out _ _ l9;obtain⟨nu,dO,-,-,-⟩:=HX.out;obtain⟨D2,JY,zM,zN⟩:=q41 iR uE nu kX;have hQ:(o+x*y).tmod p=(o+x*y)%p:=q4g (by omega);have fr:j6 (q2c p m (zm A i) B (k+1)) j=(o+x*y)%p:=by rw[qes p m (zm A i) B cj,<-ho,dO,jZ]
       obtain⟨im,aD⟩:=x4 (i*m);obtain⟨at',bY⟩:=x4 (i*m+j);have zO:at'<NN:=by rw[fb.out.1,bY];exact q2x db cj
       have D4:IntKind.i64.wrap ((i:Int)*(m:Int))=(im:Int):=by rw[aD];exact kd (by omega) (by omega)
       have Sx:IntKind.i64.wrap ((im:Int)+(j:Int))=(at':Int):=by rw[bY,<-aD,Int.natCast_add];exact IntWalk.i64_in _ (by have h5:=fb.out.2;rw[<-fb.out.1]at h5;omega)
       have JZ:(at':Int)<NN:=by omega
       rw[<-bY]at fZ iF;obtain⟨aL,cY,eR,bZ,fR⟩:=HN.out;have c0:=HK.out.cell _ _ cY HP.out.1;have c2:=HK.out.cell _ _ eR HP.a4;have o3:=HK.out.cell _ _ aL HG.a3;have cp:¬(p=0):=by omega
       have ng:(p == 0)=false:=by simpa using cp
       obtain⟨q,hq⟩:=x4 (x*y)
       replace D2:IntKind.i64.wrap (x*y)=q:=by rw[hq];exact D2
       rw[<-hq]at JY hQ fr;obtain⟨nv,qH⟩:=x4 ((o+q)%p);rw[<-qH]at hQ fr;have zK:=kg fr bY aA ig eW;clear kX jZ hy kC aA ig eW l9 ho uE nu dO zM zN fr aD bY aL cY eR bZ hq qH;go_upto_region 14 with fail
       go_still_tail 15,(by kernel_rfl)
       change wpList _ _ _ _ _ wr.drew;obtain⟨w8,fJ⟩:=x4 wr.drew;have eG:Below wr wr w8:=by rw[fJ];exact qb (Below.refl _ wr) 1
       have Ka:Hid (IL w8 E (q2b C (List.replicate m 0) r i (kt (q2c p m (zm A i) B (k+1)) (q2c p m (zm A i) B k) j)).flatten):=(lhd (by rw[fJ];exact HE.out))
       rw[<-fJ]
       replace iF:=xf eG (World.block_lt_of_cell? wr ⟨E,at',Z⟩ fZ) iF
       replace fZ:=J eG fZ
       have H8:=lhd eG;clear eG fJ c0 c2 o3 d0;go_wp2;go_roundw
       case measure=>simp[vI];omega
       case rel =>obtain⟨fr,bY,aA,ig,eW⟩:=zK.out;have kC:=HH.a5;have h5:=Ka.out.put (k:=at') (by rw[q6u (q7s kC.wid (by simp) eW),q7r kC.len db,<-fb.out.1];exact zO) nv;rw[bY,qff (z:=List.replicate m 0) kC.len kC.wid (by simp) db eW cj,<-fr,q2t (by rw[aA,ig]) (by rw[aA];exact cj),<-bY,fr]at h5;refine⟨j+1,qh (by omega),by omega,(lhd h5),(lhd ((HK.out.below H8.out).set _ _)),(lhd (((btr HB.out H8.out)).setCell (by have:=HN.b4;exact this) _))⟩
      ·have np:j=m:=by omega
       subst np;have h9:k1=k+1:=HX.b4;have H9:=lhd h9;clear h9;go_wp2;go_roundw
       case measure=>have h9:=H9.out;simp[vI];omega
       case rel =>refine⟨k+1,qh (by have:=H9.out;omega),by omega,(show Hid _ from ?_),HK,HB⟩;have:=HE.out;rw[q26 (q2v ..) (q2v ..)]at this;exact this
    ·have aM:k=n:=by omega
     go_wp2;go_roundw
     case measure=>have h9:=HR.out.2;simp[vI];omega
     case rel =>
      refine⟨i+1,qh (by have:=HR.out.2;omega),by omega,(show Hid _ from ?_),HK,HB⟩;have h5:=HE.out;have kC:=HH.a5;rw[<-qkv kC.len db];have h6:zm C i=q2c p m (zm A i) B k:=by have h7:(zm A i).length=n:=(HH.a3.row db).1;rw[HH.a6,aM,<-h7];unfold mulM;show (A.map _).getD i []=_;rw[gb,List.getElem?_map,q1k (by rw[HH.a3.len];exact db)];rfl
      rw[h6];exact h5
  ·have hie:i=r:=by omega
   obtain⟨aL,cY,eR,bZ,fR⟩:=HN.out;have o0:=HK.out.cell _ _ aL HG.out.1;have o1:=HK.out.cell _ _ aL HG.a1;have o2:=HK.out.cell _ _ aL HG.a2;have o3:=HK.out.cell _ _ aL HG.a3;have dG:=HG.a4;have aG:=Dy.out;have aV:w.heap.size+1+1<W:=by omega
   obtain⟨s0,s1,s2,s3,z,_⟩:=HC.b7;have r0:=HK.out.cell _ _ bZ (J dG s0);have r1:=HK.out.cell _ _ bZ (J dG s1);have r2:=HK.out.cell _ _ bZ (J dG s2);have r3:=HK.out.cell _ _ bZ (J dG s3);have f:∀j,wr.frozen? ⟨w+1+1,j,Z⟩=false:=fun j=>HK.out.q5d _ bZ (gz aV dG.size) (xf dG aV (z j))
   have f0:=f 0;have f1:=f 1;have f2:=f 2;have f3:=f 3;have HL:=yh bZ fR aG;clear s0 s1 s2 s3 f dG z aV aL cY eR bZ fR aG;go_wp2_with fail;have e0:∀(x y z u:ε),((((wr.setCell (w+1+1:Nat) x).setCell ⟨w+1+1,1,Z⟩ y).setCell ⟨w+1+1,2,Z⟩ z).setCell ⟨w+1+1,3,Z⟩ u) (w+1+1:Nat)=Y x:=fun x y z u =>x8 (x8 (x8 (World.cell?_setCell_same' _ _ _ (by rw[r0];rfl)) (by simp)) (by simp)) (by simp)
   have e1:∀(x y z u:ε),((((wr.setCell (w+1+1:Nat) x).setCell ⟨w+1+1,1,Z⟩ y).setCell ⟨w+1+1,2,Z⟩ z).setCell ⟨w+1+1,3,Z⟩ u) ⟨w+1+1,1,Z⟩=Y y:=fun x y z u =>x8 (x8 (World.cell?_setCell_same' _ _ _ (by rw[x8 r1 (by simp)];rfl)) (by simp)) (by simp)
   have e2:∀(x y z u:ε),((((wr.setCell (w+1+1:Nat) x).setCell ⟨w+1+1,1,Z⟩ y).setCell ⟨w+1+1,2,Z⟩ z).setCell ⟨w+1+1,3,Z⟩ u) ⟨w+1+1,2,Z⟩=Y z:=fun x y z u =>x8 (World.cell?_setCell_same' _ _ _ (by rw[x8 (x8 r2 (by simp)) (by simp)];rfl)) (by simp)
   have e3:∀(x y z u:ε),((((wr.setCell (w+1+1:Nat) x).setCell ⟨w+1+1,1,Z⟩ y).setCell ⟨w+1+1,2,Z⟩ z).setCell ⟨w+1+1,3,Z⟩ u) ⟨w+1+1,3,Z⟩=Y u:=fun x y z u =>World.cell?_setCell_same' _ _ _ (by rw[x8 (x8 (x8 r3 (by simp)) (by simp)) (by simp)];rfl)
   rw[<-fb.out.1];have aT:Below w w wr:=(btr mJ.out HB.out);have h2:w.heap.size<=w+1+1:=by omega
   refine bodyPost_ret (v:=ψ #[I #[p,r,m,O E NN NN],τ true]) (by simp[results,Tryz.results16,go_sem,e0,e1,e2,e3]) rfl ⟨E,rfl,?_,?_,?_,(((aT.setCell (by exact h2) _).setCell (by exact h2) _).setCell (by exact h2) _).setCell (by exact h2) _⟩
   ·have:=HL.a1;have:=HL.b2;omega
   ·have h1:=HG.b6;have h2:=HK.out.size;simp only [World.size_setCell];omega
   ·have h5:=HE.out;rw[hie,qcm HH.a5.len]at h5;exact(((h5.set _ _ HL.out.1).set _ _ HL.out.1).set _ _ HL.out.1).set _ _ HL.out.1
theorem qgc (p r c:Int)(v:ε)(E:List Int)(w:δ)(h:Sl w 1 v (ints E)):Calls Tryz.prog 18 #[I #[p,r,c,v]] w fun e w'=>e=.returned (τ (okM p r c E))/\Below w w w':=by
 obtain⟨a,n,cap,rfl⟩:=qg h;obtain⟨tI,ej,qX,_⟩:=h.open;rw[xl]at qX;unfold maxLen at ej;have hl:n=E.length:=by omega
 have HL:=jg h hl;clear h qX hl;go_enter Tryz.func18,Tryz.ntmps18;go_wp2_with fail;obtain⟨W,hW⟩:=x4 (w.alloc (.cells #[p,r,c,O a n cap] 30));rw[<-hW];have hw:Below w w W:=by rw[hW];exact(q9).alloc (nlr _) _
 have q0:W w=p:=by rw[hW];simp
 have q1:W ⟨w,1,Z⟩=r:=by rw[hW];simp
 have q2:W ⟨w,2,Z⟩=c:=by rw[hW];simp
 have q3:W ⟨w,3,Z⟩=O a n cap:=by rw[hW];simp
 have HW:=lhd hw;clear hW hw;refine(qjg p _).mono ?_;rintro e w1 ⟨rfl,hb⟩;have aF:Below w w w1:=(btr HW.out hb)
 replace q0:=J hb q0
 replace q1:=J hb q1
 replace q2:=J hb q2
 replace q3:=J hb q3
 have HB:=lhd aF;clear hb aF;go_wp2_with fail;refine(qsu r c _).mono ?_;rintro e w2 ⟨rfl,hb⟩;have aI:Below w w w2:=(btr HB.out hb)
 replace q0:=J hb q0
 replace q1:=J hb q1
 replace q2:=J hb q2
 replace q3:=J hb q3
 clear hb;obtain⟨bp,zJ⟩:=x4 (prI p);obtain⟨bf,hbf⟩:=x4 (q8a r c);rw[<-zJ,<-hbf];have iw:=yh zJ hbf aI;clear zJ hbf aI;cases bp with
 |false =>go_wp2;go_ret;exact⟨by unfold okM;rw[<-iw.out.1];rfl,iw.b2⟩
 |true =>
  cases bf with
  |false =>go_wp2;go_ret;exact⟨by unfold okM;rw[<-iw.out.1,<-iw.a1];rfl,iw.b2⟩
  |true =>
   obtain⟨b1,b2,b3,b4⟩:=qg9 iw.a1.symm;obtain⟨rc,l6⟩:=x4 (r*c);have rH:IntKind.i64.wrap (r*c)=rc:=by have h5:r*c<=400*400:=Int.mul_le_mul b3 b4 b2 (by omega);have h6:=Int.mul_nonneg b1 b2;rw[l6];exact IntWalk.i64_in _ (by omega)
   have HO:Hid (okM p r c E=(decide ((E.length:Int)=rc) && E.all fun n=>decide (0<=n/\n<p))):=(lhd (by unfold okM;rw[<-iw.out.1,<-iw.a1,Bool.true_and,Bool.true_and,<-l6]))
   clear b1 b2 b3 b4 l6;by_cases he:(n:Int)=rc
   ·have uB:((n:Int) != rc)=false:=by simpa using he
    have HE:=lhd he;clear he;go_wp2_with fail;go_loopw [5] (fun k wr=>∃i:Nat,k=i/\i<=n/\Hid (∀x∈E.take i,0<=x/\x<p)/\Hid (Below w2 w2 wr)) (fun k _=>n-(vI k).toNat)
    case atStart=>exact⟨0,rfl,gm _,(lhd (fun x hx=>by simp at hx)),(lhd q9)⟩
    case round =>
     obtain⟨i,rfl,hi,HI,dh⟩:=hrel
     replace q0:=J dh.out q0
     replace q3:=J dh.out q3
     clear q1 q2;by_cases eN:i<n
     ·obtain⟨ad,x,rfl,hx,d0⟩:=q00 (HL.out.1.keep ((btr iw.b2 dh.out))) eN;have BC:(i:Int)<n:=by omega
      have HX:=lhd hx;clear hx;by_cases h0:x<0
      ·have HN:Hid ((E.all fun n=>decide (0<=n/\n<p))=false):=(lhd (List.all_eq_false.2 ⟨x,gi HX.out,by simp;omega⟩))
       have Sy:decide (x<0)=true:=decide_eq_true h0;clear h0;go_wp2_with fail
       go_quiet (fail)
       go_wp2;go_ret;exact⟨by rw[HO.out,HN.out,Bool.and_false];rfl,iw.b2.trans ((qb dh.out _).mono iw.b2.size)⟩
      ·have Sy:decide (x<0)=false:=decide_eq_false h0;by_cases h1:p<=x
       ·have HN:Hid ((E.all fun n=>decide (0<=n/\n<p))=false):=(lhd (List.all_eq_false.2 ⟨x,gi HX.out,by simp;omega⟩))
        have GS:decide (p<=x)=true:=decide_eq_true h1;clear h0 h1;go_wp2_with fail
        go_quiet (fail)
        go_wp2;go_ret;exact⟨by rw[HO.out,HN.out,Bool.and_false];rfl,iw.b2.trans ((qb dh.out _).mono iw.b2.size)⟩
       ·have GS:decide (p<=x)=false:=decide_eq_false h1;have HR:=jg h0 h1;clear h0 h1;go_wp2_with fail
        go_quiet (fail)
        go_wp2;go_roundw
        case measure=>simp[vI];omega
        case rel =>
         refine⟨i+1,qh (by omega),by omega,(lhd (fun y hy=>?_)),(lhd (qb dh.out _))⟩;rw[gC,HX.out]at hy;rcases gO.1 hy with hy|hy
         ·exact HI.out y hy
         ·have rN:y=x:=by simpa using hy
          have:=HR.out;omega
     ·have hie:i=n:=by omega
      have Sz:=lhd hie;clear hie;go_wp2;go_ret;refine⟨?_,(btr iw.b2 dh.out)⟩;have Kb:(E.all fun n=>decide (0<=n/\n<p))=true:=gE.2 fun x hx=>decide_eq_true (by have:=HI.out x;rw[gr (by rw[<-HL.out.2,Sz.out];exact nlr _)]at this;exact this hx)
      rw[HO.out,Kb,decide_eq_true (by rw[<-HL.out.2];exact HE.out)];rfl
   ·have uB:((n:Int) != rc)=true:=by simpa using he
    have HN:=lhd he;clear he;go_wp2;go_ret;exact⟨by rw[HO.out,decide_eq_false (by rw[<-HL.out.2];exact HN.out),Bool.false_and];rfl,iw.b2⟩
theorem qur (p:Int)(r c:Nat)(hp:prI p=true)(hr:r<=400)(hc:c<=400)(w:δ):Calls Tryz.prog 45 #[H φ p,H φ r,H φ c] w fun e w'=>∃E,e=.returned (I #[H φ p,H φ r,H φ c,O (Y ⟨E,0,Z⟩) (r*c) (r*c)])/\w.heap.size<=E/\E<w'.heap.size/\IL w' E (List.replicate (r*c) 0)/\Below w.heap.size w w':=by
 have l6:r*c<=160000:=gd (Nat.mul_le_mul hr hc) (by decide);have fC:IntKind.i64.wrap ((r:Int)*(c:Int))=((r*c:Nat):Int):=by rw[Int.natCast_mul];exact IntWalk.i64_in _ (by rw[<-Int.natCast_mul];omega)
 have jM:=qjh (r*c) (by omega);obtain⟨N,hN⟩:=x4 (r*c);rw[<-hN]at jM fC l6 ⊢;clear hN;have HF:=jg hp (qd1 hr hc);clear hp;go_enter Tryz.func45,Tryz.ntmps45;go_wp2_with fail;refine(qjg p _).mono ?_;rintro e w0 ⟨rfl,dS⟩;rw[HF.out.1];obtain⟨W,hW⟩:=x4 (w.alloc (.cells #[H φ 0,H φ 0,H φ 0,O Z 0 0] 30));rw[<-hW]at dS;have c0:W w=H φ 0:=by rw[hW];exact qd w _ _ (0,0) 0
 have c1:W ⟨w,1,Z⟩=H φ 0:=by rw[hW];exact qd w _ _ (0,0) 1
 have c2:W ⟨w,2,Z⟩=H φ 0:=by rw[hW];exact qd w _ _ (0,0) 2
 have c3:W ⟨w,3,Z⟩=O Z 0 0:=by rw[hW];exact qd w _ _ (0,0) 3
 have z:∀i,W.frozen? ⟨w,i,Z⟩=false:=fun i=>by rw[hW];exact jz (heap_alloc_new w _) i
 have hw:Below w w W:=by rw[hW];exact(q9).alloc (nlr _) _
 have ak:w.heap.size<W:=by rw[hW];simp
 have HC:=q5h c0 c1 c2 c3 z hw ak dS;clear hW c0 c1 c2 c3 z hw ak dS;go_wp2_with fail;refine(qsu r c _).mono ?_;rintro e w1 ⟨rfl,ae⟩;rw[HF.out.2];obtain⟨c0,c1,c2,c3,z,hw,ak,dS⟩:=HC.out
 replace ae:Below W W w1:=(btr dS ae)
 have z0:=xf ae ak (z 0);have z1:=xf ae ak (z 1);have z2:=xf ae ak (z 2);have z3:=xf ae ak (z 3)
 replace c0:=J ae c0
 replace c1:=J ae c1
 replace c2:=J ae c2
 replace c3:=J ae c3
 have aF:Below w w w1:=(btr hw ae);have Dn:w.heap.size<w1:=gz ak ae.size;have HB:=lhd aF;clear ae hw ak aF z dS;go_wp2_with fail;have e0:∀(x y z u:ε) (o:Obj),(((((w1.setCell w x).setCell ⟨w,1,Z⟩ y).setCell ⟨w,2,Z⟩ z).setCell ⟨w,3,Z⟩ u).alloc o) w=Y x:=fun x y z u o =>qk (x8 (x8 (x8 (World.cell?_setCell_same' _ _ _ (by rw[c0];rfl)) (by simp)) (by simp)) (by simp)) o
 have e1:∀(x y z u:ε) (o:Obj),(((((w1.setCell w x).setCell ⟨w,1,Z⟩ y).setCell ⟨w,2,Z⟩ z).setCell ⟨w,3,Z⟩ u).alloc o) ⟨w,1,Z⟩=Y y:=fun x y z u o =>qk (x8 (x8 (World.cell?_setCell_same' _ _ _ (by rw[x8 c1 (by simp)];rfl)) (by simp)) (by simp)) o
 have e2:∀(x y z u:ε) (o:Obj),(((((w1.setCell w x).setCell ⟨w,1,Z⟩ y).setCell ⟨w,2,Z⟩ z).setCell ⟨w,3,Z⟩ u).alloc o) ⟨w,2,Z⟩=Y z:=fun x y z u o =>qk (x8 (World.cell?_setCell_same' _ _ _ (by rw[x8 (x8 c2 (by simp)) (by simp)];rfl)) (by simp)) o
 have e3:∀(x y z u:ε) (o:Obj),(((((w1.setCell w x).setCell ⟨w,1,Z⟩ y).setCell ⟨w,2,Z⟩ z).setCell ⟨w,3,Z⟩ u).alloc o) ⟨w,3,Z⟩=Y u:=fun x y z u o =>qk (World.cell?_setCell_same' _ _ _ (by rw[x8 (x8 (x8 c3 (by simp)) (by simp)) (by simp)];rfl)) o
 refine bodyPost_ret (v:=I #[H φ p,H φ r,H φ c,O (Y ⟨w1.heap.size,0,Z⟩) N N]) (by simp[results,Tryz.results45,go_sem,e0,e1,e2,e3]) rfl ⟨w1.heap.size,rfl,HB.out.size,by simp,?_,?_⟩
 ·have h:=IL.new ((((w1.setCell w p).setCell ⟨w,1,Z⟩ r).setCell ⟨w,2,Z⟩ c).setCell ⟨w,3,Z⟩ (O w1 N N)) N 3;simpa using h
 ·exact((((HB.out.setCell (nlr _) _).setCell (nlr _) _).setCell (nlr _) _).setCell (nlr _) _).alloc (by simpa using HB.out.size) _
theorem qvk (p r c s d:Int)(v u:ε)(E F:List Int)(w:δ)(h:Sl w 1 v (ints E))(k:Sl w 1 u (ints F))(hE:okM p r c E=true)(hF:okM p s d F=true) :
  Calls Tryz.prog 44 #[I #[p,r,c,v],I #[p,s,d,u]] w fun e w'=>e=.returned (τ true)/\Below w w w':=by
 have HH:=yt h k hE hF;clear h k hE hF;go_enter Tryz.func44,Tryz.ntmps44;go_wp2_with fail;obtain⟨W,hW⟩:=x4 ((w.alloc (.cells #[p,r,c,v] 30)).alloc (.cells #[p,s,d,u] 30));rw[<-hW];have hw:Below w w W:=by rw[hW];exact((q9).alloc (nlr _) _).alloc (by simp) _
 have p0:W w=p:=by rw[hW];simp
 have q0:W (w+1:Nat)=p:=by rw[hW];simp
 have q1:W ⟨w+1,1,Z⟩=s:=by rw[hW];simp
 have q2:W ⟨w+1,2,Z⟩=d:=by rw[hW];simp
 have q3:W ⟨w+1,3,Z⟩=Y u:=by rw[hW];simp
 have HW:=lhd hw;clear hW hw;refine(qgc p r c v E _ (HH.out.1.keep HW.out)).mono ?_;rintro e w1 ⟨rfl,hb⟩;rw[HH.a2]
 replace p0:=J hb p0
 replace q0:=J hb q0
 replace q1:=J hb q1
 replace q2:=J hb q2
 replace q3:=J hb q3
 have HB:=lhd ((btr HW.out hb));clear hb;go_wp2_with fail;refine(qgc p s d u F _ (HH.a1.keep HB.out)).mono ?_;rintro e w2 ⟨rfl,hb⟩;rw[HH.b3]
 replace p0:=J hb p0
 replace q0:=J hb q0
 have aR:=lhd ((btr HB.out hb));clear hb q1 q2 q3;have Dw:(p == p)=true:=by simp
 go_wp2;go_ret;exact⟨rfl,aR.out⟩
