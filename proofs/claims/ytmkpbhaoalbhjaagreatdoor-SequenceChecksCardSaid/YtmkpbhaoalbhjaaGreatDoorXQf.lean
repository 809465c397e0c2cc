/- Steps towards SequenceChecks. Conditions: none. -/
import Derived.WideKeyEntry
import Derived.Test.YtmkpbhaoalbhjaaGreatDoorXOx
set_option maxRecDepth 1000000
set_option maxHeartbeats 0
open Go.Value renaming slice→O,agg→I,bool→τ,int→H
open Option renaming none→Z,some→Y
open Go.IntKind renaming i64→φ
open Go renaming World→δ,Value→ε
open Go.Cx renaming keep→J
namespace Go.Proofs.YtmkpbhaoalbhjaaGreatDoor
open Go.Cx Go.RowKit
theorem q13 (w:δ)(t:TypeId)(st:Nat)(xs:List ε)(n:Nat)(h:xs.length=n*st)(hn:n<=maxLen):Sl (w.alloc (.cells xs.toArray t)) st (O w n n) xs :=
 ⟨_,n,n,rfl,nlr _,hn,h,(fun e=>by cases e),fun ad ha j u hj=>by cases ha;exact q7l w t xs j u hj⟩
attribute [local go_sem ↓] Go.wp_at_zero Go.wp_at_succ
theorem qqm (a b:Nat)(w:δ)(ha:a<=200)(hb:b<=200):Calls Tryz.prog 95 #[a,b] w fun e w'=>e=.returned (τ true)/\Below w w w':=by
 have h1:(0:Int)<=a:=by omega
 have h2:(0:Int)<=b:=by omega
 have h3:(a:Int)<=200:=by omega
 have h4:(b:Int)<=200:=by omega
 go_enter Tryz.func95,Tryz.ntmps95;go_wp2;go_ret;refine⟨?_,q9⟩;show Ending.returned (τ (decide (max (a:Int) (b:Int)<=200)))=_;rw[decide_eq_true (by omega)]
theorem qqn (r c:Nat)(w:δ)(hr:r<=200)(hc:c<=200):Calls Tryz.prog 67 #[r,c] w fun e w'=>∃E:Nat,e=.returned (I #[r,c,O E (r*c) (r*c)])/\w<=E/\E<w'/\EW w' E (r*c) (fun _=>0)/\Below w w w':=by
 have l6:r*c<=40000:=gd (Nat.mul_le_mul hr hc) (by decide);have jM:=qqr (r*c) (by omega);have fC:IntKind.i64.wrap ((r:Int)*(c:Int))=((r*c:Nat):Int):=by rw[Int.natCast_mul];exact IntWalk.i64_in _ (by rw[<-Int.natCast_mul];omega)
 obtain⟨N,hN⟩:=x4 (r*c);rw[<-hN]at jM fC l6 ⊢;clear hN;go_enter Tryz.func67,Tryz.ntmps67;go_wp2_with fail;refine(qqm r c _ hr hc).mono ?_;rintro e w1 ⟨rfl,ae⟩;obtain⟨W,hW⟩:=x4 (w.alloc (.cells #[H φ 0,H φ 0,O Z 0 0] 75));rw[<-hW]at ae;have c0:W w=H φ 0:=by rw[hW];exact qd w _ _ (0,0) 0
 have c1:W ⟨w,1,Z⟩=H φ 0:=by rw[hW];exact qd w _ _ (0,0) 1
 have c2:W ⟨w,2,Z⟩=O Z 0 0:=by rw[hW];exact qd w _ _ (0,0) 2
 have z0:W.frozen? w=false:=by rw[hW];exact jz (heap_alloc_new w _) 0
 have z1:W.frozen? ⟨w,1,Z⟩=false:=by rw[hW];exact jz (heap_alloc_new w _) 1
 have z2:W.frozen? ⟨w,2,Z⟩=false:=by rw[hW];exact jz (heap_alloc_new w _) 2
 have hw:Below w w W:=by rw[hW];exact(q9).alloc (nlr _) _
 have ak:w.heap.size<W:=by rw[hW];simp
 clear hW
 replace z0:=xf ae ak z0
 replace z1:=xf ae ak z1
 replace z2:=xf ae ak z2
 replace c0:=J ae c0
 replace c1:=J ae c1
 replace c2:=J ae c2
 have aF:Below w w w1:=(btr hw ae);have Dn:w.heap.size<w1:=gz ak ae.size;have HB:=lhd aF;clear ae hw ak aF;go_wp2_with fail;have e0:∀(x y z:ε) (o:Obj),((((w1.setCell w x).setCell ⟨w,1,Z⟩ y).setCell ⟨w,2,Z⟩ z).alloc o) w=Y x:=fun x y z o =>qk (x8 (x8 (World.cell?_setCell_same' _ _ _ (by rw[c0];rfl)) (by simp)) (by simp)) o
 have e1:∀(x y z:ε) (o:Obj),((((w1.setCell w x).setCell ⟨w,1,Z⟩ y).setCell ⟨w,2,Z⟩ z).alloc o) ⟨w,1,Z⟩=Y y:=fun x y z o =>qk (x8 (World.cell?_setCell_same' _ _ _ (by rw[x8 c1 (by simp)];rfl)) (by simp)) o
 have e2:∀(x y z:ε) (o:Obj),((((w1.setCell w x).setCell ⟨w,1,Z⟩ y).setCell ⟨w,2,Z⟩ z).alloc o) ⟨w,2,Z⟩=Y z:=fun x y z o =>qk (World.cell?_setCell_same' _ _ _ (by rw[x8 (x8 c2 (by simp)) (by simp)];rfl)) o
 refine bodyPost_ret (v:=I #[r,c,O w1 N N]) (by simp[results,Tryz.results67,go_sem,e0,e1,e2]) rfl ⟨w1,rfl,HB.out.size,by simp,?_,?_⟩
 ·have h:=EW.new (((w1.setCell w r).setCell ⟨w,1,Z⟩ c).setCell ⟨w,2,Z⟩ (O w1 N N)) N 110;simpa using h
 ·exact(((HB.out.setCell (nlr _) _).setCell (nlr _) _).setCell (nlr _) _).alloc (by simpa using HB.out.size) _
