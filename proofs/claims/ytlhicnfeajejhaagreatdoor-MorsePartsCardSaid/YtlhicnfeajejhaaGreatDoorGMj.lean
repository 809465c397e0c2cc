/- Steps towards MorseParts. Conditions: none. -/
import Derived.Test.YtlhicnfeajejhaaGreatDoorGMi
set_option maxRecDepth 1000000
set_option maxHeartbeats 16000000
namespace Go.Cx
open Go.RowKit
def wvs (l:List Int):List Value:=l.flatMap fun x=>[.bool (decide (x < 0)),.string (mg x)]
theorem qs9 (l m:List Int):wvs (l++m)=wvs l++wvs m:=by simp[wvs]
theorem qt4 (x:Int):wvs [x]=[.bool (decide (x < 0)),.string (mg x)]:=by simp[wvs]
theorem qr2 (l:List Int):(wvs l).length=l.length*2:=by
 induction l with
 | nil=>rfl
 | cons x l ih=>show (wvs ([x]++l)).length=_;rw[qs9,gc,ih,qt4];simp;omega
theorem qrc (l:List Int) (i:Nat) (x:Int) (h:l[i]? = some x):(wvs l)[i*2]? = some (.bool (decide (x < 0)))/\(wvs l)[i*2+1]? = some (.string (mg x)):=by
 induction l generalizing i with
 | nil=>simp at h
 | cons u l ih =>
  have e:wvs (u :: l) = .bool (decide (u < 0)) :: .string (mg u) :: wvs l:=rfl;rw[e];cases i with
  | zero=>simp at h;subst h;simp
  | succ i =>have:=ih i (by simpa using h);rw[show (i+1)*2=i*2+1+1 by omega,show i*2+1+1+1=(i*2+1)+1+1 by omega];simpa using this
end Go.Cx
namespace Go.Proofs.YtlhicnfeajejhaaGreatDoor
open Go.RowKit Go.Cx
attribute [local go_sem ↓] Go.wp_at_zero Go.wp_at_succ
theorem Tryz.qte:(Tryz.prog.info? 38).map (fun i=>(i.zero,i.size,i.bytes))=some (some (.agg #[.bool false,.string ⟨#[]⟩]),2,24):=by kernel_rfl
end Go.Proofs.YtlhicnfeajejhaaGreatDoor
namespace Go.Cx
open Go.RowKit Go.Maps Go.WideElems Go.WideShapes
open Go.ChangeMaps (setBlock modify_eq_set heap_setBlock_same heap_setBlock_other)
variable {P:Program} {k t e:TypeId} {w:World} {b r n:Nat} {D:DataW Value} {left:Lit->Bool} {nU:Nat}
def Hg (D:DataW Value) (g:Int->Option Value):Prop:=∀ x,has D (.int .i64 x)=(g x).isSome/\∀ v,g x=some v->∀ z,D.atKey (.int .i64 x) z = .held v
theorem Hg.qh3 {D:DataW Value} {g:Int->Option Value} (h:Hg D g) {x:Int} {c:Value} (cL:∀ z,D.atKey (.int .i64 x) z = .held c):g x=some c:=by
 cases hg:g x with
 | some v =>have h1:=(h x).2 v hg .nil;rw[cL] at h1;injection h1 with h1;rw[h1]
 | none =>have h1:=(h x).1;rw[hg] at h1;have h2:=cL .nil;rw[atKey_of_not_has (by simpa using h1)] at h2;cases h2
end Go.Cx
namespace Go.Proofs.YtlhicnfeajejhaaGreatDoor
open Go.RowKit Go.Cx Go.Shelf
attribute [local go_sem] Oper.semAt_some
structure Pr where
 i:Int
 y:Sd
 hi:I64 i
 hc:I64 y.c
 hg:I64 y.g
def Pr.raw (p:Pr):Int×Sd:=(p.i,p.y)
def Pr.vs (p:Pr):Array Value:=#[.int .i64 p.i,.agg #[.int .i64 p.y.c,.int .i64 p.y.g]]
def zk (L:List Ce):List (Int×Sd):=L.flatMap fun x=>x.s.map fun y=>(x.id,y)
theorem q0l (L M:List Ce):zk (L++M)=zk L++zk M:=by simp[zk]
def yw (W W':World):Prop:=∀ p u,W.cell? p=some u->W'.cell? p=some u
theorem yw.refl (W:World):yw W W:=fun _ _ h=>h
theorem yw.trans {A B C:World} (h:yw A B) (k:yw B C):yw A C:=fun p u hu=>k p u (h p u hu)
theorem yw.put (W:World) (l:Nat) (o o':Obj) (hl:W.heap[l]? = some o) (ho:o.isCells=false):yw W (W.putObj l o'):=fun p u hu=>by
 have al:p.block≠l:=by
  intro e;obtain⟨o2,h1,h2⟩:=cells_of_cell hu;rw[e,hl] at h1;injection h1 with h1
  rw[h1] at ho;rw[ho] at h2;cases h2
 exact(World.cell?_of_block (w:=W) (World.putObj_heap_other al)).trans hu
theorem qh4 (n:Nat) (hn:1<=n) (l Bs:Nat) (v:Value) (L:List Ce) (W:World) (hS:SlC W v L) (hok:COk L)
  (J Jx:List Pr->World->Prop)
  (hY:∀ pre x W,J pre W->pre.length < (zk L).length->YieldAt Fence.wide (n - 1) Tryz.prog l (Pr.vs x) W fun e W' =>(e = .returned (.bool true)/\J (pre++[x]) W'/\yw W W')\/(e = .returned (.bool false)/\Jx (pre++[x]) W'))
  (Cr:W.cell? ⟨Bs,0,none⟩=some v) (hJ:∀ pre W W',J pre W->True->W.grownBy W' none->J pre W') (h0:J [] W) :
  CallsIn Fence.wide n Tryz.prog 142 #[.func (.yield l) #[] #[],.pointer (some ⟨Bs,0,none⟩)] W fun e W'=>(∃ v,e = .returned v) ∧
   ((∃ ys,ys.map Pr.raw=zk L/\J ys W')\/(∃ pre:List Pr,Jx pre W')):=by
 obtain⟨a,len,cap,rfl⟩:=qg hS.1;have HS:=lhd hS;have kU:=lhd hok;have HY:=lhd hY;have HJ:=lhd hJ;have bL:L.length=len:=by obtain⟨_,_,h3,_⟩:=hS.1.open;rw[qt Ce.qp] at h3;omega
 have HL:=lhd bL;have iK:len<=maxLen:=by obtain⟨h1,h2,_⟩:=hS.1.open;omega
 unfold maxLen at iK;clear hS hok hY hJ bL;refine callsIn_of_wp Tryz.func142 rfl trivial ?_ rfl;simp only [Tryz.ntmps142,List.size_toArray,List.length_cons,List.length_nil,Nat.reduceAdd,Nat.reduceSub,Array.replicate_succ,Array.replicate_zero,List.push_toArray,List.append_toArray,List.nil_append,List.cons_append]
 gi_wp2
 gi_loopw [10] (fun i wr=>∃ (k:Nat) (pre:List Pr),i = .int .i64 k/\k<=len/\Hid (pre.map Pr.raw=zk (L.take k))/\J pre wr/\yw W wr)
  (fun i _=>len - (vI i).toNat)
 case atStart=>exact⟨0,[],rfl,go _,(show Hid _ from rfl),h0,yw.refl _⟩
 case round =>
  obtain⟨k,pre,rfl,hk,HP,hj,uo⟩:=hrel;by_cases hlt:k < len
  ·obtain⟨x,hx⟩ : ∃ x,L[k]? = some x:=⟨_,g8 (by rw[HL.out];exact hlt)⟩
   obtain⟨h2,h3,h4,h5,h6⟩:=HS.out.1.open;obtain⟨ad,rfl⟩:=sadq h5 (by omega)
   obtain⟨e0,e1,e2⟩:=zh L k x hx;have d0:wr.cell? (ad.add (k*3))=some (.int .i64 x.id):=uo _ _ (h6 ad rfl _ _ e0);have d1:wr.cell? ⟨(ad.add (k*3)).block,(ad.add (k*3)).off+1,none⟩=some (.int .i64 x.dim):=by rw[qi _ _ _ (by omega)];exact uo _ _ (h6 ad rfl _ _ e1)
   have d2:wr.cell? ⟨(ad.add (k*3)).block,(ad.add (k*3)).off+2,none⟩=some (.slice x.a x.n x.c):=by rw[qi _ _ _ (by omega)];exact uo _ _ (h6 ad rfl _ _ e2)
   have fK:=gh hx;have kC:=HS.out.2 x fK;obtain⟨⟨qG,-⟩,-,kD⟩:=kU.out x fK;obtain⟨g2,g3,g4,g5,g6⟩:=kC.open;unfold maxLen at g3;have aK:x.s.length=x.n:=by rw[qt Sd.qp] at g4;omega
   have G2:=lhd g2;have iT:x.n<=9223372036854775807:=gl g2 g3;have bZ:zk (L.take (k+1))=zk (L.take k)++x.s.map (fun y=>(x.id,y)):=by rw[gq,hx,q0l];simp[zk]
   have lE:(zk (L.take k)).length+x.s.length<=(zk L).length:=by
    have e3:zk L=zk (L.take (k+1))++zk (L.drop (k+1)):=by rw[<-q0l,gu]
    have:=congrArg List.length e3;rw[bZ,gc,gc,gn] at this;omega
   have cr:=lhd (aiq bZ lE);have uq:=lhd (aiq qG kD);have G5:=lhd g5;have G6:=lhd g6;have iS:=lhd aK;clear h2 h3 h4 h5 h6 e0 e1 e2 hx fK kC qG kD g2 g4 g5 g6 aK bZ lE;obtain⟨wo,de⟩ : ∃ wo:World,wo=wr:=⟨_,rfl⟩
   subst de;obtain⟨W1,pI⟩ : ∃ W1,W1=wo.alloc (.cells #[.int .i64 x.id,.int .i64 x.dim,.slice x.a x.n x.c] 75):=⟨_,rfl⟩
   have y0:W1.cell? ⟨wo.heap.size,0,none⟩=some (.int .i64 x.id):=by rw[pI];exact qd wo #[.int .i64 x.id,.int .i64 x.dim,.slice x.a x.n x.c] 75 (0,0) 0
   have y2:W1.cell? ⟨wo.heap.size,2,none⟩=some (.slice x.a x.n x.c):=by rw[pI];exact qd wo #[.int .i64 x.id,.int .i64 x.dim,.slice x.a x.n x.c] 75 (0,0) 2
   have C6:J pre W1:=by rw[pI];exact HJ.out pre wo _ hj trivial (World.grownBy_alloc wo _ none)
   have ig:yw W W1:=by rw[pI];exact uo.trans (fun p u hu=>qk hu _)
   have Ag:=lhd pI;clear pI
   gi_wp2
   rw[<-Ag.out]
   gi_loopw [17] (fun i wr=>∃ (j:Nat) (pre:List Pr),i = .int .i64 j/\j<=x.n/\Hid (pre.map Pr.raw=zk (L.take k)++(x.s.take j).map (fun y=>(x.id,y)))/\J pre wr/\yw W1 wr)
    (fun i _=>x.n - (vI i).toNat)
   case atStart=>exact⟨0,pre,rfl,go _,(show Hid _ from by show _=_;rw[HP.out];simp),C6,yw.refl _⟩
   case round =>
    clear hj;obtain⟨j,pre,rfl,ur,JG,hj,qH⟩:=hrel;by_cases ij:j < x.n
    ·obtain⟨y,hy⟩ : ∃ y,x.s[j]? = some y:=⟨_,g8 (by rw[iS.out];exact ij)⟩
     obtain⟨bd,dI⟩ : ∃ ad,x.a=some ad:=by
      cases hxa:x.a with
      | none=>have:=G5.out hxa;have:=G2.out;omega
      | some ad=>exact⟨ad,rfl⟩
     rw[dI];obtain⟨f0,f1⟩:=zw x.s j y hy;have z0:wr.cell? (bd.add (j*2))=some (.int .i64 y.c):=qH _ _ (ig _ _ (G6.out bd dI _ _ f0));have z1:wr.cell? ⟨(bd.add (j*2)).block,(bd.add (j*2)).off+1,none⟩=some (.int .i64 y.g):=by rw[qi _ _ _ (by omega)];exact qH _ _ (ig _ _ (G6.out bd dI _ _ f1))
     have z2:wr.cell? ⟨wo.heap.size,0,none⟩=some (.int .i64 x.id):=qH _ _ y0;have z3:=qk z2 (.cells #[.int .i64 y.c,.int .i64 y.g] 108);have JH:=uq.out.2 y (gh hy);have bZ:(x.s.take (j+1)).map (fun y=>(x.id,y))=(x.s.take j).map (fun y=>(x.id,y))++[(x.id,y)]:=by rw[gq,hy];simp
     have JI:=lhd bZ;have cm:pre.length < (zk L).length:=by have h1:=congrArg List.length JG.out;rw[gn,gc,gn,gd] at h1;have:=cr.out.2;have:=iS.out;omega
     obtain⟨pr,D9,DA⟩ : ∃ pr:Pr,Pr.raw pr=(x.id,y)/\Pr.vs pr=#[.int .i64 x.id,.agg #[.int .i64 y.c,.int .i64 y.g]]:=⟨⟨x.id,y,uq.out.1,JH.1,JH.2⟩,rfl,rfl⟩
     have Jm:J pre (wr.alloc (.cells #[.int .i64 y.c,.int .i64 y.g] 108)):=HJ.out pre wr _ hj trivial (World.grownBy_alloc wr _ none);obtain⟨fn,tmps,assign,body,kV,hR⟩:=HY.out pre pr _ Jm cm;rw[DA] at kV;have C7:=lhd D9;clear f0 f1 hy JH bZ cm D9 DA hj Jm
     gi_wp2
     refine hR.mono ?_;rintro e W3 (⟨rfl,Jw,kJ⟩ | ⟨rfl,zY⟩)
     ·gi_wp2
      go_roundw
      case rel=>exact⟨j+1,pre++[pr],qh (by omega),by omega,(show Hid _ from by show _=_;rw[br,JG.out,JI.out,<-gC];simp[C7.out]),Jw,qH.trans (fun p u hu=>kJ p u (qk hu _))⟩
      case measure=>simp[vI];omega
     ·gi_wp2
      refine bodyPost_ret (results_none rfl _ _ _) rfl ?_;exact⟨⟨_,rfl⟩,.inr ⟨_,zY⟩⟩
    ·have On:j=x.n:=by omega
     have Tr:=lhd On;clear On
     gi_wp2
     go_roundw
     case rel=>exact⟨k+1,pre,qh (by omega),by omega,(show Hid _ from by show _=_;rw[JG.out,cr.out.1,Tr.out,gm (l:=x.s) (by have:=iS.out;omega)]),hj,ig.trans qH⟩
     case measure=>simp[vI];omega
  ·have bF:k=len:=by omega
   have su:=lhd bF;clear bF
   gi_wp2
   go_end0
   refine⟨⟨_,rfl⟩,.inl ⟨pre,?_,hj⟩⟩;rw[HP.out,su.out,gm (by rw[HL.out];exact nlr _)]
end Go.Proofs.YtlhicnfeajejhaaGreatDoor
