/- Steps towards MorseChecks. Conditions: none. -/
import Derived.Test.YtlhicnfeajejhaaGreatDoorFMi
set_option maxRecDepth 1000000
set_option maxHeartbeats 16000000
namespace Go.Cx
open Go.RowKit
def wvs (l:List Int):List Value:=l.flatMap fun x=>[.bool (decide (x < 0)),.string (mg x)]
theorem qdb (l m:List Int):wvs (l++m)=wvs l++wvs m:=by simp[wvs]
theorem qmy (x:Int):wvs [x]=[.bool (decide (x < 0)),.string (mg x)]:=by simp[wvs]
theorem q2j (l:List Int):(wvs l).length=l.length*2:=by
 induction l with
 | nil=>rfl
 | cons x l ih=>show (wvs ([x]++l)).length=_;rw[qdb,gl,ih,qmy];simp;omega
theorem q7p (l:List Int) (i:Nat) (x:Int) (h:l[i]? = some x):(wvs l)[i*2]? = some (.bool (decide (x < 0)))/\(wvs l)[i*2+1]? = some (.string (mg x)):=by
 induction l generalizing i with
 | nil=>simp at h
 | cons u l ih =>
  have e:wvs (u :: l) = .bool (decide (u < 0)) :: .string (mg u) :: wvs l:=rfl;rw[e];cases i with
  | zero=>simp at h;subst h;simp
  | succ i =>
   have:=ih i (by simpa using h);rw[show (i+1)*2=i*2+1+1 by omega,show i*2+1+1+1=(i*2+1)+1+1 by omega];simpa using this
end Go.Cx
namespace Go.Proofs.YtlhicnfeajejhaaGreatDoor
open Go.RowKit Go.Cx
attribute [local go_sem ↓] Go.wp_at_zero Go.wp_at_succ
theorem Tryz.qpw:(Tryz.prog.info? 38).map (fun i=>(i.zero,i.size,i.bytes))=some (some (.agg #[.bool false,.string ⟨#[]⟩]),2,24):=by kernel_rfl
end Go.Proofs.YtlhicnfeajejhaaGreatDoor
namespace Go.Cx
open Go.RowKit Go.Maps Go.WideElems Go.WideShapes
open Go.ChangeMaps (setBlock modify_eq_set heap_setBlock_same heap_setBlock_other)
variable {P:Program} {k t e:TypeId} {w:World} {b r n:Nat} {D:DataW Value} {left:Lit->Bool} {kK:Nat}
def Hg (D:DataW Value) (g:Int->Option Value):Prop:=∀ x,has D (.int .i64 x)=(g x).isSome/\∀ v,g x=some v->∀ z,D.atKey (.int .i64 x) z = .held v
theorem Hg.qh3 {D:DataW Value} {g:Int->Option Value} (h:Hg D g) {x:Int} {c:Value} (bK:∀ z,D.atKey (.int .i64 x) z = .held c):g x=some c:=by
 cases hg:g x with
 | some v =>
  have h1:=(h x).2 v hg .nil;rw[bK] at h1;injection h1 with h1;rw[h1]
 | none =>
  have h1:=(h x).1;rw[hg] at h1;have h2:=bK .nil;rw[atKey_of_not_has (by simpa using h1)] at h2;cases h2
end Go.Cx
namespace Go.Proofs.YtlhicnfeajejhaaGreatDoor
open Go.RowKit Go.Cx Go.Shelf
attribute [local go_sem] Oper.semAt_some
structure Pr where
 i:Int
 y:Sd
 hi:I64 i
 hc:I64 y.c
 hg:I64 y.g
def Pr.raw (p:Pr):Int×Sd:=(p.i,p.y)
def Pr.vs (p:Pr):Array Value:=#[.int .i64 p.i,.agg #[.int .i64 p.y.c,.int .i64 p.y.g]]
def zk (L:List Ce):List (Int×Sd):=L.flatMap fun x=>x.s.map fun y=>(x.id,y)
theorem q0l (L M:List Ce):zk (L++M)=zk L++zk M:=by simp[zk]
def yw (W W':World):Prop:=∀ p u,W.cell? p=some u->W'.cell? p=some u
theorem yw.refl (W:World):yw W W:=fun _ _ h=>h
theorem yw.trans {A B C:World} (h:yw A B) (k:yw B C):yw A C:=fun p u hu=>k p u (h p u hu)
theorem yw.put (W:World) (l:Nat) (o o':Obj) (hl:W.heap[l]? = some o) (ho:o.isCells=false):yw W (W.putObj l o'):=fun p u hu=>by
 have ak:p.block≠l:=by
  intro e;obtain⟨o2,h1,h2⟩:=cells_of_cell hu;rw[e,hl] at h1;injection h1 with h1
  rw[h1] at ho;rw[ho] at h2;cases h2
 exact(World.cell?_of_block (w:=W) (World.putObj_heap_other ak)).trans hu
theorem qh4 (n:Nat) (hn:1<=n) (l Bs:Nat) (v:Value) (L:List Ce) (W:World) (hS:SlC W v L) (hok:COk L)
  (J Jx:List Pr->World->Prop)
  (hY:∀ pre x W,J pre W->pre.length < (zk L).length->YieldAt Fence.wide (n - 1) Tryz.prog l (Pr.vs x) W fun e W' =>
   (e = .returned (.bool true)/\J (pre++[x]) W'/\yw W W')\/(e = .returned (.bool false)/\Jx (pre++[x]) W'))
  (zN:W.cell? ⟨Bs,0,none⟩=some v) (hJ:∀ pre W W',J pre W->True->W.grownBy W' none->J pre W') (h0:J [] W) :
  CallsIn Fence.wide n Tryz.prog 142 #[.func (.yield l) #[] #[],.pointer (some ⟨Bs,0,none⟩)] W fun e W'=>(∃ v,e = .returned v) ∧
   ((∃ ys,ys.map Pr.raw=zk L/\J ys W')\/(∃ pre:List Pr,Jx pre W')):=by
 obtain⟨a,len,cap,rfl⟩:=qg hS.1;have HS:=lhd hS;have iY:=lhd hok;have HY:=lhd hY;have HJ:=lhd hJ;have bH:L.length=len:=by
  obtain⟨_,_,h3,_⟩:=hS.1.open;rw[qt Ce.qp] at h3;omega
 have HL:=lhd bH;have jI:len<=maxLen:=by obtain⟨h1,h2,_⟩:=hS.1.open;omega
 unfold maxLen at jI;clear hS hok hY hJ bH;refine callsIn_of_wp Tryz.func142 rfl trivial ?_ rfl;simp only [Tryz.ntmps142,List.size_toArray,List.length_cons,List.length_nil,Nat.reduceAdd,Nat.reduceSub,Array.replicate_succ,Array.replicate_zero,List.push_toArray,List.append_toArray,List.nil_append,List.cons_append]
 gi_wp2
 gi_loopw [10] (fun i wr=>∃ (k:Nat) (pre:List Pr),i = .int .i64 k/\k<=len/\Hid (pre.map Pr.raw=zk (L.take k))/\J pre wr/\yw W wr)
  (fun i _=>len - (vI i).toNat)
 case atStart=>exact⟨0,[],rfl,gp _,(show Hid _ from rfl),h0,yw.refl _⟩
 case round =>
  obtain⟨k,pre,rfl,hk,HP,hj,rl⟩:=hrel;by_cases hlt:k < len
  ·obtain⟨x,hx⟩ : ∃ x,L[k]? = some x:=⟨_,g8 (by rw[HL.out];exact hlt)⟩
   obtain⟨h2,h3,h4,h5,h6⟩:=HS.out.1.open;obtain⟨ad,rfl⟩ : ∃ ad,a=some ad:=by
    cases a with
    | none=>have:=h5 rfl;omega
    | some ad=>exact⟨ad,rfl⟩
   obtain⟨e0,e1,e2⟩:=zh L k x hx;have d0:wr.cell? (ad.add (k*3))=some (.int .i64 x.id):=rl _ _ (h6 ad rfl _ _ e0);have d1:wr.cell? ⟨(ad.add (k*3)).block,(ad.add (k*3)).off+1,none⟩=some (.int .i64 x.dim):=by rw[qi _ _ _ (by omega)];exact rl _ _ (h6 ad rfl _ _ e1)
   have d2:wr.cell? ⟨(ad.add (k*3)).block,(ad.add (k*3)).off+2,none⟩=some (.slice x.a x.n x.c):=by rw[qi _ _ _ (by omega)];exact rl _ _ (h6 ad rfl _ _ e2)
   have dQ:=gd hx;have iz:=HS.out.2 x dQ;obtain⟨⟨o5,-⟩,-,iA⟩:=iY.out x dQ;obtain⟨g2,g3,g4,g5,g6⟩:=iz.open;unfold maxLen at g3;have aX:x.s.length=x.n:=by rw[qt Sd.qp] at g4;omega
   have G2:=lhd g2;have eL:x.n<=9223372036854775807:=gn g2 g3;have cZ:zk (L.take (k+1))=zk (L.take k)++x.s.map (fun y=>(x.id,y)):=by
    rw[gq,hx,q0l];simp[zk]
   have nf:(zk (L.take k)).length+x.s.length<=(zk L).length:=by
    have e3:zk L=zk (L.take (k+1))++zk (L.drop (k+1)):=by rw[<-q0l,gr]
    have:=congrArg List.length e3;rw[cZ,gl,gl,gm] at this;omega
   have dc:=lhd (aiq cZ nf);have vZ:=lhd (aiq o5 iA);have G5:=lhd g5;have G6:=lhd g6;have jH:=lhd aX;clear h2 h3 h4 h5 h6 e0 e1 e2 hx dQ iz o5 iA g2 g4 g5 g6 aX cZ nf;obtain⟨wo,db⟩ : ∃ wo:World,wo=wr:=⟨_,rfl⟩
   subst db;obtain⟨W1,mf⟩ : ∃ W1,W1=wo.alloc (.cells #[.int .i64 x.id,.int .i64 x.dim,.slice x.a x.n x.c] 75):=⟨_,rfl⟩
   have y0:W1.cell? ⟨wo.heap.size,0,none⟩=some (.int .i64 x.id):=by rw[mf];exact qd wo #[.int .i64 x.id,.int .i64 x.dim,.slice x.a x.n x.c] 75 (0,0) 0
   have y2:W1.cell? ⟨wo.heap.size,2,none⟩=some (.slice x.a x.n x.c):=by rw[mf];exact qd wo #[.int .i64 x.id,.int .i64 x.dim,.slice x.a x.n x.c] 75 (0,0) 2
   have Bi:J pre W1:=by rw[mf];exact HJ.out pre wo _ hj trivial (World.grownBy_alloc wo _ none)
   have ey:yw W W1:=by rw[mf];exact rl.trans (fun p u hu=>qk hu _)
   have wa:=lhd mf;clear mf
   gi_wp2
   rw[<-wa.out]
   gi_loopw [17] (fun i wr=>∃ (j:Nat) (pre:List Pr),i = .int .i64 j/\j<=x.n/\Hid (pre.map Pr.raw=zk (L.take k)++(x.s.take j).map (fun y=>(x.id,y)))/\J pre wr/\yw W1 wr)
    (fun i _=>x.n - (vI i).toNat)
   case atStart=>exact⟨0,pre,rfl,gp _,(show Hid _ from by show _=_;rw[HP.out];simp),Bi,yw.refl _⟩
   case round =>
    clear hj;obtain⟨j,pre,rfl,tM,G3,hj,ng⟩:=hrel;by_cases iw:j < x.n
    ·obtain⟨y,hy⟩ : ∃ y,x.s[j]? = some y:=⟨_,g8 (by rw[jH.out];exact iw)⟩
     obtain⟨bd,e9⟩ : ∃ ad,x.a=some ad:=by
      cases hxa:x.a with
      | none=>have:=G5.out hxa;have:=G2.out;omega
      | some ad=>exact⟨ad,rfl⟩
     rw[e9];obtain⟨f0,f1⟩:=zw x.s j y hy;have z0:wr.cell? (bd.add (j*2))=some (.int .i64 y.c):=ng _ _ (ey _ _ (G6.out bd e9 _ _ f0));have z1:wr.cell? ⟨(bd.add (j*2)).block,(bd.add (j*2)).off+1,none⟩=some (.int .i64 y.g):=by rw[qi _ _ _ (by omega)];exact ng _ _ (ey _ _ (G6.out bd e9 _ _ f1))
     have z2:wr.cell? ⟨wo.heap.size,0,none⟩=some (.int .i64 x.id):=ng _ _ y0;have z3:=qk z2 (.cells #[.int .i64 y.c,.int .i64 y.g] 108);have Bj:=vZ.out.2 y (gd hy);have cZ:(x.s.take (j+1)).map (fun y=>(x.id,y))=(x.s.take j).map (fun y=>(x.id,y))++[(x.id,y)]:=by rw[gq,hy];simp
     have G7:=lhd cZ;have cD:pre.length < (zk L).length:=by
      have h1:=congrArg List.length G3.out;rw[gm,gl,gm,gh] at h1;have:=dc.out.2;have:=jH.out;omega
     obtain⟨pr,Bk,Bl⟩ : ∃ pr:Pr,Pr.raw pr=(x.id,y)/\Pr.vs pr=#[.int .i64 x.id,.agg #[.int .i64 y.c,.int .i64 y.g]]:=⟨⟨x.id,y,vZ.out.1,Bj.1,Bj.2⟩,rfl,rfl⟩
     have LK:J pre (wr.alloc (.cells #[.int .i64 y.c,.int .i64 y.g] 108)):=HJ.out pre wr _ hj trivial (World.grownBy_alloc wr _ none);obtain⟨fn,tmps,assign,body,jJ,hR⟩:=HY.out pre pr _ LK cD;rw[Bl] at jJ;have Bm:=lhd Bk;clear f0 f1 hy Bj cZ cD Bk Bl hj LK
     gi_wp2
     refine hR.mono ?_;rintro e W3 (⟨rfl,Gl,Ez⟩ | ⟨rfl,vU⟩)
     ·gi_wp2
      go_roundw
      case rel=>exact⟨j+1,pre++[pr],qh (by omega),by omega,(show Hid _ from by show _=_;rw[bo,G3.out,G7.out,<-gz];simp[Bm.out]),Gl,ng.trans (fun p u hu=>Ez p u (qk hu _))⟩
      case measure=>simp[vI];omega
     ·gi_wp2
      refine bodyPost_ret (results_none rfl _ _ _) rfl ?_;exact⟨⟨_,rfl⟩,.inr ⟨_,vU⟩⟩
    ·have LM:j=x.n:=by omega
     have Q3:=lhd LM;clear LM
     gi_wp2
     go_roundw
     case rel=>exact⟨k+1,pre,qh (by omega),by omega,(show Hid _ from by show _=_;rw[G3.out,dc.out.1,Q3.out,ge (l:=x.s) (by have:=jH.out;omega)]),hj,ey.trans ng⟩
     case measure=>simp[vI];omega
  ·have aR:k=len:=by omega
   have oV:=lhd aR;clear aR
   gi_wp2
   go_end0
   refine⟨⟨_,rfl⟩,.inl ⟨pre,?_,hj⟩⟩;rw[HP.out,oV.out,ge (by rw[HL.out];exact nlr _)]
end Go.Proofs.YtlhicnfeajejhaaGreatDoor
