/- Steps towards MorseMaps. Conditions: none. -/
import Derived.Test.YtlhicnfeajejhaaGreatDoorHMi
set_option maxRecDepth 1000000
set_option maxHeartbeats 16000000
namespace Go.Cx
open Go.RowKit
def wvs (l:List Int):List Value:=l.flatMap fun x=>[.bool (decide (x < 0)),.string (mg x)]
theorem qs9 (l m:List Int):wvs (l++m)=wvs l++wvs m:=by simp[wvs]
theorem qtv (x:Int):wvs [x]=[.bool (decide (x < 0)),.string (mg x)]:=by simp[wvs]
theorem qr4 (l:List Int):(wvs l).length=l.length*2:=by
 induction l with
 | nil=>rfl
 | cons x l ih=>show (wvs ([x]++l)).length=_;rw[qs9,gc,ih,qtv];simp;omega
theorem qrq (l:List Int) (i:Nat) (x:Int) (h:l[i]? = some x):(wvs l)[i*2]? = some (.bool (decide (x < 0)))/\(wvs l)[i*2+1]? = some (.string (mg x)):=by
 induction l generalizing i with
 | nil=>simp at h
 | cons u l ih =>
  have e:wvs (u :: l) = .bool (decide (u < 0)) :: .string (mg u) :: wvs l:=rfl;rw[e];cases i with
  | zero=>simp at h;subst h;simp
  | succ i =>
   have:=ih i (by simpa using h);rw[show (i+1)*2=i*2+1+1 by omega,show i*2+1+1+1=(i*2+1)+1+1 by omega];simpa using this
end Go.Cx
namespace Go.Proofs.YtlhicnfeajejhaaGreatDoor
open Go.RowKit Go.Cx
attribute [local go_sem ↓] Go.wp_at_zero Go.wp_at_succ
theorem Tryz.qug:(Tryz.prog.info? 38).map (fun i=>(i.zero,i.size,i.bytes))=some (some (.agg #[.bool false,.string ⟨#[]⟩]),2,24):=by kernel_rfl
end Go.Proofs.YtlhicnfeajejhaaGreatDoor
namespace Go.Cx
open Go.RowKit Go.Maps Go.WideElems Go.WideShapes
open Go.ChangeMaps (setBlock modify_eq_set heap_setBlock_same heap_setBlock_other)
variable {P:Program} {k t e:TypeId} {w:World} {b r n:Nat} {D:DataW Value} {left:Lit->Bool} {mq:Nat}
def Hg (D:DataW Value) (g:Int->Option Value):Prop:=∀ x,has D (.int .i64 x)=(g x).isSome/\∀ v,g x=some v->∀ z,D.atKey (.int .i64 x) z = .held v
theorem Hg.qh3 {D:DataW Value} {g:Int->Option Value} (h:Hg D g) {x:Int} {c:Value} (bZ:∀ z,D.atKey (.int .i64 x) z = .held c):g x=some c:=by
 cases hg:g x with
 | some v =>
  have h1:=(h x).2 v hg .nil;rw[bZ] at h1;injection h1 with h1;rw[h1]
 | none =>
  have h1:=(h x).1;rw[hg] at h1;have h2:=bZ .nil;rw[atKey_of_not_has (by simpa using h1)] at h2;cases h2
end Go.Cx
namespace Go.Proofs.YtlhicnfeajejhaaGreatDoor
open Go.RowKit Go.Cx Go.Shelf
attribute [local go_sem] Oper.semAt_some
structure Pr where
 i:Int
 y:Sd
 hi:I64 i
 hc:I64 y.c
 hg:I64 y.g
def Pr.raw (p:Pr):Int×Sd:=(p.i,p.y)
def Pr.vs (p:Pr):Array Value:=#[.int .i64 p.i,.agg #[.int .i64 p.y.c,.int .i64 p.y.g]]
def zk (L:List Ce):List (Int×Sd):=L.flatMap fun x=>x.s.map fun y=>(x.id,y)
theorem q0l (L M:List Ce):zk (L++M)=zk L++zk M:=by simp[zk]
def yw (W W':World):Prop:=∀ p u,W.cell? p=some u->W'.cell? p=some u
theorem yw.refl (W:World):yw W W:=fun _ _ h=>h
theorem yw.trans {A B C:World} (h:yw A B) (k:yw B C):yw A C:=fun p u hu=>k p u (h p u hu)
theorem yw.put (W:World) (l:Nat) (o o':Obj) (hl:W.heap[l]? = some o) (ho:o.isCells=false):yw W (W.putObj l o'):=fun p u hu=>by
 have aq:p.block≠l:=by
  intro e;obtain⟨o2,h1,h2⟩:=cells_of_cell hu;rw[e,hl] at h1;injection h1 with h1
  rw[h1] at ho;rw[ho] at h2;cases h2
 exact(World.cell?_of_block (w:=W) (World.putObj_heap_other aq)).trans hu
theorem qh4 (n:Nat) (hn:1<=n) (l Bs:Nat) (v:Value) (L:List Ce) (W:World) (hS:SlC W v L) (hok:COk L)
  (J Jx:List Pr->World->Prop)
  (hY:∀ pre x W,J pre W->pre.length < (zk L).length->YieldAt Fence.wide (n - 1) Tryz.prog l (Pr.vs x) W fun e W' =>
   (e = .returned (.bool true)/\J (pre++[x]) W'/\yw W W')\/(e = .returned (.bool false)/\Jx (pre++[x]) W'))
  (Bi:W.cell? ⟨Bs,0,none⟩=some v) (hJ:∀ pre W W',J pre W->True->W.grownBy W' none->J pre W') (h0:J [] W) :
  CallsIn Fence.wide n Tryz.prog 142 #[.func (.yield l) #[] #[],.pointer (some ⟨Bs,0,none⟩)] W fun e W'=>(∃ v,e = .returned v) ∧
   ((∃ ys,ys.map Pr.raw=zk L/\J ys W')\/(∃ pre:List Pr,Jx pre W')):=by
 obtain⟨a,len,cap,rfl⟩:=qg hS.1;have HS:=lhd hS;have jG:=lhd hok;have HY:=lhd hY;have HJ:=lhd hJ;have bH:L.length=len:=by
  obtain⟨_,_,h3,_⟩:=hS.1.open;rw[qt Ce.qp] at h3;omega
 have HL:=lhd bH;have eJ:len<=maxLen:=by obtain⟨h1,h2,_⟩:=hS.1.open;omega
 unfold maxLen at eJ;clear hS hok hY hJ bH;refine callsIn_of_wp Tryz.func142 rfl trivial ?_ rfl;simp only [Tryz.ntmps142,List.size_toArray,gx,gU,Nat.reduceAdd,Nat.reduceSub,Array.replicate_succ,Array.replicate_zero,List.push_toArray,List.append_toArray,List.nil_append,bh]
 gi_wp2
 gi_loopw [10] (fun i wr=>∃ (k:Nat) (pre:List Pr),i = .int .i64 k/\k<=len/\Hid (pre.map Pr.raw=zk (L.take k))/\J pre wr/\yw W wr)
  (fun i _=>len - (vI i).toNat)
 case atStart=>exact⟨0,[],rfl,gp _,(show Hid _ from rfl),h0,yw.refl _⟩
 case round =>
  obtain⟨k,pre,rfl,hk,HP,hj,rf⟩:=hrel;by_cases hlt:k < len
  ·obtain⟨x,hx⟩ : ∃ x,L[k]? = some x:=⟨_,g8 (by rw[HL.out];exact hlt)⟩
   obtain⟨h2,h3,h4,h5,h6⟩:=HS.out.1.open;obtain⟨ad,rfl⟩ : ∃ ad,a=some ad:=by
    cases a with
    | none=>have:=h5 rfl;omega
    | some ad=>exact⟨ad,rfl⟩
   obtain⟨e0,e1,e2⟩:=zh L k x hx;have d0:wr.cell? (ad.add (k*3))=some (.int .i64 x.id):=rf _ _ (h6 ad rfl _ _ e0);have d1:wr.cell? ⟨(ad.add (k*3)).block,(ad.add (k*3)).off+1,none⟩=some (.int .i64 x.dim):=by rw[qi _ _ _ (by omega)];exact rf _ _ (h6 ad rfl _ _ e1)
   have d2:wr.cell? ⟨(ad.add (k*3)).block,(ad.add (k*3)).off+2,none⟩=some (.slice x.a x.n x.c):=by rw[qi _ _ _ (by omega)];exact rf _ _ (h6 ad rfl _ _ e2)
   have fe:=gh hx;have iT:=HS.out.2 x fe;obtain⟨⟨oJ,-⟩,-,iU⟩:=jG.out x fe;obtain⟨g2,g3,g4,g5,g6⟩:=iT.open;unfold maxLen at g3;have aW:x.s.length=x.n:=by rw[qt Sd.qp] at g4;omega
   have G2:=lhd g2;have fZ:x.n<=9223372036854775807:=gl g2 g3;have cw:zk (L.take (k+1))=zk (L.take k)++x.s.map (fun y=>(x.id,y)):=by
    rw[gq,hx,q0l];simp[zk]
   have oK:(zk (L.take k)).length+x.s.length<=(zk L).length:=by
    have e3:zk L=zk (L.take (k+1))++zk (L.drop (k+1)):=by rw[<-q0l,gr]
    have:=congrArg List.length e3;rw[cw,gc,gc,gn] at this;omega
   have cW:=lhd (aiq cw oK);have sW:=lhd (aiq oJ iU);have G5:=lhd g5;have G6:=lhd g6;have fR:=lhd aW;clear h2 h3 h4 h5 h6 e0 e1 e2 hx fe iT oJ iU g2 g4 g5 g6 aW cw oK;obtain⟨wo,dB⟩ : ∃ wo:World,wo=wr:=⟨_,rfl⟩
   subst dB;obtain⟨W1,ot⟩ : ∃ W1,W1=wo.alloc (.cells #[.int .i64 x.id,.int .i64 x.dim,.slice x.a x.n x.c] 75):=⟨_,rfl⟩
   have y0:W1.cell? ⟨wo.heap.size,0,none⟩=some (.int .i64 x.id):=by rw[ot];exact qd wo #[.int .i64 x.id,.int .i64 x.dim,.slice x.a x.n x.c] 75 (0,0) 0
   have y2:W1.cell? ⟨wo.heap.size,2,none⟩=some (.slice x.a x.n x.c):=by rw[ot];exact qd wo #[.int .i64 x.id,.int .i64 x.dim,.slice x.a x.n x.c] 75 (0,0) 2
   have CM:J pre W1:=by rw[ot];exact HJ.out pre wo _ hj trivial (World.grownBy_alloc wo _ none)
   have fD:yw W W1:=by rw[ot];exact rf.trans (fun p u hu=>qk hu _)
   have yP:=lhd ot;clear ot
   gi_wp2
   rw[<-yP.out]
   gi_loopw [17] (fun i wr=>∃ (j:Nat) (pre:List Pr),i = .int .i64 j/\j<=x.n/\Hid (pre.map Pr.raw=zk (L.take k)++(x.s.take j).map (fun y=>(x.id,y)))/\J pre wr/\yw W1 wr)
    (fun i _=>x.n - (vI i).toNat)
   case atStart=>exact⟨0,pre,rfl,gp _,(show Hid _ from by show _=_;rw[HP.out];simp),CM,yw.refl _⟩
   case round =>
    clear hj;obtain⟨j,pre,rfl,jO,J1,hj,ni⟩:=hrel;by_cases fE:j < x.n
    ·obtain⟨y,hy⟩ : ∃ y,x.s[j]? = some y:=⟨_,g8 (by rw[fR.out];exact fE)⟩
     obtain⟨bd,ew⟩ : ∃ ad,x.a=some ad:=by
      cases hxa:x.a with
      | none=>have:=G5.out hxa;have:=G2.out;omega
      | some ad=>exact⟨ad,rfl⟩
     rw[ew];obtain⟨f0,f1⟩:=zw x.s j y hy;have z0:wr.cell? (bd.add (j*2))=some (.int .i64 y.c):=ni _ _ (fD _ _ (G6.out bd ew _ _ f0));have z1:wr.cell? ⟨(bd.add (j*2)).block,(bd.add (j*2)).off+1,none⟩=some (.int .i64 y.g):=by rw[qi _ _ _ (by omega)];exact ni _ _ (fD _ _ (G6.out bd ew _ _ f1))
     have z2:wr.cell? ⟨wo.heap.size,0,none⟩=some (.int .i64 x.id):=ni _ _ y0;have z3:=qk z2 (.cells #[.int .i64 y.c,.int .i64 y.g] 108);have J2:=sW.out.2 y (gh hy);have cw:(x.s.take (j+1)).map (fun y=>(x.id,y))=(x.s.take j).map (fun y=>(x.id,y))++[(x.id,y)]:=by rw[gq,hy];simp
     have J3:=lhd cw;have dy:pre.length < (zk L).length:=by
      have h1:=congrArg List.length J1.out;rw[gn,gc,gn,gd] at h1;have:=cW.out.2;have:=fR.out;omega
     obtain⟨pr,CN,CO⟩ : ∃ pr:Pr,Pr.raw pr=(x.id,y)/\Pr.vs pr=#[.int .i64 x.id,.agg #[.int .i64 y.c,.int .i64 y.g]]:=⟨⟨x.id,y,sW.out.1,J2.1,J2.2⟩,rfl,rfl⟩
     have IW:J pre (wr.alloc (.cells #[.int .i64 y.c,.int .i64 y.g] 108)):=HJ.out pre wr _ hj trivial (World.grownBy_alloc wr _ none);obtain⟨fn,tmps,assign,body,jH,hR⟩:=HY.out pre pr _ IW dy;rw[CO] at jH;have Tk:=lhd CN;clear f0 f1 hy J2 cw dy CN CO hj IW
     gi_wp2
     refine hR.mono ?_;rintro e W3 (⟨rfl,Jh,Cu⟩ | ⟨rfl,yH⟩)
     ·gi_wp2
      go_roundw
      case rel=>exact⟨j+1,pre++[pr],qh (by omega),by omega,(show Hid _ from by show _=_;rw[bm,J1.out,J3.out,<-gE];simp[Tk.out]),Jh,ni.trans (fun p u hu=>Cu p u (qk hu _))⟩
      case measure=>simp[vI];omega
     ·gi_wp2
      refine bodyPost_ret (results_none rfl _ _ _) rfl ?_;exact⟨⟨_,rfl⟩,.inr ⟨_,yH⟩⟩
    ·have Oe:j=x.n:=by omega
     have Tl:=lhd Oe;clear Oe
     gi_wp2
     go_roundw
     case rel=>exact⟨k+1,pre,qh (by omega),by omega,(show Hid _ from by show _=_;rw[J1.out,cW.out.1,Tl.out,gm (l:=x.s) (by have:=fR.out;omega)]),hj,fD.trans ni⟩
     case measure=>simp[vI];omega
  ·have aZ:k=len:=by omega
   have qX:=lhd aZ;clear aZ
   gi_wp2
   go_end0
   refine⟨⟨_,rfl⟩,.inl ⟨pre,?_,hj⟩⟩;rw[HP.out,qX.out,gm (by rw[HL.out];exact nlr _)]
end Go.Proofs.YtlhicnfeajejhaaGreatDoor
