/- chains: Vector. A range over a map, in whose rounds the element at a key that is there is stored anew. chains: Scale. chains.sides: what it visits. -/
import Derived.Test.YtlhicnfeajejhaaGreatDoorJMi
set_option maxRecDepth 1000000
set_option maxHeartbeats 16000000
namespace Go.Cx
open Go.RowKit
def wvs (l:List Int):List Value:=l.flatMap fun x=>[.bool (decide (x < 0)),.string (mg x)]
theorem qdb (l m:List Int):wvs (l++m)=wvs l++wvs m:=by simp[wvs]
theorem qmy (x:Int):wvs [x]=[.bool (decide (x < 0)),.string (mg x)]:=by simp[wvs]
theorem q2j (l:List Int):(wvs l).length=l.length*2:=by
 induction l with
 | nil=>rfl
 | cons x l ih=>show (wvs ([x]++l)).length=_;rw[qdb,List.length_append,ih,qmy];simp;omega
theorem q7p (l:List Int) (i:Nat) (x:Int) (h:l[i]? = some x):(wvs l)[i*2]? = some (.bool (decide (x < 0)))/\(wvs l)[i*2+1]? = some (.string (mg x)):=by
 induction l generalizing i with
 | nil=>simp at h
 | cons u l ih =>
  have e:wvs (u :: l) = .bool (decide (u < 0)) :: .string (mg u) :: wvs l:=rfl;rw[e];cases i with
  | zero=>simp at h;subst h;simp
  | succ i =>
   have:=ih i (by simpa using h);rw[show (i+1)*2=i*2+1+1 by omega,show i*2+1+1+1=(i*2+1)+1+1 by omega];simpa using this
end Go.Cx
namespace Go.Proofs.YtlhicnfeajejhaaGreatDoor
open Go.RowKit Go.Cx
attribute [local go_sem ↓] Go.wp_at_zero Go.wp_at_succ
theorem Tryz.qpw:(Tryz.prog.info? 38).map (fun i=>(i.zero,i.size,i.bytes))=some (some (.agg #[.bool false,.string ⟨#[]⟩]),2,24):=by kernel_rfl
end Go.Proofs.YtlhicnfeajejhaaGreatDoor
namespace Go.Cx
open Go.RowKit Go.Maps Go.WideElems Go.WideShapes
open Go.ChangeMaps (setBlock modify_eq_set heap_setBlock_same heap_setBlock_other)
variable {P:Program} {k t e:TypeId} {w:World} {b r n:Nat} {D:DataW Value} {left:Lit->Bool} {cnt:Nat}
def Hg (D:DataW Value) (g:Int->Option Value):Prop:=∀ x,has D (.int .i64 x)=(g x).isSome/\∀ v,g x=some v->∀ z,D.atKey (.int .i64 x) z = .held v
theorem Hg.qh3 {D:DataW Value} {g:Int->Option Value} (h:Hg D g) {x:Int} {c:Value} (hat:∀ z,D.atKey (.int .i64 x) z = .held c):g x=some c:=by
 cases hg:g x with
 | some v =>
  have h1:=(h x).2 v hg .nil;rw[hat] at h1;injection h1 with h1;rw[h1]
 | none =>
  have h1:=(h x).1;rw[hg] at h1;have h2:=hat .nil;rw[atKey_of_not_has (by simpa using h1)] at h2;cases h2
end Go.Cx
namespace Go.Proofs.YtlhicnfeajejhaaGreatDoor
open Go.RowKit Go.Cx Go.Maps
attribute [local go_sem ↓] Go.wp_at_zero Go.wp_at_succ
end Go.Proofs.YtlhicnfeajejhaaGreatDoor
namespace Go.Proofs.YtlhicnfeajejhaaGreatDoor
open Go.RowKit Go.Cx Go.Shelf
attribute [local go_sem] Oper.semAt_some
structure Pr where
 i:Int
 y:Sd
 hi:I64 i
 hc:I64 y.c
 hg:I64 y.g
def Pr.raw (p:Pr):Int×Sd:=(p.i,p.y)
def Pr.vs (p:Pr):Array Value:=#[.int .i64 p.i,.agg #[.int .i64 p.y.c,.int .i64 p.y.g]]
def zk (L:List Ce):List (Int×Sd):=L.flatMap fun x=>x.s.map fun y=>(x.id,y)
theorem q0l (L M:List Ce):zk (L++M)=zk L++zk M:=by simp[zk]
def yw (W W':World):Prop:=∀ p u,W.cell? p=some u->W'.cell? p=some u
theorem yw.refl (W:World):yw W W:=fun _ _ h=>h
theorem yw.trans {A B C:World} (h:yw A B) (k:yw B C):yw A C:=fun p u hu=>k p u (h p u hu)
theorem yw.put (W:World) (l:Nat) (o o':Obj) (hl:W.heap[l]? = some o) (ho:o.isCells=false):yw W (W.putObj l o'):=fun p u hu=>by
 have hne:p.block≠l:=by
  intro e;obtain⟨o2,h1,h2⟩:=cells_of_cell hu;rw[e,hl] at h1;injection h1 with h1
  rw[h1] at ho;rw[ho] at h2;cases h2
 exact(World.cell?_of_block (w:=W) (World.putObj_heap_other hne)).trans hu
theorem qh4 (n:Nat) (hn:1<=n) (l Bs:Nat) (v:Value) (L:List Ce) (W:World) (hS:SlC W v L) (hok:COk L)
  (J Jx:List Pr->World->Prop)
  (hY:∀ pre x W,J pre W->pre.length < (zk L).length->YieldAt Fence.wide (n - 1) Tryz.prog l (Pr.vs x) W fun e W' =>
   (e = .returned (.bool true)/\J (pre++[x]) W'/\yw W W')\/(e = .returned (.bool false)/\Jx (pre++[x]) W'))
  (hBs:W.cell? ⟨Bs,0,none⟩=some v) (hJ:∀ pre W W',J pre W->True->W.grownBy W' none->J pre W') (h0:J [] W) :
  CallsIn Fence.wide n Tryz.prog 142 #[.func (.yield l) #[] #[],.pointer (some ⟨Bs,0,none⟩)] W fun e W'=>(∃ v,e = .returned v) ∧
   ((∃ ys,ys.map Pr.raw=zk L/\J ys W')\/(∃ pre:List Pr,Jx pre W')):=by
 obtain⟨a,len,cap,rfl⟩:=qg hS.1;have HS:=lhd hS;have HOK:=lhd hok;have HY:=lhd hY;have HJ:=lhd hJ;have hll:L.length=len:=by
  obtain⟨_,_,h3,_⟩:=hS.1.open;rw[qt Ce.qp] at h3;omega
 have HL:=lhd hll;have hcm:len<=maxLen:=by obtain⟨h1,h2,_⟩:=hS.1.open;omega
 unfold maxLen at hcm;clear hS hok hY hJ hll;refine callsIn_of_wp Tryz.func142 rfl trivial ?_ rfl;simp only [Tryz.ntmps142,List.size_toArray,List.length_cons,List.length_nil,Nat.reduceAdd,Nat.reduceSub,Array.replicate_succ,Array.replicate_zero,List.push_toArray,List.append_toArray,List.nil_append,List.cons_append]
 gi_wp2
 gi_loopw [10] (fun i wr=>∃ (k:Nat) (pre:List Pr),i = .int .i64 k/\k<=len/\Hid (pre.map Pr.raw=zk (L.take k))/\J pre wr/\yw W wr)
  (fun i _=>len - (vI i).toNat)
 case atStart=>exact⟨0,[],rfl,Nat.zero_le _,(show Hid _ from rfl),h0,yw.refl _⟩
 case round =>
  obtain⟨k,pre,rfl,hk,HP,hj,hkc⟩:=hrel;by_cases hlt:k < len
  ·obtain⟨x,hx⟩ : ∃ x,L[k]? = some x:=⟨_,List.getElem?_eq_getElem (by rw[HL.out];exact hlt)⟩
   obtain⟨h2,h3,h4,h5,h6⟩:=HS.out.1.open;obtain⟨ad,rfl⟩ : ∃ ad,a=some ad:=by
    cases a with
    | none=>have:=h5 rfl;omega
    | some ad=>exact⟨ad,rfl⟩
   obtain⟨e0,e1,e2⟩:=zh L k x hx;have d0:wr.cell? (ad.add (k*3))=some (.int .i64 x.id):=hkc _ _ (h6 ad rfl _ _ e0);have d1:wr.cell? ⟨(ad.add (k*3)).block,(ad.add (k*3)).off+1,none⟩=some (.int .i64 x.dim):=by rw[qi _ _ _ (by omega)];exact hkc _ _ (h6 ad rfl _ _ e1)
   have d2:wr.cell? ⟨(ad.add (k*3)).block,(ad.add (k*3)).off+2,none⟩=some (.slice x.a x.n x.c):=by rw[qi _ _ _ (by omega)];exact hkc _ _ (h6 ad rfl _ _ e2)
   have hxm:=List.mem_of_getElem? hx;have hsx:=HS.out.2 x hxm;obtain⟨⟨hxi,-⟩,-,hsd⟩:=HOK.out x hxm;obtain⟨g2,g3,g4,g5,g6⟩:=hsx.open;unfold maxLen at g3;have hsl:x.s.length=x.n:=by rw[qt Sd.qp] at g4;omega
   have G2:=lhd g2;have hxn:x.n<=9223372036854775807:=Nat.le_trans g2 g3;have htk:zk (L.take (k+1))=zk (L.take k)++x.s.map (fun y=>(x.id,y)):=by
    rw[List.take_add_one,hx,q0l];simp[zk]
   have hrl:(zk (L.take k)).length+x.s.length<=(zk L).length:=by
    have e3:zk L=zk (L.take (k+1))++zk (L.drop (k+1)):=by rw[<-q0l,List.take_append_drop]
    have:=congrArg List.length e3;rw[htk,List.length_append,List.length_append,List.length_map] at this;omega
   have HTK:=lhd (aiq htk hrl);have HSD:=lhd (aiq hxi hsd);have G5:=lhd g5;have G6:=lhd g6;have HSL:=lhd hsl;clear h2 h3 h4 h5 h6 e0 e1 e2 hx hxm hsx hxi hsd g2 g4 g5 g6 hsl htk hrl;obtain⟨wo,hwo⟩ : ∃ wo:World,wo=wr:=⟨_,rfl⟩
   subst hwo;obtain⟨W1,hW1⟩ : ∃ W1,W1=wo.alloc (.cells #[.int .i64 x.id,.int .i64 x.dim,.slice x.a x.n x.c] 75):=⟨_,rfl⟩
   have y0:W1.cell? ⟨wo.heap.size,0,none⟩=some (.int .i64 x.id):=by rw[hW1];exact qd wo #[.int .i64 x.id,.int .i64 x.dim,.slice x.a x.n x.c] 75 (0,0) 0
   have y2:W1.cell? ⟨wo.heap.size,2,none⟩=some (.slice x.a x.n x.c):=by rw[hW1];exact qd wo #[.int .i64 x.id,.int .i64 x.dim,.slice x.a x.n x.c] 75 (0,0) 2
   have hj1:J pre W1:=by rw[hW1];exact HJ.out pre wo _ hj trivial (World.grownBy_alloc wo _ none)
   have hk1:yw W W1:=by rw[hW1];exact hkc.trans (fun p u hu=>qk hu _)
   have HW1:=lhd hW1;clear hW1
   gi_wp2
   rw[<-HW1.out]
   gi_loopw [17] (fun i wr=>∃ (j:Nat) (pre:List Pr),i = .int .i64 j/\j<=x.n/\Hid (pre.map Pr.raw=zk (L.take k)++(x.s.take j).map (fun y=>(x.id,y)))/\J pre wr/\yw W1 wr)
    (fun i _=>x.n - (vI i).toNat)
   case atStart=>exact⟨0,pre,rfl,Nat.zero_le _,(show Hid _ from by show _=_;rw[HP.out];simp),hj1,yw.refl _⟩
   case round =>
    clear hj;obtain⟨j,pre,rfl,hjn,HP2,hj,hkc2⟩:=hrel;by_cases hlt2:j < x.n
    ·obtain⟨y,hy⟩ : ∃ y,x.s[j]? = some y:=⟨_,List.getElem?_eq_getElem (by rw[HSL.out];exact hlt2)⟩
     obtain⟨bd,hbd⟩ : ∃ ad,x.a=some ad:=by
      cases hxa:x.a with
      | none=>have:=G5.out hxa;have:=G2.out;omega
      | some ad=>exact⟨ad,rfl⟩
     rw[hbd];obtain⟨f0,f1⟩:=zw x.s j y hy;have z0:wr.cell? (bd.add (j*2))=some (.int .i64 y.c):=hkc2 _ _ (hk1 _ _ (G6.out bd hbd _ _ f0));have z1:wr.cell? ⟨(bd.add (j*2)).block,(bd.add (j*2)).off+1,none⟩=some (.int .i64 y.g):=by rw[qi _ _ _ (by omega)];exact hkc2 _ _ (hk1 _ _ (G6.out bd hbd _ _ f1))
     have z2:wr.cell? ⟨wo.heap.size,0,none⟩=some (.int .i64 x.id):=hkc2 _ _ y0;have z3:=qk z2 (.cells #[.int .i64 y.c,.int .i64 y.g] 108);have hym:=HSD.out.2 y (List.mem_of_getElem? hy);have htk:(x.s.take (j+1)).map (fun y=>(x.id,y))=(x.s.take j).map (fun y=>(x.id,y))++[(x.id,y)]:=by rw[List.take_add_one,hy];simp
     have HTK2:=lhd htk;have hpl:pre.length < (zk L).length:=by
      have h1:=congrArg List.length HP2.out;rw[List.length_map,List.length_append,List.length_map,List.length_take] at h1;have:=HTK.out.2;have:=HSL.out;omega
     obtain⟨pr,hpr1,hpr2⟩ : ∃ pr:Pr,Pr.raw pr=(x.id,y)/\Pr.vs pr=#[.int .i64 x.id,.agg #[.int .i64 y.c,.int .i64 y.g]]:=⟨⟨x.id,y,HSD.out.1,hym.1,hym.2⟩,rfl,rfl⟩
     have hj3:J pre (wr.alloc (.cells #[.int .i64 y.c,.int .i64 y.g] 108)):=HJ.out pre wr _ hj trivial (World.grownBy_alloc wr _ none);obtain⟨fn,tmps,assign,body,hyd,hR⟩:=HY.out pre pr _ hj3 hpl;rw[hpr2] at hyd;have HPR:=lhd hpr1;clear f0 f1 hy hym htk hpl hpr1 hpr2 hj hj3
     gi_wp2
     refine hR.mono ?_;rintro e W3 (⟨rfl,hJ3,hk3⟩ | ⟨rfl,hJx3⟩)
     ·gi_wp2
      go_roundw
      case rel=>exact⟨j+1,pre++[pr],qh (by omega),by omega,(show Hid _ from by show _=_;rw[List.map_append,HP2.out,HTK2.out,<-List.append_assoc];simp[HPR.out]),hJ3,hkc2.trans (fun p u hu=>hk3 p u (qk hu _))⟩
      case measure=>simp[vI];omega
     ·gi_wp2
      refine bodyPost_ret (results_none rfl _ _ _) rfl ?_;exact⟨⟨_,rfl⟩,.inr ⟨_,hJx3⟩⟩
    ·have hjx:j=x.n:=by omega
     have HJX:=lhd hjx;clear hjx
     gi_wp2
     go_roundw
     case rel=>exact⟨k+1,pre,qh (by omega),by omega,(show Hid _ from by show _=_;rw[HP2.out,HTK.out.1,HJX.out,List.take_of_length_le (l:=x.s) (by have:=HSL.out;omega)]),hj,hk1.trans hkc2⟩
     case measure=>simp[vI];omega
  ·have hkl:k=len:=by omega
   have HKL:=lhd hkl;clear hkl
   gi_wp2
   go_end0
   refine⟨⟨_,rfl⟩,.inl ⟨pre,?_,hj⟩⟩;rw[HP.out,HKL.out,List.take_of_length_le (by rw[HL.out];exact nlr _)]
end Go.Proofs.YtlhicnfeajejhaaGreatDoor
