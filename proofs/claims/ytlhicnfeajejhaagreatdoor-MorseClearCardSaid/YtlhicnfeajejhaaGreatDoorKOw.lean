/- cocycleref07: Vector. The numbers of a simplicial complex's cells, both ways. No program. -/
import Derived.Deep.OwnRows
import Derived.StillTailTactics
import Derived.Test.YtlhicnfeajejhaaGreatDoorKOn
import Derived.Test.YtlhicnfeajejhaaGreatDoorKOo
set_option maxRecDepth 1000000
set_option maxHeartbeats 16000000
namespace Go.Proofs.YtlhicnfeajejhaaGreatDoor
open Go.RowKit Go.Cx
attribute [local go_sem ↓] Go.wp_at_zero Go.wp_at_succ
end Go.Proofs.YtlhicnfeajejhaaGreatDoor
namespace Go.Cx
open Go.RowKit
def Asc (K:List Cl):Prop:=K.Pairwise fun x y=>x.id < y.id
theorem qky {a b:List Cl} (h:Asc (a++b)):mrg Cl.id a b=a++b:=by
 fun_induction mrg Cl.id a b with
 | case1 b=>rfl
 | case2 x a=>simp
 | case3 x a y b hk ih =>
  have:=(List.pairwise_append.1 h).2.2 x (List.mem_cons_self ..) y (List.mem_cons_self ..);omega
 | case4 x a y b hk ih =>
  rw[ih (List.pairwise_cons.1 h).2];rfl
theorem Asc.map {K:List Cl} (h:Asc K) (f:Cl->Cl) (hf:∀ x,(f x).id=x.id):Asc (K.map f):=by
 unfold Asc;rw[List.pairwise_map];exact h.imp fun {x y} hxy=>by rw[hf,hf];exact hxy
theorem qap {K:List Cl} (h:Asc K):q26 K=K.map fun x=>⟨x.id,x.dim,zx x.s⟩:=by
 fun_induction q26 K with
 | case1 l hl=>rfl
 | case2 l hl ih1 ih2 =>
  have h':=h;rw[<-List.take_append_drop (l.length / 2) l] at h';obtain⟨h1,h2,_⟩:=List.pairwise_append.1 h';rw[ih1 h1,ih2 h2,qky,<-List.map_append,List.take_append_drop];rw[<-List.map_append,List.take_append_drop];exact h.map _ fun _=>rfl
theorem qkz {K:List Cl} (h:Asc K):∀ p:Option Int,(∀ x∈K,p≠some x.id)->nub Cl.id p K=K:=by
 induction K with
 | nil=>intro p _;rfl
 | cons x K ih =>
  intro p hp;obtain⟨h1,h2⟩:=List.pairwise_cons.1 h;unfold nub;rw[if_neg (hp x (List.mem_cons_self ..)),ih h2 _ fun y hy e=>by
   have:=h1 y hy;injection e with e
   omega]
theorem q08 {K:List Cl} (h:Asc K):xb Cl.id K=K:=by
 induction K with
 | nil=>rfl
 | cons x K ih =>
  obtain⟨h1,h2⟩:=List.pairwise_cons.1 h;show x :: (xb Cl.id K).filter _=_;rw[ih h2]
  congr 1
  refine List.filter_eq_self.2 fun y hy=>?_
  have:=h1 y hy;simpa using show ¬ y.id=x.id by omega
theorem q09 (A:List (List Int)) (n:Nat):Asc (xf A n):=by
 unfold Asc xf;rw[List.pairwise_map];exact List.pairwise_lt_range.imp fun {i j} hij=>by show (i:Int)+1 < (j:Int)+1;omega
end Go.Cx
namespace Go.Proofs.YtlhicnfeajejhaaGreatDoor
open Go.RowKit Go.Cx
theorem qp4 (v u:Value) (K:List Cl) (l:List Tm) (g:Int->Int) (N S R T:Nat) (w:World) (h:(Fk.cx K).holds v w) (k:Sl w 3 u (tv l)) (hK:KOk K) (hS:TOk S l) (hN:l.length=N) (hR:(z8 K).length<=R) (hT:S+N+8+R<=T) (hb:N+T<=1000000) (hg:∀ c,co (bdL (co (prs l)) (z8 K)) c=g c) :
  Calls Tryz.prog 49 #[v,u] w (qaj (.cf g R T) w):=by
 obtain⟨x,m,rfl,h3,h4⟩:=h;have hc:=qc2 x m u l S w h3 (hK.cok h4) k hS (by rw[q2q,h4];omega);rw[q2q,h4,show co (bdL (co (prs l)) (z8 K))=g from funext hg] at hc;refine(qhx hc (S:=T) (fun c=>?_) (fun c hc0=>?_)).mono fun e w' ⟨r,he,hr,hb⟩=>⟨r,he,qko hr (fun _=>rfl) hR (nlr _),hb⟩
 ·rw[<-hg];have h1:=q0y (S+N+8) (bdL (co (prs l)) (z8 K)) (fun p hp=>by
   obtain⟨q,hq,rfl⟩:=List.mem_map.1 hp;have h1:=q39 (co (prs l) q.1) q.2.g;have h2:=qnh hS q.1;have h3:=(qab hK hq).2.2;have h4:=q48 q.2.g h3.1 h3.2;show nb (co (prs l) q.1*q.2.g)<=_;omega) c
  rw[q5c] at h1;omega
 ·rw[<-hg] at hc0;rcases Classical.em (∃ p∈bdL (co (prs l)) (z8 K),p.1=c) with ⟨p,hp,rfl⟩ | hn
  ·obtain⟨q,hq,rfl⟩:=List.mem_map.1 hp;exact(qab hK hq).2.1
  ·exact absurd (qks fun p hp e=>hn ⟨p,hp,e⟩) hc0
def InK (K:List Cl) (d:Int) (l:List Tm):Prop:=∀ c,co (prs l) c≠0->∃ x∈K,x.id=c/\x.dim=d
theorem qqm (v u:Value) (K:List Cl) (l:List Tm) (d:Int) (q:Bool) (S:Nat) (w:World) (h:(Fk.cx K).holds v w) (k:Sl w 3 u (tv l)) (hK:KOk K) (hS:TOk S l) (hb:S+l.length<=1000000) (hKl:K.length<=1000) (hq:q=true↔InK K d l) :
  Calls Tryz.prog 80 #[v,.int .i64 d,u] w (qaj (.val (.bool q)) w):=by
 obtain⟨x,m,rfl,h3,h4⟩:=h;refine(qq0 x m d u l S w h3 (by rw[<-h4,List.length_map] at hKl;omega) (hK.cok h4) k hS (by omega)).mono fun e w' ⟨q',he,h1,hb⟩=>⟨_,he,?_,hb⟩
 show Value.bool q' = .bool q;rw[Bool.eq_iff_iff.2 (h1.trans (Iff.trans ?_ hq.symm))];unfold InK;rw[<-h4];exact forall_congr' fun c=>imp_congr Iff.rfl (qml m c d)
theorem qp5 (v u:Value) (K:List Cl) (l:List Tm) (d:Int) (q:Bool) (S:Nat) (w:World) (h:(Fk.cx K).holds v w) (k:Sl w 3 u (tv l)) (hS:TOk S l) (hb:S+l.length<=1000000) (hq:q=true↔InK K d l) :
  Calls Tryz.prog 48 #[v,.int .i64 d,u] w (qaj (.val (.bool q)) w):=by
 obtain⟨x,m,rfl,h3,h4⟩:=h;refine(qq1 x m d u l S w h3 k hS (by omega)).mono fun e w' ⟨q',he,h1,hb⟩=>⟨_,he,?_,hb⟩
 show Value.bool q' = .bool q;rw[Bool.eq_iff_iff.2 (h1.trans (Iff.trans ?_ hq.symm))];unfold InK;rw[<-h4];exact forall_congr' fun c=>imp_congr Iff.rfl (qml m c d)
end Go.Proofs.YtlhicnfeajejhaaGreatDoor
namespace Go.Cx
open Go.RowKit
variable {P:Program} {ops:Array Oper} {Q:Exit->Act->World->Prop}
end Go.Cx
namespace Go.Proofs.YtlhicnfeajejhaaGreatDoor
open Go.RowKit Go.Cx
variable {P:Program} {ops:Array Oper} {Q:Exit->Act->World->Prop}
theorem q78 {B p:Nat} {w w':World} (h:Below B w w') (hp:B<=p) (x y:Value):Below B w ((w'.setCell ⟨p,0,none⟩ x).setCell ⟨p,1,none⟩ y) :=
 (h.setCell hp x).setCell hp y
end Go.Proofs.YtlhicnfeajejhaaGreatDoor
namespace Go.Proofs.YtlhicnfeajejhaaGreatDoor
open Go.RowKit Go.Cx
attribute [local go_sem ↓] Go.wp_at_zero Go.wp_at_succ
theorem q8z {ops:Array Oper} {a a0:Act} {n:Nat} (hn:a.tmps.size=n) (hdf:a.defers=a0.defers) (hb:∀ s,(∀ (i:Nat) (o:Oper),ops[i]? = some o->o.dst≠some s)->a.tmps.getD s undef=a0.tmps.getD s undef):a=⟨((List.range n).map fun i=>if qhv ops i then a0.tmps.getD i undef else a.tmps.getD i undef).toArray,a0.defers⟩:=by
 obtain⟨t,d⟩:=a;simp only at hn hdf hb;subst hdf
 congr 1
 refine Array.ext (by simp[hn]) fun i h1 h2=>?_
 have e:t[i]=t.getD i undef:=by rw[Array.getD_eq_getD_getElem?,Array.getElem?_eq_getElem h1];rfl
 show t[i]=_;rw[e];simp only [List.getElem_toArray,List.getElem_map,List.getElem_range];by_cases h:qhv ops i=true
 ·rw[if_pos h];exact hb i (qu h)
 ·rw[if_neg h]
theorem qc9 {P:Program} {Q:Exit->Act->World->Prop} {o:Oper} {a:Act} {w:World} {K:Act->World->Prop} (t:Nat) (x y:Operand) (hop:o.op = .indexAddr t x y) (v1 v2:Value) (h1:a.eval x=v1) (h2:a.eval y=v2) (v:Value) (hrun:(Instr.indexAt t v1 v2).run P w = .ok v w) (h:K (a.put o.dst v) w):Oper.wp P o a w K Q:=by
 subst h1 h2;unfold Oper.wp;simp[execOp,hop,hrun,Result.andThen];exact h
theorem qe0 (w:World) (p:Addr) (x:Int) (h1:w.cell? p=some (.int .i64 x)):(Instr.loadAt 3 (.pointer (some p))).run Tryz.prog w = .ok (.int .i64 x) w:=by
 simp[go_sem,h1]
end Go.Proofs.YtlhicnfeajejhaaGreatDoor
namespace Go.Proofs.YtlhicnfeajejhaaGreatDoor
open Go.RowKit Go.Cx
theorem qi5 {Q:Exit->Act->World->Prop} {K:Act->World->Prop} {o:Oper} {a:Act} {w:World} {t e:TypeId} (x:Operand) (hop:o.op = .call { callee:=.builtin .len,args:=#[x],argTypes:=#[t] }) (ht:Tryz.prog.underlying t=some (.slice e)) (ad:Option Addr) (n c:Nat) (hx:a.eval x = .slice ad n c) (h:K (a.put o.dst (.int .i64 n)) w):Oper.wp Tryz.prog o a w K Q:=by
 unfold Oper.wp;have:(execOp a.eval o).run Tryz.prog w = .ok (.value (.int .i64 n)) w:=by
  generalize a.eval=ρ at hx;simp[execOp,hop,resolve,invoke,hx,builtin,Builtin.len_,run_underlying ht,goInt,Result.andThen]
 rw[this];exact h
end Go.Proofs.YtlhicnfeajejhaaGreatDoor
namespace Go.Proofs.YtlhicnfeajejhaaGreatDoor
open Go.RowKit Go.Cx
attribute [local go_sem ↓] Go.wp_at_zero Go.wp_at_succ
theorem qnm (v:Value) (l:List Ce) (i0:Nat) (x0:Ce) (w:World) (h:Sl w 3 v (cat Ce.enc l)) (hl:l.length<=1000000) (hs:l.Pairwise fun x y=>x.id < y.id) (hx0:l[i0]? = some x0) :
  Calls Tryz.prog 84 #[v,.int .i64 x0.id] w fun e w'=>e = .returned (.int .i64 i0)/\Below w.heap.size w w':=by
 obtain⟨a,n,cap,rfl⟩:=qg h;have hlen:l.length=n:=by
  obtain⟨_,_,h3,_⟩:=h.open;rw[qt Ce.qp] at h3;omega
 have hi0:i0 < n:=by
  have:=(List.getElem?_eq_some_iff.1 hx0).1;omega
 obtain⟨hc1,hc2,_⟩:=h.open;unfold maxLen at hc2;rw[hlen] at hl;obtain⟨id,hid⟩ : ∃ d,d=x0.id:=⟨_,rfl⟩
 have hlt:∀ (j:Nat) (y:Ce),l[j]? = some y->(j < i0->y.id < id)/\(i0 < j->id < y.id):=fun j y hy=>by
  obtain⟨hj,hje⟩:=List.getElem?_eq_some_iff.1 hy;obtain⟨hk,hke⟩:=List.getElem?_eq_some_iff.1 hx0;rw[hid];refine⟨fun h=>?_,fun h=>?_⟩
  ·have:=List.pairwise_iff_getElem.1 hs j i0 hj hk h
   rwa [hje,hke] at this
  ·have:=List.pairwise_iff_getElem.1 hs i0 j hk hj h
   rwa [hje,hke] at this
 rw[<-hid];have HH:=lhd (aiq h (aiq hlen (aiq hlt (aiq hx0 hid))));clear h hlen hlt hs hx0 hid;go_enter Tryz.func84,Tryz.ntmps84;go_wp2_with fail;go_loopw [5,6] (fun p q wr=>∃ lo hi:Nat,p = .int .i64 lo/\q = .int .i64 hi/\lo<=i0/\i0<=hi/\hi<=n/\Below w.heap.size w wr) (fun p q _=>(vI q).toNat - (vI p).toNat)
 case atStart=>exact⟨0,n,rfl,rfl,Nat.zero_le _,by omega,nlr _,Below.refl _ _⟩
 case round =>
  obtain⟨lo,hi,rfl,rfl,h1,h2,h3,hB⟩:=hrel;obtain⟨ad,hade⟩ : ∃ ad,a=some ad:=by
   cases a with
   | none=>have:=HH.out.1.open.2.2.2.1 rfl;omega
   | some ad=>exact⟨ad,rfl⟩
  subst hade;obtain⟨_,_,_,_,h6⟩:=HH.out.1.open;by_cases hlh:lo < hi
  ·obtain⟨m,hm⟩ : ∃ m,m=(lo+hi) / 2:=⟨_,rfl⟩
   have hm1:lo<=m/\m < hi:=by omega
   obtain⟨y,hy⟩ : ∃ y,l[m]? = some y:=⟨_,List.getElem?_eq_getElem (by rw[HH.out.2.1];omega)⟩
   have d0:wr.cell? (ad.add (m*3))=some (.int .i64 y.id):=Cx.q8 hB (h6 ad rfl _ _ (zh l m y hy).1);have hsum:IntKind.i64.wrap ((lo:Int)+hi)=(lo:Int)+hi:=IntWalk.i64_in _ (by omega);have hq:((lo:Int)+hi).tdiv 2=(m:Int):=by rw[Int.tdiv_eq_ediv_of_nonneg (by omega)];omega
   have hq2:((lo:Int)+hi) / 2=(m:Int):=by omega
   have hmI:(m:Int) < n:=by omega
   have hwm:IntKind.i64.wrap (m:Int)=(m:Int):=IntWalk.i64_in _ (by omega);have HY:=lhd (HH.out.2.2.1 m y hy);have HYY:=lhd hy;clear h6 hy hm;by_cases hc:y.id < id
   ·have hmi:m < i0:=by
     rcases Nat.lt_trichotomy m i0 with h | h | h
     ·exact h
     ·have hy2:=HYY.out;rw[h,HH.out.2.2.2.1] at hy2;cases hy2
      rw[HH.out.2.2.2.2] at hc;omega
     ·have:=HY.out.2 h;omega
    go_wp2;go_roundw
    case measure=>simp[vI];omega
    case rel=>exact⟨m+1,hi,qh (by omega),rfl,by omega,h2,h3,hB⟩
   ·have hmi:i0<=m:=by
     rcases Nat.lt_or_ge m i0 with h | h
     ·have:=HY.out.1 h;omega
     ·exact h
    go_wp2;go_roundw
    case measure=>simp[vI];omega
    case rel=>exact⟨lo,m,rfl,rfl,h1,hmi,by omega,hB⟩
  ·have hle:lo=i0:=by omega
   subst hle;have d0:wr.cell? (ad.add (lo*3))=some (.int .i64 id):=Cx.q8 hB (h6 ad rfl _ _ (by rw[HH.out.2.2.2.2];exact(zh l lo x0 HH.out.2.2.2.1).1));have hln:(lo:Int) < n:=by omega
   have hbb:(id == id)=true:=by simp
   clear h6;go_wp2;go_ret;exact⟨rfl,hB⟩
end Go.Proofs.YtlhicnfeajejhaaGreatDoor
namespace Go.Cx
open Go.RowKit
variable {P:Program} {ops:Array Oper} {Q:Exit->Act->World->Prop}
end Go.Cx
namespace Go.Proofs.YtlhicnfeajejhaaGreatDoor
open Go.RowKit Go.Cx
attribute [local go_sem ↓] Go.wp_at_zero Go.wp_at_succ
theorem qp6 {w:World} {b:Nat} {x:Int} (h0:w.cell? ⟨b,0,none⟩=some (.bool (decide (x < 0)))) (h1:w.cell? ⟨b,1,none⟩=some (.string (mg x))):(Instr.loadAt 38 (.pointer (some ⟨b,0,none⟩))).run Tryz.prog w = .ok (wv x) w:=by
 show _=Result.ok (Value.agg #[.bool (decide (x < 0)),.string (mg x)]) w;simp[go_sem,h0,h1]
theorem qi6 (z:Value) (n i:Nat) (h:i < n):(madeCells #[z] n)[i]? = some z:=by
 unfold madeCells;rw[Array.getElem?_map,Array.getElem?_range,if_pos h];simp[show i % 1=0 by omega]
theorem qp7 (n:Nat) (hn:n<=1000000) (w:World):(Instr.makeSlice 22 (.int .i64 (n:Int)) (.int .i64 (n:Int))).run Tryz.prog w = .ok (.slice (some ⟨w.heap.size,0,none⟩) n n) (w.alloc (.cells (madeCells #[.int .i64 0] n) 3)) :=
 run_make_row' 22 3 _ 8 Tryz.underlying22 Tryz.xg rfl .i64 .i64 n (by omega) (by omega) w
def se (s:List Sd) (r:Int):Int:=co (s.map fun y=>(y.c,y.g)) r
end Go.Proofs.YtlhicnfeajejhaaGreatDoor
namespace Go.Proofs.YtlhicnfeajejhaaGreatDoor
open Go.RowKit Go.Cx
theorem q6b {P:Program} {Q:Exit->Act->World->Prop} {o:Oper} {a:Act} {wr:World} {K:Act->World->Prop} (s x:Operand) (t:TypeId)
  (ho:o.op = .call { callee:=.builtin .append,args:=#[s,x],argTypes:=#[t,t] })
  (base:Nat) (e:TypeId) {z:Value} {size bytes:Nat} (hinfo:(P.info? e).map (fun i=>(i.zero,i.size,i.bytes))=some (some z,size,bytes)) (ht:P.underlying t=some (.slice e))
  (hzs:z.cells.size=size) (hsz:0 < size) (hby:0 < bytes)
  (v:Value) (n:Nat) (xs:List Value) (hs:a.eval s=v) (hown:wr.ownsRow base e size v n xs)
  (u:Value) (m:Nat) (ys:List Value) (hx:a.eval x=u) (hsrc:Sl wr size u ys) (hl:ys.length=m*size) (h1:∀ u∈ys,u.oneCell'=true)
  (hbytes:(n+m)*bytes<=140737488355328) (hbase:base<=wr.heap.size)
  (h:∀ v' w',w'.ownsRow base e size v' (n+m) (xs++ys)->wr.grownBy w' v.ownBlock->Below base wr w'->K (a.put o.dst v') w'):Oper.wp P o a wr K Q:=by
 have key:wpList P #[] (qhw K) [{ o with guard:=none }] a wr :=
  qm (W:=wr) rfl s x t ho base e hinfo ht hzs hsz hby v n xs hs hown u m ys hx hsrc hl h1 hbytes (Below.refl _ _) hbase fun v' w' r1 r2 r3=>h v' w' r1 r2 r3
 unfold wpList at key;split at key
 ·rcases key with key | ⟨_,_,_,key⟩
  ·exact q7t key
  ·exact key.elim
 ·rename_i hn;exact absurd rfl hn
section
variable {b:Nat} {x29 x31 x35 x37 x38 x39:Value} {w w':World} {L:List (Int×Int)} {x:Value}
end
end Go.Proofs.YtlhicnfeajejhaaGreatDoor
namespace Go.Proofs.YtlhicnfeajejhaaGreatDoor
open Go.RowKit Go.Cx
attribute [local go_sem ↓] Go.wp_at_zero Go.wp_at_succ
end Go.Proofs.YtlhicnfeajejhaaGreatDoor
namespace Go.Proofs.YtlhicnfeajejhaaGreatDoor
open Go.RowKit Go.Cx
theorem qca {L:List (Int×Int)} {c:Int} (h:co L c≠0):∃ p∈L,p.1=c/\p.2≠0:=by
 induction L with
 | nil=>exact absurd rfl h
 | cons p L ih =>
  rw[jh] at h;by_cases h1:co L c=0
  ·rw[h1,Int.add_zero] at h;by_cases h2:p.1=c
   ·rw[if_pos h2] at h;exact⟨p,List.mem_cons_self ..,h2,h⟩
   ·rw[if_neg h2] at h;exact absurd rfl h
  ·obtain⟨q,hq,h2⟩:=ih h1;exact⟨q,List.mem_cons_of_mem _ hq,h2⟩
def q1q (f:Int->Int) (r:Int):List Cl->Int
 | []=>0
 | x :: K=>f x.id*se x.s r+q1q f r K
theorem ql0 (f:Int->Int) (r:Int) (x:Cl):co (bdL f (x.s.map fun y=>(x.id,y))) r=f x.id*se x.s r:=by
 generalize x.s=s;induction s with
 | nil=>show (0:Int)=f x.id*0;rw[Int.mul_zero]
 | cons y s ih =>
  show (if y.c=r then f x.id*y.g else 0)+co (bdL f (s.map fun y=>(x.id,y))) r=f x.id*((if y.c=r then y.g else 0)+se s r);rw[ih,Int.mul_add];split <;> simp
theorem q5f (f:Int->Int) (r:Int) (K:List Cl):co (bdL f (z8 K)) r=q1q f r K:=by
 induction K with
 | nil=>rfl
 | cons x K ih =>
  rw[show x :: K=[x]++K from rfl,q8y,qc8,ji,ih,qfh,ql0];rfl
theorem q6c {K:List Cl} (h:Asc K) {x y:Cl} (hx:x∈K) (hy:y∈K) (he:x.id=y.id):x=y:=by
 induction K with
 | nil=>cases hx
 | cons z K ih =>
  obtain⟨h1,h2⟩:=List.pairwise_cons.1 h;rcases List.mem_cons.1 hx with hx | hx <;> rcases List.mem_cons.1 hy with hy | hy
  ·rw[hx,hy]
  ·have:=h1 y hy;rw[<-hx] at this;omega
  ·have:=h1 x hx;rw[<-hy] at this;omega
  ·exact ih h2 hx hy
end Go.Proofs.YtlhicnfeajejhaaGreatDoor
namespace Go.Proofs.YtlhicnfeajejhaaGreatDoor
open Go.RowKit Go.Cx
attribute [local go_sem ↓] Go.wp_at_zero Go.wp_at_succ
end Go.Proofs.YtlhicnfeajejhaaGreatDoor
