/- Steps towards MorseChecks. Conditions: none. -/
import Derived.Deep.OwnRows
import Derived.StillTailTactics
import Derived.Test.YtlhicnfeajejhaaGreatDoorFOn
import Derived.Test.YtlhicnfeajejhaaGreatDoorFOo
set_option maxRecDepth 1000000
set_option maxHeartbeats 16000000
namespace Go.Cx
open Go.RowKit
def Asc (K:List Cl):Prop:=K.Pairwise fun x y=>x.id < y.id
theorem qky {a b:List Cl} (h:Asc (a++b)):mrg Cl.id a b=a++b:=by
 fun_induction mrg Cl.id a b with
 | case1 b=>rfl
 | case2 x a=>simp
 | case3 x a y b hk ih =>
  have:=(List.pairwise_append.1 h).2.2 x (gP ..) y (gP ..);omega
 | case4 x a y b hk ih =>
  rw[ih (gx.1 h).2];rfl
theorem Asc.map {K:List Cl} (h:Asc K) (f:Cl->Cl) (hf:∀ x,(f x).id=x.id):Asc (K.map f):=by
 unfold Asc;rw[List.pairwise_map];exact h.imp fun {x y} hxy=>by rw[hf,hf];exact hxy
theorem qap {K:List Cl} (h:Asc K):q26 K=K.map fun x=>⟨x.id,x.dim,zx x.s⟩:=by
 fun_induction q26 K with
 | case1 l hl=>rfl
 | case2 l hl wY pf =>
  have h':=h;rw[<-gr (l.length / 2) l] at h';obtain⟨h1,h2,_⟩:=List.pairwise_append.1 h';rw[wY h1,pf h2,qky,<-bo,gr];rw[<-bo,gr];exact h.map _ fun _=>rfl
theorem qkz {K:List Cl} (h:Asc K):∀ p:Option Int,(∀ x∈K,p≠some x.id)->nub Cl.id p K=K:=by
 induction K with
 | nil=>intro p _;rfl
 | cons x K ih =>
  intro p hp;obtain⟨h1,h2⟩:=gx.1 h;unfold nub;rw[if_neg (hp x (gP ..)),ih h2 _ fun y hy e=>by
   have:=h1 y hy;injection e with e
   omega]
theorem q08 {K:List Cl} (h:Asc K):xb Cl.id K=K:=by
 induction K with
 | nil=>rfl
 | cons x K ih =>
  obtain⟨h1,h2⟩:=gx.1 h;show x :: (xb Cl.id K).filter _=_;rw[ih h2]
  congr 1
  refine List.filter_eq_self.2 fun y hy=>?_
  have:=h1 y hy;simpa using show ¬ y.id=x.id by omega
theorem q09 (A:List (List Int)) (n:Nat):Asc (xf A n):=by
 unfold Asc xf;rw[List.pairwise_map];exact List.pairwise_lt_range.imp fun {i j} dS=>by show (i:Int)+1 < (j:Int)+1;omega
end Go.Cx
namespace Go.Cx
open Go.RowKit
variable {P:Program} {ops:Array Oper} {Q:Exit->Act->World->Prop}
theorem qdc {id:Nat} {a0:Act} {w:World} (hm:P.follows .mixedOrders=true) (o7:qmk .any ops=true) (I:(Nat->Bool)->Act->World->Prop)
  (h0:I (fun _=>false) a0 { w with drawn:=w.drawn+1 })
  (bM:∀ (i:Nat) (o:Oper),ops[i]? = some o->∀ (l:Nat->Bool) (a:Act) (w':World),l i=false->(∀ j,dep .any ops i j=true->l j=true)->I l a w' →
   Region.wanted o (yielded ops a.tmps)=true/\Oper.wp P o a w' (fun a' w''=>I (fun j=>j == i || l j) a' w'') Q)
  (ik:∀ (l:Nat->Bool) (a:Act) (w':World),(∀ i,i < ops.size->l i=true)->I l a w'->Q .normal a w') :
  (Code.region id ops true).wp P Q a0 w:=by
 have main:∀ (fuel:Nat) (listed:Array Bool) (a:Act) (w':World),listed.size=ops.size->unl ops listed<=fuel->I (fun i=>listed.getD i false) a w'->wpAny P .any ops Q fuel listed a w':=by
  intro fuel;have pe:∀ (listed:Array Bool),unl ops listed=0->∀ i:Nat,i < ops.size->listed.getD i false=true:=fun listed h0 i hi=>by
   cases hc:listed.getD i false with
   | true=>rfl
   | false =>
    have:i∈(List.range ops.size).filter fun i=>!listed.getD i false:=gH.2 ⟨gy.2 hi,by rw[hc];rfl⟩
    rw[gu h0] at this;cases this
  induction fuel with
  | zero =>
   intro listed a w' hl hu h;have aH:=pe listed (by omega);refine⟨?_,ik _ a w' aH h⟩;rw[List.eq_nil_iff_forall_not_mem];intro j hj;obtain⟨h1,o,ho,_⟩:=mem_ready.1 hj;have dP:=(gw.1 ho).1;have h2:=aH j dP;simp[hl,dP] at h1 h2;rw[h1] at h2;cases h2
  | succ fuel ih =>
   intro listed a w' hl hu h;refine⟨fun jF=>?_,fun i hi=>?_⟩
   ·refine ik _ a w' (fun i hi=>?_) h;show listed.getD i false=true;induction i using Nat.strongRecOn with
    | _ i GA =>
     cases hc:listed.getD i false with
     | true=>rfl
     | false =>
      exfalso
      obtain⟨o,ho⟩ : ∃ o,ops[i]? = some o:=⟨_,Array.getElem?_eq_getElem hi⟩
      have aZ:i∈Region.ready .any ops listed:=mem_ready.2 ⟨by simpa [hl,hi] using hc,o,ho,fun e he hb=>by
       have h1:=bC.1 o7 i (gy.2 hi);rw[ho] at h1;simp only [Option.map_some,Option.getD_some,Array.all_eq_true] at h1;obtain⟨k,hk,rfl⟩:=Array.getElem_of_mem he;have h2:=h1 k hk;rw[hb] at h2;have h3:(o.after[k]).on < i:=by simpa using h2
       exact GA _ h3 (by omega)⟩
      rw[jF] at aZ;cases aZ
   ·obtain⟨h1,o,ho,aH⟩:=mem_ready.1 hi;have fO:=(gw.1 ho).1;have zY:listed.getD i false=false:=by simpa [hl,fO] using h1
    obtain⟨hw,rm⟩:=bM i o ho (fun i=>listed.getD i false) a w' zY (fun j ee=>by
     unfold dep at ee;rw[ho] at ee;simp only [Option.map_some,Option.getD_some,Array.any_eq_true] at ee;obtain⟨k,hk,hb⟩:=ee;simp only [Bool.and_eq_true,beq_iff_eq] at hb;have:=aH _ (Array.getElem_mem hk) hb.1
     rwa [hb.2] at this) h
    unfold wpOp;rw[ho];dsimp only;rw[if_pos hw];refine .inl (Oper.wp_mono (fun a' w'' hx=>?_) rm);have hlt:=qdi hl fO zY;refine ih _ _ _ (by simpa using hl) (by omega) ?_;have e:(fun j=>(listed.setIfInBounds i true).getD j false)=fun j=>j == i || listed.getD j false:=funext fun j=>by
     by_cases hj:i=j
     ·subst hj;simp[hl,fO]
     ·have:(j == i)=false:=by simpa using fun e=>hj e.symm
      rw[this,Bool.false_or];simp[hj]
    rw[e];exact hx
 refine wp_region_any hm (main _ _ _ _ (by simp) ?_ ?_)
 ·unfold unl;exact gn (bg _ _) (by simp)
 ·have e:(fun i=>(Array.replicate ops.size false).getD i false)=fun _=>false:=funext fun i=>by
   simp only [Array.getD_eq_getD_getElem?,Array.getElem?_replicate];split <;> rfl
  rw[e];exact h0
def qfa (ops:Array Oper) (n:Nat):Bool:=(List.range ops.size).all fun i=>match (ops[i]?).bind (·.dst) with
 | none=>true
 | some d=>decide (d < n) && (List.range i).all fun j=>(ops[j]?).bind (·.dst) != some d
theorem qbq {n:Nat} (h:qfa ops n=true):∀ (i:Nat) (o:Oper) (d:Nat),ops[i]? = some o->o.dst=some d->d < n/\∀ (j:Nat) (oj:Oper),ops[j]? = some oj->j≠i->oj.dst≠some d:=by
 have key:∀ (i:Nat) (o:Oper) (d:Nat),ops[i]? = some o->o.dst=some d->d < n/\∀ (j:Nat) (oj:Oper),ops[j]? = some oj->j < i->oj.dst≠some d:=fun i o d ho hd=>by
  have hi:=(gw.1 ho).1;have h1:=bC.1 h i (gy.2 hi);simp only [ho,Option.bind_some,hd,Bool.and_eq_true,decide_eq_true_eq] at h1;obtain⟨h3,h4⟩:=h1;refine⟨h3,fun j oj hj hlt=>?_⟩;have:=bC.1 h4 j (gy.2 hlt);rw[hj] at this;simpa using this
 intro i o d ho hd;obtain⟨h0,h1⟩:=key i o d ho hd;refine⟨h0,fun j oj hj ak e=>?_⟩;rcases gL j i with hlt | ij
 ·exact h1 j oj hj hlt e
 ·exact(key j oj d hj e).2 i o ho (by omega) hd
end Go.Cx
namespace Go.Proofs.YtlhicnfeajejhaaGreatDoor
open Go.RowKit Go.Cx
variable {P:Program} {ops:Array Oper} {Q:Exit->Act->World->Prop}
theorem q78 {B p:Nat} {w w':World} (h:Below B w w') (hp:B<=p) (x y:Value):Below B w ((w'.setCell ⟨p,0,none⟩ x).setCell ⟨p,1,none⟩ y) :=
 (h.setCell hp x).setCell hp y
end Go.Proofs.YtlhicnfeajejhaaGreatDoor
namespace Go.Proofs.YtlhicnfeajejhaaGreatDoor
open Go.RowKit Go.Cx
attribute [local go_sem ↓] Go.wp_at_zero Go.wp_at_succ
theorem q8z {ops:Array Oper} {a a0:Act} {n:Nat} (hn:a.tmps.size=n) (kQ:a.defers=a0.defers) (hb:∀ s,(∀ (i:Nat) (o:Oper),ops[i]? = some o->o.dst≠some s)->a.tmps.getD s undef=a0.tmps.getD s undef):a=⟨((List.range n).map fun i=>if qhv ops i then a0.tmps.getD i undef else a.tmps.getD i undef).toArray,a0.defers⟩:=by
 obtain⟨t,d⟩:=a;simp only at hn kQ hb;subst kQ
 congr 1
 refine Array.ext (by simp[hn]) fun i h1 h2=>?_
 have e:t[i]=t.getD i undef:=by rw[Array.getD_eq_getD_getElem?,Array.getElem?_eq_getElem h1];rfl
 show t[i]=_;rw[e];simp only [List.getElem_toArray,List.getElem_map,List.getElem_range];by_cases h:qhv ops i=true
 ·rw[if_pos h];exact hb i (qu h)
 ·rw[if_neg h]
theorem qc9 {P:Program} {Q:Exit->Act->World->Prop} {o:Oper} {a:Act} {w:World} {K:Act->World->Prop} (t:Nat) (x y:Operand) (aU:o.op = .indexAddr t x y) (v1 v2:Value) (h1:a.eval x=v1) (h2:a.eval y=v2) (v:Value) (ck:(Instr.indexAt t v1 v2).run P w = .ok v w) (h:K (a.put o.dst v) w):Oper.wp P o a w K Q:=by
 subst h1 h2;unfold Oper.wp;simp[execOp,aU,ck,Result.andThen];exact h
theorem qop (w:World) (p:Nat) (k:Nat) (hk:k < 2):(Instr.indexAt 50 (.pointer (some ⟨p,0,none⟩)) (.int .i64 k)).run Tryz.prog w = .ok (.pointer (some ⟨p,k,none⟩)) w:=by
 rcases (by omega:k=0\/k=1) with rfl | rfl <;> simp[go_sem]
theorem qe0 (w:World) (p:Addr) (x:Int) (h1:w.cell? p=some (.int .i64 x)):(Instr.loadAt 3 (.pointer (some p))).run Tryz.prog w = .ok (.int .i64 x) w:=by
 simp[go_sem,h1]
theorem js {w:World} {a p:Addr} {u x:Value} (h:w.cell? p=some x) (ak:p≠a):(w.setCell a u).cell? p=some x:=by
 rw[World.cell?_setCell_other _ _ _ _ (fun e=>ak e.symm)];exact h
theorem qi5 {Q:Exit->Act->World->Prop} {K:Act->World->Prop} {o:Oper} {a:Act} {w:World} {t e:TypeId} (x:Operand) (aU:o.op = .call { callee:=.builtin .len,args:=#[x],argTypes:=#[t] }) (ht:Tryz.prog.underlying t=some (.slice e)) (ad:Option Addr) (n c:Nat) (hx:a.eval x = .slice ad n c) (h:K (a.put o.dst (.int .i64 n)) w):Oper.wp Tryz.prog o a w K Q:=by
 unfold Oper.wp;have:(execOp a.eval o).run Tryz.prog w = .ok (.value (.int .i64 n)) w:=by
  generalize a.eval=ρ at hx;simp[execOp,aU,resolve,invoke,hx,builtin,Builtin.len_,run_underlying ht,goInt,Result.andThen]
 rw[this];exact h
theorem qnm (v:Value) (l:List Ce) (i0:Nat) (x0:Ce) (w:World) (h:Sl w 3 v (cat Ce.enc l)) (hl:l.length<=1000000) (hs:l.Pairwise fun x y=>x.id < y.id) (cG:l[i0]? = some x0) :
  Calls Tryz.prog 84 #[v,.int .i64 x0.id] w fun e w'=>e = .returned (.int .i64 i0)/\Below w.heap.size w w':=by
 obtain⟨a,n,cap,rfl⟩:=qg h;have hlen:l.length=n:=by
  obtain⟨_,_,h3,_⟩:=h.open;rw[qt Ce.qp] at h3;omega
 have hi0:i0 < n:=by
  have:=(gc.1 cG).1;omega
 obtain⟨eI,kJ,_⟩:=h.open;unfold maxLen at kJ;rw[hlen] at hl;obtain⟨id,hid⟩ : ∃ d,d=x0.id:=⟨_,rfl⟩
 have hlt:∀ (j:Nat) (y:Ce),l[j]? = some y->(j < i0->y.id < id)/\(i0 < j->id < y.id):=fun j y hy=>by
  obtain⟨hj,cX⟩:=gc.1 hy;obtain⟨hk,bJ⟩:=gc.1 cG;rw[hid];refine⟨fun h=>?_,fun h=>?_⟩
  ·have:=gG.1 hs j i0 hj hk h
   rwa [cX,bJ] at this
  ·have:=gG.1 hs i0 j hk hj h
   rwa [cX,bJ] at this
 rw[<-hid];have HH:=lhd (aiq h (aiq hlen (aiq hlt (aiq cG hid))));clear h hlen hlt hs cG hid;go_enter Tryz.func84,Tryz.ntmps84;go_wp2_with fail;go_loopw [5,6] (fun p q wr=>∃ lo hi:Nat,p = .int .i64 lo/\q = .int .i64 hi/\lo<=i0/\i0<=hi/\hi<=n/\Below w.heap.size w wr) (fun p q _=>(vI q).toNat - (vI p).toNat)
 case atStart=>exact⟨0,n,rfl,rfl,gp _,by omega,nlr _,Below.refl _ _⟩
 case round =>
  obtain⟨lo,hi,rfl,rfl,h1,h2,h3,hB⟩:=hrel;obtain⟨ad,aM⟩ : ∃ ad,a=some ad:=by
   cases a with
   | none=>have:=HH.out.1.open.2.2.2.1 rfl;omega
   | some ad=>exact⟨ad,rfl⟩
  subst aM;obtain⟨_,_,_,_,h6⟩:=HH.out.1.open;by_cases Mw:lo < hi
  ·obtain⟨m,hm⟩ : ∃ m,m=(lo+hi) / 2:=⟨_,rfl⟩
   have cO:lo<=m/\m < hi:=by omega
   obtain⟨y,hy⟩ : ∃ y,l[m]? = some y:=⟨_,g8 (by rw[HH.out.2.1];omega)⟩
   have d0:wr.cell? (ad.add (m*3))=some (.int .i64 y.id):=Cx.q8 hB (h6 ad rfl _ _ (zh l m y hy).1);have fQ:IntKind.i64.wrap ((lo:Int)+hi)=(lo:Int)+hi:=IntWalk.i64_in _ (by omega);have hq:((lo:Int)+hi).tdiv 2=(m:Int):=by rw[Int.tdiv_eq_ediv_of_nonneg (by omega)];omega
   have iF:((lo:Int)+hi) / 2=(m:Int):=by omega
   have IP:(m:Int) < n:=by omega
   have ly:IntKind.i64.wrap (m:Int)=(m:Int):=IntWalk.i64_in _ (by omega);have HY:=lhd (HH.out.2.2.1 m y hy);have nE:=lhd hy;clear h6 hy hm;by_cases hc:y.id < id
   ·have eS:m < i0:=by
     rcases Nat.lt_trichotomy m i0 with h | h | h
     ·exact h
     ·have sh:=nE.out;rw[h,HH.out.2.2.2.1] at sh;cases sh
      rw[HH.out.2.2.2.2] at hc;omega
     ·have:=HY.out.2 h;omega
    go_wp2;go_roundw
    case measure=>simp[vI];omega
    case rel=>exact⟨m+1,hi,qh (by omega),rfl,by omega,h2,h3,hB⟩
   ·have eS:i0<=m:=by
     rcases gL m i0 with h | h
     ·have:=HY.out.1 h;omega
     ·exact h
    go_wp2;go_roundw
    case measure=>simp[vI];omega
    case rel=>exact⟨lo,m,rfl,rfl,h1,eS,by omega,hB⟩
  ·have hle:lo=i0:=by omega
   subst hle;have d0:wr.cell? (ad.add (lo*3))=some (.int .i64 id):=Cx.q8 hB (h6 ad rfl _ _ (by rw[HH.out.2.2.2.2];exact(zh l lo x0 HH.out.2.2.2.1).1));have fS:(lo:Int) < n:=by omega
   have mX:(id == id)=true:=by simp
   clear h6;go_wp2;go_ret;exact⟨rfl,hB⟩
theorem qqt (v:Value) (l:List Int) (x:Int) (w:World) (h:Sl w 1 v (ints l)) (hl:l.length<=1000000) :
  Calls Tryz.prog 85 #[v,.int .i64 x] w fun e w'=>∃ z:Int,e = .returned (.int .i64 z)/\((z = -1/\x ∉ l)\/∃ i:Nat,z=i/\l[i]? = some x)/\Below w.heap.size w w':=by
 obtain⟨a,n,cap,rfl⟩:=qg h;have hlen:l.length=n:=by
  obtain⟨_,_,h3,_⟩:=h.open;rw[xl] at h3;omega
 obtain⟨eI,kJ,_⟩:=h.open;unfold maxLen at kJ;rw[hlen] at hl;have HH:=lhd (aiq h hlen);clear h hlen;go_enter Tryz.func85,Tryz.ntmps85;go_wp2_with fail;go_loopw [5] (fun p wr=>∃ k:Nat,p = .int .i64 k/\k<=n/\Hid (∀ j,j < k->l[j]?≠some x)/\Below w.heap.size w wr) (fun p _=>n - (vI p).toNat)
 case atStart=>exact⟨0,rfl,gp _,(show Hid _ from fun j hj=>by omega),Below.refl _ _⟩
 case round =>
  obtain⟨k,rfl,hk,HK,hB⟩:=hrel;by_cases hlt:k < n
  ·obtain⟨y,hy⟩ : ∃ y,l[k]? = some y:=⟨_,g8 (by rw[HH.out.2];omega)⟩
   obtain⟨_,_,_,h5,h6⟩:=HH.out.1.open;obtain⟨ad,aM⟩ : ∃ ad,a=some ad:=by
    cases a with
    | none=>have:=h5 rfl;omega
    | some ad=>exact⟨ad,rfl⟩
   subst aM;have d0:wr.cell? (ad.add k)=some (.int .i64 y):=Cx.q8 hB (h6 ad rfl _ _ (by rw[q9r _ _ (by rw[HH.out.2];exact hlt),gI,hy];rfl));have HY:=lhd hy;clear h5 h6 hy;by_cases he:y=x
   ·have hb:(y == x)=true:=by simpa using he
    have HE:=lhd he;clear he;go_wp2;go_ret;exact⟨_,rfl,.inr ⟨k,rfl,by rw[HY.out,HE.out]⟩,hB⟩
   ·have hb:(y == x)=false:=by simpa using he
    have HE:=lhd he;clear he;go_wp2;go_roundw
    case measure=>simp[vI];omega
    case rel =>
     refine⟨k+1,qh (by omega),by omega,(show Hid _ from fun j hj=>?_),hB⟩;rcases gL j k with h | h
     ·exact HK.out j h
     ·rw[show j=k by omega,HY.out];exact fun e=>HE.out (osi e)
  ·go_wp2;go_ret;refine⟨_,rfl,.inl ⟨rfl,fun hx=>?_⟩,hB⟩;obtain⟨j,hj,cX⟩:=List.getElem_of_mem hx;exact HK.out j (by rw[HH.out.2] at hj;omega) (by rw[g8 hj,cX])
theorem qqq (a b:Nat) (w:World) (ha:a<=200) (hb:b<=200):Calls Tryz.prog 125 #[.int .i64 a,.int .i64 b] w fun e w'=>e = .returned (.bool true)/\Below w.heap.size w w':=by
 have h1:(0:Int)<=a:=by omega
 have h2:(0:Int)<=b:=by omega
 have h3:(a:Int)<=200:=by omega
 have h4:(b:Int)<=200:=by omega
 go_enter Tryz.func125,Tryz.ntmps125;go_wp2;go_ret;exact⟨rfl,Below.refl _ _⟩
def EW (w:World) (E N:Nat) (f:Nat->Int):Prop:=∀ i,i < N->w.cell? ⟨E,i*2,none⟩=some (.bool (decide (f i < 0)))/\w.cell? ⟨E,i*2+1,none⟩=some (.string (mg (f i)))/\w.frozen? ⟨E,i*2,none⟩=false/\w.frozen? ⟨E,i*2+1,none⟩=false
theorem EW.q8 {w w':World} {B E N:Nat} {f:Nat->Int} (h:EW w E N f) (hb:Below B w w') (hE:E < B):EW w' E N f:=fun i hi =>
 have h:=h i hi
 ⟨(hb.cell (by exact hE)).trans h.1,(hb.cell (by exact hE)).trans h.2.1,(hb.frozen (by exact hE)).trans h.2.2.1,(hb.frozen (by exact hE)).trans h.2.2.2⟩
theorem EW.put {w:World} {E N:Nat} {f:Nat->Int} (h:EW w E N f) (k:Nat) (x:Int):EW ((w.setCell ⟨E,k*2,none⟩ (.bool (decide (x < 0)))).setCell ⟨E,k*2+1,none⟩ (.string (mg x))) E N (fun i=>if i=k then x else f i):=fun i hi=>by
 obtain⟨h1,h2,h3,h4⟩:=h i hi;refine⟨?_,?_,by simpa [World.frozen?_setCell] using h3,by simpa [World.frozen?_setCell] using h4⟩
 ·dsimp only
  by_cases nC:i=k
  ·subst nC;simp only [↓reduceIte];exact js (World.cell?_setCell_same' _ _ _ (by rw[h1];rfl)) (by simp)
  ·simp only [nC,↓reduceIte];exact js (js h1 (by simp <;> omega)) (by simp <;> omega)
 ·dsimp only
  by_cases nC:i=k
  ·subst nC;simp only [↓reduceIte];exact World.cell?_setCell_same' _ _ _ (by rw[js h2 (by simp)];rfl)
  ·simp only [nC,↓reduceIte];exact js (js h2 (by simp <;> omega)) (by simp <;> omega)
theorem EW.congr {w:World} {E N:Nat} {f g:Nat->Int} (h:EW w E N f) (Sa:∀ i,i < N->f i=g i):EW w E N g:=fun i hi=>by rw[<-Sa i hi];exact h i hi
def wz (n:Nat):Array Value:=madeCells #[.bool false,.string ⟨#[]⟩] (n*2)
theorem qq1 (n i:Nat) (h:i < n):(wz n)[i*2]? = some (.bool false)/\(wz n)[i*2+1]? = some (.string ⟨#[]⟩):=by
 unfold wz madeCells;refine⟨?_,?_⟩
 ·rw[Array.getElem?_map,Array.getElem?_range,if_pos (by omega)];simp
 ·rw[Array.getElem?_map,Array.getElem?_range,if_pos (by omega)];simp[show (i*2+1) % 2=1 by omega]
theorem EW.new (w:World) (n:Nat) (t:TypeId):EW (w.alloc (.cells (wz n) t)) w.heap.size n (fun _=>0):=fun i hi=>by
 obtain⟨h1,h2⟩:=qq1 n i hi;exact⟨by rw[qd,h1];rfl,by rw[qd,h2,Cx.q8d],jz (heap_alloc_new w _) _,jz (heap_alloc_new w _) _⟩
theorem qqr (n:Nat) (hn:n<=1000000) (w:World):(Instr.makeSlice 29 (.int .i64 (n:Int)) (.int .i64 (n:Int))).run Tryz.prog w = .ok (.slice (some ⟨w.heap.size,0,none⟩) n n) (w.alloc (.cells (wz n) 38)):=by
 obtain⟨i,hi,hz⟩:=Option.map_eq_some_iff.1 Tryz.qpw;simp only [Prod.mk.injEq] at hz;have h:=run_make (P:=Tryz.prog) w 29 38 i _ Tryz.underlying29 hi hz.1 .i64 .i64 n n (by omega) (Int.le_refl _) (by rw[hz.2.2];omega) (by omega);rw[hz.2.1,Int.toNat_natCast] at h;exact h
theorem qh2 {x:Int} (h:x≠0):∃ b:Int,b≠0/\∀ w:World,(Instr.index 9 (.string (mg x)) (.int .i64 0)).run Tryz.prog w = .ok (.int .u8 b) w:=by
 have h1:bytesOf x.natAbs≠[]:=fun e=>h (by have:=(q03 x.natAbs).1 e;omega)
 cases hb:bytesOf x.natAbs with
 | nil=>exact absurd hb h1
 | cons c l =>
  have hc:=qa7 _ c l hb;refine⟨(c.toNat:Int),fun e=>hc ?_,fun w=>?_⟩
  ·have:c.toNat=0:=by omega
   exact UInt8.toNat_inj.1 this
  ·rw[run_index_string _ _ _ _ _ Tryz.underlying9];have ao:(mg x).size=l.length+1:=by unfold mg;rw[hb];simp[ByteArray.size]
   rw[dif_pos ⟨Int.le_refl _,by rw[ao];omega⟩];have:(mg x)[(0:Int).toNat]'(by rw[ao];simp)=c:=by
    show (mg x).data[0]'_=c;unfold mg;simp[hb]
   rw[this]
theorem qdh (v:Value) (l:List Int) (w:World) (h:Sl w 2 v (wvs l)):Calls Tryz.prog 83 #[v] w fun e w'=>e = .returned (.bool true)/\Below w.heap.size w w':=by
 obtain⟨a,n,cap,rfl⟩:=qg h;have hlen:l.length=n:=by
  obtain⟨_,_,h3,_⟩:=h.open;rw[q2j] at h3;omega
 obtain⟨eI,kJ,_⟩:=h.open;unfold maxLen at kJ;have HH:=lhd (aiq h hlen);clear h hlen;go_enter Tryz.func83,Tryz.ntmps83;go_wp2_with fail;go_loopw [3] (fun p wr=>∃ k:Nat,p = .int .i64 k/\k<=n/\Below w.heap.size w wr) (fun p _=>n - (vI p).toNat)
 case atStart=>exact⟨0,rfl,gp _,Below.refl _ _⟩
 case round =>
  obtain⟨k,rfl,hk,hB⟩:=hrel;by_cases hlt:k < n
  ·obtain⟨x,hx⟩ : ∃ y,l[k]? = some y:=⟨_,g8 (by rw[HH.out.2];omega)⟩
   obtain⟨_,_,_,h5,h6⟩:=HH.out.1.open;obtain⟨ad,aM⟩ : ∃ ad,a=some ad:=by
    cases a with
    | none=>have:=h5 rfl;omega
    | some ad=>exact⟨ad,rfl⟩
   subst aM;obtain⟨e0,e1⟩:=q7p l k x hx;have d0:wr.cell? (ad.add (k*2))=some (.bool (decide (x < 0))):=Cx.q8 hB (h6 ad rfl _ _ e0);have d1:wr.cell? ⟨(ad.add (k*2)).block,(ad.add (k*2)).off+1,none⟩=some (.string (mg x)):=by rw[qi _ _ _ (by omega)];exact Cx.q8 hB (h6 ad rfl _ _ e1)
   clear h5 h6 hx e0 e1;by_cases cG:x=0
   ·subst cG;rw[Cx.q8d] at d1;rw[show decide ((0:Int) < 0)=false from rfl] at d0;go_wp2;go_roundw
    case measure=>simp[vI];omega
    case rel=>exact⟨k+1,qh (by omega),by omega,hB⟩
   ·have he:=qoy cG;obtain⟨q,hq⟩ : ∃ q,q=decide (x < 0):=⟨_,rfl⟩
    rw[<-hq] at d0;obtain⟨b,ca,sF⟩:=qh2 cG;obtain⟨s,hs⟩ : ∃ s,s=mg x:=⟨_,rfl⟩
    rw[<-hs] at d1 he sF;have he2:s.toList.isEmpty=false:=by simpa using he
    have mX:(b == 0)=false:=by simpa using ca
    clear hq hs cG he ca;go_wp2;go_roundw
    case measure=>simp[vI];omega
    case rel=>exact⟨k+1,qh (by omega),by omega,hB⟩
  ·go_wp2;go_ret;exact⟨rfl,hB⟩
theorem qhl (r c:Nat) (v:Value) (l:List Int) (w:World) (h:Sl w 2 v (wvs l)) (hr:r<=200) (hc:c<=200) (hl:l.length=r*c):Calls Tryz.prog 116 #[.agg #[.int .i64 r,.int .i64 c,v]] w fun e w'=>e = .returned (.bool true)/\Below w.heap.size w w':=by
 have nG:r*c<=40000:=gn (Nat.mul_le_mul hr hc) (by decide);obtain⟨a,n,cap,rfl⟩:=qg h;have hlen:l.length=n:=by
  obtain⟨_,_,h3,_⟩:=h.open;rw[q2j] at h3;omega
 have hn:n=r*c:=hlen.symm.trans hl;have pC:IntKind.i64.wrap ((r:Int)*(c:Int))=(n:Int):=by
  rw[hn,Int.natCast_mul];exact IntWalk.i64_in _ (by rw[<-Int.natCast_mul];omega)
 have HH:=lhd h;clear h hlen hn hl nG;go_enter Tryz.func116,Tryz.ntmps116;go_wp2_with fail;refine(qqq r c _ hr hc).mono ?_;rintro e w1 ⟨rfl,ai⟩;obtain⟨W,hW⟩ : ∃ W,W=w.alloc (.cells #[.int .i64 r,.int .i64 c,.slice a n cap] 44):=⟨_,rfl⟩
 rw[<-hW] at ai;have c0:w1.cell? ⟨w.heap.size,0,none⟩=some (.int .i64 r):=Cx.q8 ai (by rw[hW];exact qd w _ _ (0,0) 0);have c1:w1.cell? ⟨w.heap.size,1,none⟩=some (.int .i64 c):=Cx.q8 ai (by rw[hW];exact qd w _ _ (0,0) 1);have c2:w1.cell? ⟨w.heap.size,2,none⟩=some (.slice a n cap):=Cx.q8 ai (by rw[hW];exact qd w _ _ (0,0) 2);have hw:Below w.heap.size w W:=by rw[hW];exact(Below.refl _ _).alloc (nlr _) _
 have al:Below w.heap.size w w1:=hw.trans (ai.mono hw.size);have HB:=lhd al;clear ai hw al hW;go_wp2_with fail;refine(qdh _ l _ (HH.out.q8 HB.out)).mono ?_;rintro e w2 ⟨rfl,ag⟩;have aF:=lhd (HB.out.trans (ag.mono HB.out.size));clear ag;go_wp2_with fail;go_ret;exact⟨rfl,aF.out⟩
end Go.Proofs.YtlhicnfeajejhaaGreatDoor
namespace Go.Cx
open Go.RowKit
variable {P:Program} {ops:Array Oper} {Q:Exit->Act->World->Prop}
def reach (ops:Array Oper):Nat->Nat->Nat->Bool
 | 0,_,_=>false
 | f+1,k,i=>dep .any ops k i || (List.range ops.size).any fun j=>dep .any ops k j && reach ops f j i
def qq7 (ops:Array Oper) (L f:Nat):Bool:=(List.range ops.size).all fun i=>i == L || reach ops f L i
theorem q70 {l:Nat->Bool} (hc:∀ i,l i=true->∀ j,dep .any ops i j=true->l j=true):∀ (f k i:Nat),reach ops f k i=true->l k=true->l i=true:=by
 intro f;induction f with
 | zero=>intro k i h;cases h
 | succ f ih =>
  intro k i h hk;unfold reach at h;rw[Bool.or_eq_true] at h;rcases h with h | h
  ·exact hc k hk i h
  ·obtain⟨j,_,hj⟩:=List.any_eq_true.1 h;rw[bf] at hj;exact ih _ _ hj.2 (hc k hk _ hj.1)
structure StT (ops:Array Oper) (F:Nat->Value->Prop) (a0:Act) (w0:World) (l:Nat->Bool) (a:Act) (w:World):Prop where
 sz:a.tmps.size=a0.tmps.size
 df:a.defers=a0.defers
 fact:∀ (i:Nat) (o:Oper) (d:Nat),ops[i]? = some o->o.dst=some d->l i=true->F i (a.tmps.getD d undef)
 base:∀ s,(∀ (i:Nat) (o:Oper),ops[i]? = some o->o.dst≠some s)->a.tmps.getD s undef=a0.tmps.getD s undef
 below:Below w0.heap.size w0 w
theorem qbs {id:Nat} {a0:Act} {w:World} (hm:P.follows .mixedOrders=true) (F:Nat->Value->Prop) (L f n:Nat) (hn:a0.tmps.size=n) (hd:qfa ops n=true) (o7:qmk .any ops=true) (hL:L < ops.size) (oM:qq7 ops L f=true) (MP:(ops[L]?).bind (·.dst)=none)
  (Fin:Act->World->Prop)
  (bM:∀ (i:Nat) (o:Oper),ops[i]? = some o->i≠L->∀ (a:Act) (w':World),Below w.heap.size w w'->(∀ (j:Nat) (oj:Oper) (dj:Nat),ops[j]? = some oj->oj.dst=some dj->dep .any ops i j=true->F j (a.tmps.getD dj undef)) →
   (∀ s,(∀ (i:Nat) (o:Oper),ops[i]? = some o->o.dst≠some s)->a.tmps.getD s undef=a0.tmps.getD s undef)->a.tmps.size=n →
   Region.wanted o (yielded ops a.tmps)=true/\o.dst≠none/\Oper.wp P o a w' (fun a' w''=>∃ v,a'=a.put o.dst v/\F i v/\Below w'.heap.size w' w'') Q)
  (xC:∀ (o:Oper),ops[L]? = some o->∀ (a:Act) (w':World),a.tmps.size=n->a.defers=a0.defers->Below w.heap.size w w'->(∀ (j:Nat) (oj:Oper) (dj:Nat),ops[j]? = some oj->oj.dst=some dj->F j (a.tmps.getD dj undef)) →
   (∀ s,(∀ (i:Nat) (o:Oper),ops[i]? = some o->o.dst≠some s)->a.tmps.getD s undef=a0.tmps.getD s undef) →
   Region.wanted o (yielded ops a.tmps)=true/\Oper.wp P o a w' (fun a' w''=>Fin a' w'') Q)
  (ik:∀ (a:Act) (w':World),Fin a w'->Q .normal a w') :
  (Code.region id ops true).wp P Q a0 w:=by
 have G9:=qbq hd;have pI:∀ i,i < ops.size->i≠L->reach ops f L i=true:=fun i hi ak=>by
  have:=bC.1 oM i (gy.2 hi);rw[Bool.or_eq_true,beq_iff_eq] at this;exact this.resolve_left ak
 refine qdc hm o7 (fun l a w'=>(∀ i,l i=true->∀ j,dep .any ops i j=true->l j=true)/\(l L=false->StT ops F a0 w l a w')/\(l L=true->Fin a w')) ?_ ?_ ?_
 ·exact⟨fun i h=>absurd h Bool.false_ne_true,fun _=>⟨rfl,rfl,fun _ _ _ _ _ h=>absurd h Bool.false_ne_true,fun _ _=>rfl,qb (Below.refl _ w) 1⟩,fun h=>absurd h Bool.false_ne_true⟩
 ·intro i o ho l a w' MQ ee ⟨hc,h1,h2⟩;have fO:=(gw.1 ho).1;have na:∀ j,(fun j=>j == i || l j) j=true->∀ k,dep .any ops j k=true->(fun j=>j == i || l j) k=true:=fun j hj k hk=>by
   simp only [Bool.or_eq_true,beq_iff_eq] at hj ⊢;rcases hj with rfl | hj
   ·exact .inr (ee k hk)
   ·exact .inr (hc j hj k hk)
  by_cases EP:i=L
  ·subst EP;have aS:=h1 MQ;have aH:∀ j,j < ops.size->j≠i->l j=true:=fun j hj ak=>by
    have hr:=pI j hj ak;cases f with
    | zero=>cases hr
    | succ f =>
     unfold reach at hr;rw[Bool.or_eq_true] at hr;rcases hr with hr | hr
     ·exact ee j hr
     ·obtain⟨k,_,hk⟩:=List.any_eq_true.1 hr;rw[bf] at hk;exact q70 hc f k j hk.2 (ee k hk.1)
   obtain⟨hw,rm⟩:=xC o ho a w' (aS.sz.trans hn) aS.df aS.below (fun j oj dj hj il=>aS.fact j oj dj hj il (aH j (gw.1 hj).1 (fun e=>by
    subst e;rw[hj,Option.bind_some,il] at MP;cases MP))) aS.base
   exact⟨hw,Oper.wp_mono (fun a' w'' hx=>⟨na,fun h=>by simp at h,fun _=>hx⟩) rm⟩
  ·have MR:l L=false:=by
    cases hc':l L with
    | false=>rfl
    | true =>
     have:=q70 hc f L i (pI i fO EP) hc';rw[MQ] at this;cases this
   have aS:=h1 MR;obtain⟨hw,Sb,rm⟩:=bM i o ho EP a w' aS.below (fun j oj dj hj il Sc=>aS.fact j oj dj hj il (ee j Sc)) aS.base (aS.sz.trans hn);refine⟨hw,Oper.wp_mono (fun a' w'' hx=>?_) rm⟩;obtain⟨v,rfl,hv,rW⟩:=hx;obtain⟨d,ER⟩:=Option.ne_none_iff_exists'.1 Sb;obtain⟨bQ,eA⟩:=G9 i o d ho ER;have Se:(L == i)=false:=by simpa using fun e:L=i=>EP e.symm
   refine⟨na,fun _=>?_,fun h=>by simp only [Se,Bool.false_or] at h;rw[MR] at h;cases h⟩;rw[ER];refine⟨by show (a.tmps.setIfInBounds d v).size=_;simpa using aS.sz,aS.df,fun j oj dj hj il oy=>?_,fun s hs=>?_,aS.below.trans (rW.mono aS.below.size)⟩
   ·rw[q3s];by_cases lu:j=i
    ·subst lu;rw[ho] at hj;injection hj with hj;subst hj
     rw[ER] at il;injection il with il;subst il
     rw[if_pos ⟨rfl,by rw[aS.sz,hn];exact bQ⟩];exact hv
    ·rw[if_neg (fun e=>eA j oj hj lu (by rw[il,e.1]))];have:(j == i)=false:=by simpa using lu
     simp only [this,Bool.false_or] at oy;exact aS.fact j oj dj hj il oy
   ·rw[q3s,if_neg (fun e=>hs i o ho (by rw[ER,e.1]))];exact aS.base s hs
 ·intro l a w' aH ⟨_,_,h2⟩;exact ik a w' (h2 (aH L hL))
theorem q8b {o:Oper} {a:Act} {w:World} {K:Act->World->Prop} (t:Nat) (x:Operand) (i:Nat) (aU:o.op = .fieldAddr t x i) (v1:Value) (h1:a.eval x=v1) (v:Value) (ck:(Instr.fieldAt t v1 i).run P w = .ok v w) (h:K (a.put o.dst v) w):Oper.wp P o a w K Q:=by
 subst h1;unfold Oper.wp;simp[execOp,aU,ck,Result.andThen];exact h
theorem qhx {o:Oper} {a:Act} {w w':World} {K:Act->World->Prop} (t:Nat) (x y:Operand) (aU:o.op = .store t x y) (v1 v2:Value) (h1:a.eval x=v1) (h2:a.eval y=v2) (ck:(Instr.storeAt t v1 v2).run P w = .ok () w') (h:K (a.put o.dst undef) w'):Oper.wp P o a w K Q:=by
 subst h1 h2;unfold Oper.wp;simp[execOp,aU,ck,Result.andThen];exact h
end Go.Cx
namespace Go.Proofs.YtlhicnfeajejhaaGreatDoor
open Go.RowKit Go.Cx
attribute [local go_sem ↓] Go.wp_at_zero Go.wp_at_succ
def Bx' (w:World) (E i:Nat) (x:Int):Prop:=w.cell? ⟨E,i*2,none⟩=some (.bool (decide (x < 0)))/\w.cell? ⟨E,i*2+1,none⟩=some (.string (mg x))/\w.frozen? ⟨E,i*2,none⟩=false/\w.frozen? ⟨E,i*2+1,none⟩=false
theorem qp4 {P:Program} {s:Code} {Q:Exit->Act->World->Prop} {a:Act} {w:World} (h:∀ K:Act->World->Prop,(∀ a' w',Q .normal a' w'->K a' w')->s.wp P (Exit.then K Q) a w):s.wp P Q a w :=
 wp_mono (h (fun a w=>Q .normal a w) fun _ _ h=>h) (by intro e a' w' hq;cases e <;> exact hq)
theorem qp6 {w:World} {b:Nat} {x:Int} (h0:w.cell? ⟨b,0,none⟩=some (.bool (decide (x < 0)))) (h1:w.cell? ⟨b,1,none⟩=some (.string (mg x))):(Instr.loadAt 38 (.pointer (some ⟨b,0,none⟩))).run Tryz.prog w = .ok (wv x) w:=by
 show _=Result.ok (Value.agg #[.bool (decide (x < 0)),.string (mg x)]) w;simp[go_sem,h0,h1]
theorem qdv (w:World) (b:Nat):(Instr.fieldAt 44 (.pointer (some ⟨b,0,none⟩)) 2).run Tryz.prog w = .ok (.pointer (some ⟨b,2,none⟩)) w:=by simp[go_sem]
theorem qis (w:World) (p:Addr) (a:Option Addr) (n c:Nat) (h:w.cell? p=some (.slice a n c)):(Instr.loadAt 29 (.pointer (some p))).run Tryz.prog w = .ok (.slice a n c) w:=by simp[go_sem,h]
theorem qjr (w:World) (E n c i:Nat) (hi:i < n):(Instr.indexAt 29 (.slice (some ⟨E,0,none⟩) n c) (.int .i64 i)).run Tryz.prog w = .ok (.pointer (some ⟨E,i*2,none⟩)) w:=by
 have h1:(0:Int)<=(i:Int):=by omega
 have h2:(i:Int) < n:=by omega
 simp[go_sem,h1,h2]
theorem qjs (w:World) (E i:Nat) (x:Int) (u v:Value) (h0:w.cell? ⟨E,i*2,none⟩=some u) (h1:w.cell? ⟨E,i*2+1,none⟩=some v) (f0:w.frozen? ⟨E,i*2,none⟩=false) (f1:w.frozen? ⟨E,i*2+1,none⟩=false):(Instr.storeAt 38 (.pointer (some ⟨E,i*2,none⟩)) (wv x)).run Tryz.prog w = .ok () ((w.setCell ⟨E,i*2,none⟩ (.bool (decide (x < 0)))).setCell ⟨E,i*2+1,none⟩ (.string (mg x))):=by
 show (Instr.storeAt 38 (.pointer (some ⟨E,i*2,none⟩)) (.agg #[.bool (decide (x < 0)),.string (mg x)])).run Tryz.prog w=_;simp[go_sem,h0,h1,f0,f1]
theorem qi6 (z:Value) (n i:Nat) (h:i < n):(madeCells #[z] n)[i]? = some z:=by
 unfold madeCells;rw[Array.getElem?_map,Array.getElem?_range,if_pos h];simp[show i % 1=0 by omega]
theorem qp7 (n:Nat) (hn:n<=1000000) (w:World):(Instr.makeSlice 22 (.int .i64 (n:Int)) (.int .i64 (n:Int))).run Tryz.prog w = .ok (.slice (some ⟨w.heap.size,0,none⟩) n n) (w.alloc (.cells (madeCells #[.int .i64 0] n) 3)) :=
 run_make_row' 22 3 _ 8 Tryz.underlying22 Tryz.xg rfl .i64 .i64 n (by omega) (by omega) w
def se (s:List Sd) (r:Int):Int:=co (s.map fun y=>(y.c,y.g)) r
theorem xi {ops:Array Oper} {o:Oper} {a:Act} (j d:Nat) (hg:o.guard=some (j,false)) (hj:(ops[j]?).bind (·.dst)=some d) (hs:d < a.tmps.size) (h:a.tmps.getD d undef = .bool false):Region.wanted o (yielded ops a.tmps)=true:=by
 have h1:a.tmps[d]? = some (.bool false):=by
  rw[Array.getD_eq_getD_getElem?,Array.getElem?_eq_getElem hs] at h;rw[Array.getElem?_eq_getElem hs];exact congrArg some h
 unfold Region.wanted;rw[hg];show (yielded ops a.tmps j == some false)=true;unfold yielded;rw[hj];show ((match a.tmps[d]? with | some (.bool b)=>some b | _=>none) == some false)=true;rw[h1];rfl
theorem qca {L:List (Int×Int)} {c:Int} (h:co L c≠0):∃ p∈L,p.1=c/\p.2≠0:=by
 induction L with
 | nil=>exact absurd rfl h
 | cons p L ih =>
  rw[jh] at h;by_cases h1:co L c=0
  ·rw[h1,bD] at h;by_cases h2:p.1=c
   ·rw[if_pos h2] at h;exact⟨p,gP ..,h2,h⟩
   ·rw[if_neg h2] at h;exact absurd rfl h
  ·obtain⟨q,hq,h2⟩:=ih h1;exact⟨q,gX _ hq,h2⟩
def q1q (f:Int->Int) (r:Int):List Cl->Int
 | []=>0
 | x :: K=>f x.id*se x.s r+q1q f r K
theorem ql0 (f:Int->Int) (r:Int) (x:Cl):co (bdL f (x.s.map fun y=>(x.id,y))) r=f x.id*se x.s r:=by
 generalize x.s=s;induction s with
 | nil=>show (0:Int)=f x.id*0;rw[Int.mul_zero]
 | cons y s ih =>
  show (if y.c=r then f x.id*y.g else 0)+co (bdL f (s.map fun y=>(x.id,y))) r=f x.id*((if y.c=r then y.g else 0)+se s r);rw[ih,Int.mul_add];split <;> simp
theorem q5f (f:Int->Int) (r:Int) (K:List Cl):co (bdL f (z8 K)) r=q1q f r K:=by
 induction K with
 | nil=>rfl
 | cons x K ih =>
  rw[show x :: K=[x]++K from rfl,q8y,qc8,ji,ih,qfh,ql0];rfl
theorem q6c {K:List Cl} (h:Asc K) {x y:Cl} (hx:x∈K) (hy:y∈K) (he:x.id=y.id):x=y:=by
 induction K with
 | nil=>cases hx
 | cons z K ih =>
  obtain⟨h1,h2⟩:=gx.1 h;rcases gt.1 hx with hx | hx <;> rcases gt.1 hy with hy | hy
  ·rw[hx,hy]
  ·have:=h1 y hy;rw[<-hx] at this;omega
  ·have:=h1 x hx;rw[<-hy] at this;omega
  ·exact ih h2 hx hy
end Go.Proofs.YtlhicnfeajejhaaGreatDoor
