/- Steps towards MorseChecks. Conditions: none. -/
import Derived.Test.YtlhicnfeajejhaaGreatDoorFMj
set_option maxRecDepth 1000000
set_option maxHeartbeats 16000000
namespace Go.Cx
open Go.RowKit
variable {P:Program} {ops:Array Oper} {Q:Exit->Act->World->Prop} {md:Region.Mode} {S:World->Prop} {l n:Nat}
theorem qf2 {row:String} {args:Array Value} {w:World} {R:Value->World->Prop} (h:Rows P row args w R):RowsIn (Fence.wide.inRound l) n P row args w R:=fun c cs _=>by
 obtain⟨v,w',r,s⟩:=h c cs;exact⟨v,w',r,stepsIn_wide.2 s⟩
theorem qf3 {i:Nat} {K:Act->World->Prop} {a:Act} {w:World} (hd:∀ (j:Nat) o c,ops[j]? = some o->o.op≠.defer c) (nh:∀ a w,¬ Q .outgrown a w) (h:wpOp P ops Q i K a w):wpOpIn (Fence.wide.inRound l) n P ops Q i K a w:=by
 unfold wpOp at h;unfold wpOpIn;cases ho:ops[i]? with
 | none=>rw[ho] at h;exact h
 | some o =>
  rw[ho] at h
  dsimp only at h ⊢
  split
  ·next hw =>
   rw[if_pos hw] at h;rcases h with h | ⟨_,a2,w2,h2⟩
   ·refine⟨fun _ _=>trivial,?_⟩;rw[Oper.semAt_eq _ _ _ (fun c=>hd i o c ho)];unfold Oper.wp at h;generalize (execOp a.eval o).run P w=r at h ⊢;cases r with
    | ok m w' =>
     cases m <;> simp only [Oper.upon] at h <;> simp only [Oper.uponIn]
     case value u=>exact h
     case skip=>exact h
     case defer d=>exact h
     case enter f args=>exact⟨fun hh=>by simp[Fence.wide] at hh,CallsIn.inRound l (callsIn_wide.2 h)⟩
     case row row args=>exact⟨fun hh=>by simp[Fence.wide] at hh,qf2 h⟩
    | halt x w' =>
     cases x <;> simp only [Oper.upon] at h <;> simp only [Oper.uponIn]
     case panic u=>exact h
   ·exact absurd h2 (nh a2 w2)
  ·next hw =>
   rw[if_neg hw] at h;exact⟨fun _ _=>trivial,h⟩
theorem q5w (hd:∀ (j:Nat) o c,ops[j]? = some o->o.op≠.defer c) (nh:∀ a w,¬ Q .outgrown a w):∀ (fuel:Nat) (listed:Array Bool) (a:Act) (w:World),wpAny P md ops Q fuel listed a w->wpAnyIn (Fence.wide.inRound l) n P md ops Q fuel listed a w
 | 0,_,_,_,h=>h
 | fuel+1,_,_,_,h=>⟨h.1,fun i hi=>qf3 hd nh (wpOp_mono (fun a' w' h'=>q5w hd nh fuel _ a' w' h') (h.2 i hi))⟩
theorem q4y {id:Nat} {a:Act} {w:World} (hm:P.follows .mixedOrders=true) (hd:∀ (j:Nat) o c,ops[j]? = some o->o.op≠.defer c) (nh:∀ a w,¬ Q .outgrown a w)
  (h:wpAnyH P .any ops Q S ops.size (Array.replicate ops.size false) a w.drew):(Code.region id ops true).wpIn (Fence.wide.inRound l) n P Q a w :=
 wpIn_region_any hm (q5w hd nh _ _ _ _ (wpAny_of_held _ _ _ _ h))
theorem q8m {i:Nat} {o:Oper} {K:Act->World->Prop} {a:Act} {w:World} (hi:ops[i]? = some o) (hw:Region.wanted o (yielded ops a.tmps)=true) (h:Oper.wp P o a w K Q):wpOp P ops Q i K a w:=by
 unfold wpOp;rw[hi];dsimp only;rw[if_pos hw];exact .inl h
def qk8 (ops:Array Oper):Bool:=ops.all fun o=>match o.op with | .defer _=>false | _=>true
theorem q8n {ops:Array Oper} (h:qk8 ops=true):∀ (j:Nat) o c,ops[j]? = some o->o.op≠.defer c:=fun j o c ho e=>by
 have h1:=Array.all_eq_true.1 h;obtain⟨hj,rfl⟩:=gw.1 ho;have:=h1 j hj;rw[e] at this;cases this
end Go.Cx
namespace Go.Proofs.YtlhicnfeajejhaaGreatDoor
open Go.RowKit Go.Cx Go.Shelf
attribute [local go_sem] Oper.semAt_some
theorem qk9 (a:Option Addr) (len cap:Nat) (w:World) :
  Calls Tryz.prog 87 #[.agg #[.slice a len cap]] w fun e w'=>e = .returned (.func (.func 142) #[] #[.pointer (some ⟨w.heap.size,0,none⟩)])/\w'=w.alloc (.cells #[.slice a len cap] 26):=by
 go_enter Tryz.func87,Tryz.ntmps87;go_wp2;go_ret;exact⟨rfl,rfl⟩
theorem q73 (n:Nat) (hn:1<=n) (Bs:Nat) (v:Value) (L:List Ce) (w:World) (hS:SlC w v L) (hok:COk L) (zN:w.cell? ⟨Bs,0,none⟩=some v) :
  SeqStopsK Fence.wide n Tryz.prog 142 #[.pointer (some ⟨Bs,0,none⟩)] Pr.vs yw (fun ys=>ys.map Pr.raw=zk L) (fun _=>True) (zk L).length w:=fun l J Jx W hW hJ _ hY h0=>by
 refine(qh4 n hn l Bs v L W (hS.q8 hW) hok J Jx hY (q8 hW zN) (fun pre A B hj _ hg=>hJ pre A B none hj hg (fun r e=>by cases e)) h0).mono ?_;rintro e W' ⟨he,⟨ys,hy,hj⟩ | ⟨pre,hj⟩⟩
 ·exact⟨he,.inl ⟨_,hy,hj⟩⟩
 ·exact⟨he,.inr ⟨_,trivial,hj⟩⟩
def bdL (S:Int->Int) (L:List (Int×Sd)):List (Int×Int):=L.map fun x=>(x.2.c,S x.1*x.2.g)
theorem q5x (S:Int->Int) (L:List (Int×Sd)) (x:Int×Sd):bdL S (L++[x])=bdL S L++[(x.2.c,S x.1*x.2.g)]:=by simp[bdL]
theorem q5c (S:Int->Int) (L:List (Int×Sd)):(bdL S L).length=L.length:=by simp[bdL]
theorem qoy {x:Int} (h:x≠0):(!(mg x).toList.isEmpty)=true:=by
 have h1:bytesOf x.natAbs≠[]:=fun e=>h (by have:=(q03 x.natAbs).1 e;omega)
 unfold mg;cases hb:bytesOf x.natAbs with
 | nil=>exact absurd hb h1
 | cons c l=>simp[Lib.toList_data]
def BdI (w W4:World) (B1 B2 N:Nat) (g:Int->Option Value) (f:List Pr->List (Int×Int)) (pre:List Pr) (W:World):Prop :=
 Mp Tryz.prog 3 W B1 N g/\(∃ g2,Mp Tryz.prog 3 W B2 pre.length g2/\q2z g2 (co (f pre)))/\W.cell? ⟨B2+1,0,none⟩=some (.map (some B1))/\W.cell? ⟨B2+1+1,0,none⟩=some (.map (some B2))/\Below w.heap.size w W/\W4.heap.size<=W.heap.size
theorem BdI.grown {w W4:World} {B1 B2 N:Nat} {g:Int->Option Value} {f:List Pr->List (Int×Int)} {pre:List Pr} {W W':World} {row:Option Nat} (h:BdI w W4 B1 B2 N g f pre W) (hg:W.grownBy W' row) (hr:∀ r,row=some r->W4.heap.size<=r)
  (h1:B1 < W4.heap.size) (h2:B2+1+1 < W4.heap.size) (hw:w.heap.size<=W4.heap.size):BdI w W4 B1 B2 N g f pre W':=by
 obtain⟨a1,⟨g2,a2,a3⟩,a4,a5,a6,a7⟩:=h;refine⟨a1.kept hg (fun e=>by have:=hr _ e.symm;omega),⟨g2,a2.kept hg (fun e=>by have:=hr _ e.symm;omega),a3⟩,ql hg a4 (fun k e=>?_),ql hg a5 (fun k e=>?_),a6.grown hg (by omega) (fun k e=>by have:=hr _ e;omega),gn a7 hg.size⟩
 ·have:=hr _ e;show B2+1≠k;omega
 ·have:=hr _ e;show B2+1+1≠k;omega
theorem q4l {W W':World} {B n:Nat} {g:Int->Option Value} (hm:Mp Tryz.prog 3 W B n g) (hg:W.grownBy W' (some B)):yw W W':=fun p u hu=>by
 refine ql hg hu (fun k e=>?_);cases e
 intro e;obtain⟨o,h1,h2⟩:=cells_of_cell hu;obtain⟨D,⟨es,clock,hb,_⟩,_⟩:=hm;rw[e,hb] at h1;injection h1 with h1
 rw[<-h1] at h2;cases h2
theorem q5y (v:Value) (l:List Ce) (u:Value) (t:List Tm) (S:Nat) (w:World) (h:SlC w v l) (hok:COk l) (k:Sl w 3 u (tv t)) (hS:TOk S t) (hb:S+t.length+(zk l).length<=1099511627700) :
  Calls Tryz.prog 27 #[.agg #[v],u] w fun e w'=>∃ r,e = .returned r/\qbv w w' r (co (bdL (co (prs t)) (zk l))) (zk l).length:=by
 obtain⟨a,len,cap,rfl⟩:=qg h.1;obtain⟨a2,n2,cT,rfl⟩:=qg k;have cC:=@run_makeMap Tryz.prog;refine(callsIn_wide (n:=9)).1 ?_;refine callsIn_of_wp_marks Tryz.func27 rfl trivial ?_ rfl;simp only [Tryz.ntmps27,List.size_toArray,List.length_cons,List.length_nil,Nat.reduceAdd,Nat.reduceSub,Array.replicate_succ,Array.replicate_zero,List.push_toArray,List.append_toArray,List.nil_append,List.cons_append]
 gi_wp2_with fail
 refine⟨trivial,(callsIn_wide.2 (qn8 (.slice (some ⟨w.heap.size+1,0,none⟩) 1 1) [t] S ((w.alloc (.cells #[.slice a len cap] 26)).alloc (.cells #[.slice a2 n2 cT] 32)) (by have:=SlL.one (k.alloc (.cells #[.slice a len cap] 26)) 32;rwa [World.size_alloc] at this) (by simpa using hS) (by simp;omega))).mono ?_⟩;rintro e w1 ⟨rfl,⟨g,hm,hg⟩,ai⟩;simp only [List.flatten_cons,List.flatten_nil,List.append_nil,World.size_alloc] at hm hg ai;simp only [World.size_alloc];have al:Below w.heap.size w w1:=(((Below.refl _ w).alloc (nlr _) _).alloc (by simp) _).trans (ai.mono (by omega));have bT:w.heap.size+2<=w1.heap.size:=by have:=ai.size;simpa using this
 have q0:w1.cell? ⟨w.heap.size,0,none⟩=some (.slice a len cap):=q1n ai (by simp) (qk (qd w #[.slice a len cap] 26 (0,0) 0) _);have q1:=qk (qk (qk q0 (.map #[] 0)) (.cells #[.map (some (w.heap.size+1+1))] 99)) (.cells #[.map (some w1.heap.size)] 99);have HH:=lhd h;have iY:=lhd hok;have HG:=lhd hg;have E0:∀ c,nb (co (prs t) c)<=S+t.length:=fun c=>by
  have:=q0y S (prs t) (q19 hS) c
  rwa [kq] at this
 have lq:=lhd E0;clear h hok hg E0 ai q0 k
 gi_wp2_with fail
 refine⟨trivial,(callsIn_wide.2 (qk9 a len cap _)).mono ?_⟩;rintro e w' ⟨rfl,rfl⟩;simp only [World.size_alloc];clear q1;obtain⟨W4,kL⟩ : ∃ W4:World,W4=(((w1.alloc (.map #[] 0)).alloc (.cells #[.map (some (w.heap.size+1+1))] 99)).alloc (.cells #[.map (some w1.heap.size)] 99)).alloc (.cells #[.slice a len cap] 26):=⟨_,rfl⟩
 rw[<-kL];have mh:W4.heap.size=w1.heap.size+4:=by rw[kL];simp
 have bU:Below w.heap.size w W4:=by rw[kL];exact(((al.alloc (by omega) _).alloc (by simp;omega) _).alloc (by simp;omega) _).alloc (by simp;omega) _
 have k5:W4.cell? ⟨w1.heap.size+1,0,none⟩=some (.map (some (w.heap.size+1+1))):=by
  rw[kL];have:=qd (w1.alloc (.map #[] 0)) #[.map (some (w.heap.size+1+1))] 99 (0,0) 0
  rw[World.size_alloc] at this;exact qk (qk this _) _
 have k6:W4.cell? ⟨w1.heap.size+1+1,0,none⟩=some (.map (some w1.heap.size)):=by
  rw[kL];have:=qd ((w1.alloc (.map #[] 0)).alloc (.cells #[.map (some (w.heap.size+1+1))] 99)) #[.map (some w1.heap.size)] 99 (0,0) 0
  rw[World.size_alloc,World.size_alloc] at this;exact qk this _
 have k7:W4.cell? ⟨w1.heap.size+1+1+1,0,none⟩=some (.slice a len cap):=by
  rw[kL];have:=qd (((w1.alloc (.map #[] 0)).alloc (.cells #[.map (some (w.heap.size+1+1))] 99)).alloc (.cells #[.map (some w1.heap.size)] 99)) #[.slice a len cap] 26 (0,0) 0
  rw[World.size_alloc,World.size_alloc,World.size_alloc] at this;exact this
 have km:Mp Tryz.prog 3 W4 (w.heap.size+1+1) t.length g:=by rw[kL];exact(((hm.alloc _).alloc _).alloc _).alloc _
 have kn:Mp Tryz.prog 3 W4 w1.heap.size 0 (fun _=>none):=by rw[kL];exact(((Mp.made w1 Tryz.prog 3).alloc _).alloc _).alloc _
 have Q4:SlC W4 (.slice a len cap) l:=HH.out.mono fun p u hc=>Cx.q8 bU hc
 have LN:w.heap.size+1+1 < w1.heap.size:=hm.lt;clear kL hm;obtain⟨B1,iB⟩ : ∃ B1,B1=w.heap.size+1+1:=⟨_,rfl⟩
 obtain⟨B2,we⟩ : ∃ B2,B2=w1.heap.size:=⟨_,rfl⟩
 rw[<-iB] at k5 km LN ⊢;rw[<-we] at k5 k6 k7 kn LN mh bT ⊢;have Vl:w.heap.size < B1:=by omega
 have rk:=lhd (aiq iB we);clear iB we al
 gi_wp2_with fail
 refine wpIn_rangeFunc_ownH rfl (by omega) (gf:=142) (lb:=#[.pointer (some ⟨B2+1+1+1,0,none⟩)]) rfl trivial (enters_of Tryz.func142 (by kernel_rfl) rfl)
  (q73 (9 - 1) (by omega) (B2+1+1+1) _ l W4 Q4 iY.out k7) (fun h k=>yw.trans h k) (fun W l o o' _ hl ho _=>yw.put W l o o' hl ho) (Below.refl _ _) (fun _=>rfl)
  (BdI w W4 B1 B2 t.length g (fun pre=>bdL (co (prs t)) (pre.map Pr.raw)))
  (fun _ _ _=>False) ?own (fun _ _ _ _ _ hs _ _=>hs) ⟨km,⟨_,kn,q2z.zero⟩,k5,k6,bU,nlr _⟩
  (fun x a' W=>∃ (b:Nat),W.cell? ⟨b,0,none⟩=some (.int .i64 x.y.c)/\W.cell? ⟨b,1,none⟩=some (.int .i64 x.y.g)/\a'={ tmps:=#[.agg #[.slice a len cap],.slice a2 n2 cT,.pointer (some ⟨w.heap.size,0,none⟩),undef,.slice none 0 0,.pointer (some ⟨B2+1,0,none⟩),.pointer (some ⟨B2+1+1,0,none⟩),.int .i64 x.i,.pointer (some ⟨b,0,none⟩),undef,
   .slice a2 n2 cT,.slice (some ⟨w.heap.size+1,0,none⟩) 1 1,.map (some B1),.map (some B2),.agg #[.slice a len cap],.func (.func 142) #[] #[.pointer (some ⟨B2+1+1+1,0,none⟩)],.int .i64 x.i,.agg #[.int .i64 x.y.c,.int .i64 x.y.g],undef,undef,undef,undef,undef,undef,undef,undef,undef,undef,undef,undef,undef,undef,undef,undef,undef],defers:=[] }) ?ax ?assign ?body ?done ?stop
 case own=>exact fun pre W W' row hI hg hr=>hI.grown hg (fun r e=>(hr r e).1) (by omega) (by omega) (by omega)
 case ax =>
  rintro x a' u W W' row ⟨b,c0,c1,rfl⟩ hg hr;have hb:∀ k,row=some k->b≠k:=fun k e e2=>by
   obtain⟨o,h1,h2⟩:=(hr k e).2;obtain⟨o',h3,h4⟩:=cells_of_cell c0;rw[<-e2] at h1;have lU:W.heap[b]? = some o':=h3;rw[h1] at lU;injection lU with lU
   rw[lU,h4] at h2;cases h2
  exact⟨b,ql hg c0 hb,ql hg c1 hb,rfl⟩
 case assign =>
  intro l' pre x W K hI hK;simp only [Pr.vs]
  gi_wp2
  have zV:=World.grownBy_alloc W (.cells #[.int .i64 x.y.c,.int .i64 x.y.g] 108) none;exact hK _ _ (KeepsFrom.of_grownBy zV (fun j e=>by cases e)) (fun p u hu=>qk hu _) (hI.grown zV (fun r e=>by cases e) (by omega) (by omega) (by omega)) ⟨W.heap.size,qd W _ _ _ 0,qd W _ _ _ 1,rfl⟩
 case body =>
  rintro l' pre x a' W rP zW hI ⟨b,c0,c1,rfl⟩ hlt;have LO:=hI;obtain⟨cO,⟨g2,dy,dH⟩,h5,h6,aL,ao⟩:=hI;have aq:=q0k (P:=Tryz.prog) (k:=3) Tryz.underlying3 x.hi.1 x.hi.2;have Q5:=lhd LO;have LP:=lhd dH;have fK:=lhd dy;have oZ:=lq.out x.i;clear LO dH dy zW;have E3:=qd W #[.bool (decide (co (prs t) x.i < 0)),.string (mg (co (prs t) x.i))] 38 (0,0) 0;have E4:=qd W #[.bool (decide (co (prs t) x.i < 0)),.string (mg (co (prs t) x.i))] 38 (0,0) 1;have zV:=World.grownBy_alloc W (.cells #[.bool (decide (co (prs t) x.i < 0)),.string (mg (co (prs t) x.i))] 38) none;have Bn:∀ y:Pr,(pre++[y]).map Pr.raw=pre.map Pr.raw++[y.raw]:=fun y=>by simp
  have Bo:=lhd Bn;clear Bn;have hlen:∀ y:Pr,(pre++[y]).length=pre.length+1:=fun y=>by simp
  have wg:=lhd hlen;clear hlen;by_cases hz:co (prs t) x.i=0
  ·have he:(!(mg (co (prs t) x.i)).toList.isEmpty)=false:=by rw[hz,q8d];simp[Lib.toList_data]
   have HZ:=lhd hz;clear hz E3 E4
   gi_wp2_with (gi_at_lookup;refine qa5 rfl _ _ 99 rfl cO Tryz.underlying3 Tryz.underlying99 (q20 _) x.i rfl rfl aq ?_;rw[HG.out])
   obtain⟨r1,⟨g3,r2,r3⟩,r4⟩:=Q5.out.grown zV (fun r e=>by cases e) (by omega) (by omega) (by omega);refine⟨KeepsFrom.of_grownBy zV (fun j e=>by cases e),fun p u hu=>qk hu _,r1,⟨g3,?_,?_⟩,r4⟩
   ·rw[wg.out];exact r2.mono (Nat.le_succ _)
   ·refine r3.congr fun c=>?_
    show co (bdL (co (prs t)) (pre.map Pr.raw)) c=co (bdL (co (prs t)) ((pre++[x]).map Pr.raw)) c;rw[Bo.out,q5x,q5a];show _=_+if x.y.c=c then co (prs t) x.i*x.y.g else 0
    rw[HZ.out];simp
  ·have he:(!(mg (co (prs t) x.i)).toList.isEmpty)=true:=qoy hz;clear hz
   gi_wp2_with (gi_at_lookup;refine qa5 rfl _ _ 99 rfl cO Tryz.underlying3 Tryz.underlying99 (q20 _) x.i rfl rfl aq ?_;rw[HG.out])
   obtain⟨W2,fh⟩ : ∃ W2,W2=W.alloc (.cells #[.bool (decide (co (prs t) x.i < 0)),.string (mg (co (prs t) x.i))] 38):=⟨_,rfl⟩
   rw[<-fh] at E3 E4 zV ⊢;have u0:W2.cell? ⟨b,0,none⟩=some (.int .i64 x.y.c):=by rw[fh];exact qk c0 _
   have u1:W2.cell? ⟨b,1,none⟩=some (.int .i64 x.y.g):=by rw[fh];exact qk c1 _
   have u6:W2.cell? ⟨B2+1+1,0,none⟩=some (.map (some B2)):=by rw[fh];exact qk h6 _
   have u2:W2.cell? ⟨W.heap.size,0,none⟩=some (.bool (decide (co (prs t) x.i < 0))):=E3;have u3:W2.cell? ⟨W.heap.size,1,none⟩=some (.string (mg (co (prs t) x.i))):=E4;have um:Mp Tryz.prog 3 W2 B2 pre.length g2:=by rw[fh];exact fK.out.alloc _
   have UM:=lhd um;have Bp:Below W.heap.size W W2:=by rw[fh];exact(Below.refl _ W).alloc (nlr _) _
   have Q6:=q48 _ x.hg.1 x.hg.2;have lf:(mg x.y.g).size<=8:=by rw[j5];exact Q6
   have Vm:nb (co (bdL (co (prs t)) (pre.map Pr.raw)) x.y.c)<=S+t.length+8+pre.length:=by
    have h1:=q0y (S+t.length+8) (bdL (co (prs t)) (pre.map Pr.raw)) (fun p hp=>by
     obtain⟨q,hq,rfl⟩:=go.1 hp;obtain⟨y,hy,rfl⟩:=go.1 hq;have h2:=q39 (co (prs t) y.i) y.y.g;have h3:=lq.out y.i;have h4:=q48 _ y.hg.1 y.hg.2;show nb (co (prs t) y.i*y.y.g)<=_;omega) x.y.c
    rw[q5c,gm] at h1;exact h1
   have AX:=q39 (co (prs t) x.i) x.y.g;have zX:=lhd fh;clear fh E3 E4 um;have mixed:Tryz.prog.follows .mixedOrders=true:=by kernel_rfl
   refine q4y (S:=fun W'=>W'.cell? ⟨B2+1+1,0,none⟩=some (.map (some B2))/\W'.cell? ⟨b,0,none⟩=some (.int .i64 x.y.c)/\W'.cell? ⟨b,1,none⟩=some (.int .i64 x.y.g)/\W'.cell? ⟨W.heap.size,0,none⟩=some (.bool (decide (co (prs t) x.i < 0)))/\W'.cell? ⟨W.heap.size,1,none⟩=some (.string (mg (co (prs t) x.i))))
    mixed (q8n (by kernel_rfl)) (fun _ _ h=>h) ?_
   have dR:W2.drew.cell? ⟨B2+1+1,0,none⟩=some (.map (some B2))/\W2.drew.cell? ⟨b,0,none⟩=some (.int .i64 x.y.c)/\W2.drew.cell? ⟨b,1,none⟩=some (.int .i64 x.y.g)/\W2.drew.cell? ⟨W.heap.size,0,none⟩=some (.bool (decide (co (prs t) x.i < 0)))/\W2.drew.cell? ⟨W.heap.size,1,none⟩=some (.string (mg (co (prs t) x.i))):=⟨u6,u0,u1,u2,u3⟩
   refine wpAnyH_take (i:=0) (v:=.map (some B2)) rfl (by kernel_rfl) (by kernel_rfl) (by kernel_rfl) (fun _ _ _ h=>h) (.inl ⟨rfl,fun w hS=>?_⟩) dR ?_
   ·obtain⟨s6,s0,s1,s2,s3⟩:=hS
    go_simp
   refine wpAnyH_take (i:=1) (v:=.pointer (some ⟨b,0,none⟩)) rfl (by kernel_rfl) (by kernel_rfl) (by kernel_rfl) (fun _ _ _ h=>h) (.inl ⟨rfl,fun w hS=>?_⟩) dR ?_
   ·go_simp
   refine wpAnyH_take (i:=2) (v:=.int .i64 x.y.c) rfl (by kernel_rfl) (by kernel_rfl) (by kernel_rfl) (fun _ _ _ h=>h) (.inl ⟨rfl,fun w hS=>?_⟩) dR ?_
   ·obtain⟨s6,s0,s1,s2,s3⟩:=hS
    go_simp
   refine wpAnyH_take (i:=3) (v:=.agg #[.bool (decide (co (prs t) x.i < 0)),.string (mg (co (prs t) x.i))]) rfl (by kernel_rfl) (by kernel_rfl) (by kernel_rfl) (fun _ _ _ h=>h) (.inl ⟨rfl,fun w hS=>?_⟩) dR ?_
   ·obtain⟨s6,s0,s1,s2,s3⟩:=hS
    go_simp
   refine wpAnyH_take (i:=4) (v:=.pointer (some ⟨b,1,none⟩)) rfl (by kernel_rfl) (by kernel_rfl) (by kernel_rfl) (fun _ _ _ h=>h) (.inl ⟨rfl,fun w hS=>?_⟩) dR ?_
   ·go_simp
   refine wpAnyH_take (i:=5) (v:=.int .i64 x.y.g) rfl (by kernel_rfl) (by kernel_rfl) (by kernel_rfl) (fun _ _ _ h=>h) (.inl ⟨rfl,fun w hS=>?_⟩) dR ?_
   ·obtain⟨s6,s0,s1,s2,s3⟩:=hS
    go_simp
   refine wpAnyH_all (rs:=[6]) (by kernel_rfl) (by simp) (fun i hi=>?_);obtain rfl:i=6:=by simpa using hi
   refine q8m rfl rfl ?_
   go_simp
   refine(qgv x.y.g _ x.hg.1 x.hg.2).mono ?_;rintro e w3 ⟨rfl,ct⟩;have aB:Below W2.heap.size W2 w3:=xt (ct.mono (by simp));refine⟨⟨Cx.q8 aB u6,Cx.q8 aB u0,Cx.q8 aB u1,Cx.q8 aB u2,Cx.q8 aB u3⟩,?_⟩;refine wpAnyH_all (rs:=[7]) (by kernel_rfl) (by simp) (fun i hi=>?_);obtain rfl:i=7:=by simpa using hi
   refine q8m rfl rfl ?_
   go_simp
   refine(qmh _ _ _ _ _ (by rw[j5];omega) (by rw[j5];omega)).mono ?_;rintro e w5 ⟨rfl,ib⟩;rw[q0i,q0i];have aT:Below W2.heap.size W2 w5:=aB.trans (ib.mono aB.size);refine⟨⟨Cx.q8 aT u6,Cx.q8 aT u0,Cx.q8 aT u1,Cx.q8 aT u2,Cx.q8 aT u3⟩,?_⟩;refine wpAnyH_all (rs:=[8]) (by kernel_rfl) (by simp) (fun i hi=>?_);obtain rfl:i=8:=by simpa using hi
   refine q8m rfl rfl ?_
   go_simp
   refine(qmi B2 pre.length g2 x.y.c _ _ _ _ (UM.out.q8 aT) (by omega) x.hc.1 x.hc.2 (LP.out x.y.c) (by omega) (by rw[j5];omega)).mono ?_;rintro e w7 ⟨rfl,fL,de⟩;rw[q0i] at fL;have ni:Below W.heap.size W w5:=Bp.trans (aT.mono Bp.size);have G8:W.grownBy w7 (some B2):=(q1y ni (some B2)).trans de;have wh:∀ p u,w5.cell? p=some u->w7.cell? p=some u:=q4l (UM.out.q8 aT) de;refine⟨⟨wh _ _ (Cx.q8 aT u6),wh _ _ (Cx.q8 aT u0),wh _ _ (Cx.q8 aT u1),wh _ _ (Cx.q8 aT u2),wh _ _ (Cx.q8 aT u3)⟩,?_⟩;refine wpAnyH_done (by kernel_rfl) ?_ _;refine⟨KeepsFrom.of_grownBy G8 (fun j e=>by cases e;omega),q4l fK.out G8,(cO.q8 ni).kept de (by simp;omega),⟨_,by rw[wg.out];exact fL,?_⟩,wh _ _ (Cx.q8 ni h5),wh _ _ (Cx.q8 ni h6),(aL.trans (ni.mono aL.size)).grown de (by have:=ni.size;have:=aL.size;omega) (fun j e=>by cases e;omega),by have:=G8.size;omega⟩
   ·refine(LP.out.put x.y.c (co (prs t) x.i*x.y.g)).congr fun c=>?_
    show _=co (bdL (co (prs t)) ((pre++[x]).map Pr.raw)) c;rw[Bo.out,q5x,q5a];rfl
 case done =>
  rintro D ys W hD dW hI hK;obtain⟨cO,⟨g2,dy,dH⟩,h5,h6,aL,ao⟩:=hI;have E5:ys.length=(zk l).length:=by rw[<-dW,gm]
  rw[E5] at dy;have eJ:q2z g2 (co (bdL (co (prs t)) (zk l))):=by rw[<-dW];exact dH
  have jG:∀ c,nb (co (bdL (co (prs t)) (zk l)) c)<=1099511627776:=fun c=>by
   have h1:=q0y (S+t.length+8) (bdL (co (prs t)) (zk l)) (fun p hp=>by
    rw[<-dW] at hp;obtain⟨q,hq,rfl⟩:=go.1 hp;obtain⟨y,hy,rfl⟩:=go.1 hq;have h2:=q39 (co (prs t) y.i) y.y.g;have h3:=lq.out y.i;have h4:=q48 _ y.hg.1 y.hg.2;show nb (co (prs t) y.i*y.y.g)<=_;omega) c
   rw[q5c] at h1;omega
  have ae:=q8k B2 (zk l).length g2 _ W dy eJ (by omega) jG;have HC:=lhd ae;clear ae dW dy dH eJ jG
  gi_wp2_with fail
  refine⟨trivial,(callsIn_wide.2 HC.out).mono ?_⟩;rintro e w2 ⟨r,rfl,L,z1,z2,z3,z4,ag⟩
  gi_wp2_with fail
  have Q7:D < W.heap.size:=(gw.1 hK).1;have oQ:w2.heap[D]? = some (.deferred (some [])):=(ag.block D Q7).trans hK;refine⟨by simp,.inl ⟨_,_,rfl,run_takeDeferred oQ,?_⟩⟩;have LQ:=grownBy_putObj' w2 D (.deferred none);have dI:=aL.trans (ag.mono aL.size);refine⟨_,results_tmp rfl _ _ _,r,rfl,⟨L,z1,z2,z3,?_⟩,dI.grown LQ dI.size (fun k e=>by cases e;have:=bU.size;omega)⟩;exact qf (z4.kept LQ (.inr (fun e=>by have:=(z4.lt D e).1;omega))) aL.size
 case stop =>
  rintro D c pre W _ _ h _;exact h.elim
end Go.Proofs.YtlhicnfeajejhaaGreatDoor
