/- Steps towards SequenceChecks. Conditions: none. -/
import Derived.Test.YtmkpbhaoalbhjaaGreatDoorXMj
set_option maxRecDepth 1000000
set_option maxHeartbeats 0
open Go.Value renaming slice→O,agg→I,pointer→σ,bool→τ,int→H,string→ω
open Option renaming none→Z,some→Y
open Go renaming undef→V,World→δ,Value→ε
open Go.IntKind renaming i64→φ
open Go.Cx renaming keep→J
namespace Go.Cx
open Go.RowKit
variable {P:Program}{ops:Array Oper}{Q:Exit->Act->δ->Prop}{md:Region.Mode}{S:δ->Prop}{l n:Nat}
theorem qf2 {row:String}{args:Array ε}{w:δ}{R:ε->δ->Prop}(h:Rows P row args w R):RowsIn (Fence.wide.inRound l) n P row args w R:=fun c cs _=>by obtain⟨v,w',r,s⟩:=h c cs;exact⟨v,w',r,stepsIn_wide.2 s⟩
theorem qf3 {i:Nat}{K:Act->δ->Prop}{a:Act}{w:δ}(hd:∀(j:Nat) o c,ops[j]? =Y o->o.op≠.defer c)(oV:∀a w,¬Q .outgrown a w)(h:wpOp P ops Q i K a w):wpOpIn (Fence.wide.inRound l) n P ops Q i K a w:=by
 unfold wpOp at h;unfold wpOpIn;cases ho:ops[i]? with
 |none=>rw[ho]at h;exact h
 |some o =>
  rw[ho]at h
  dsimp only at h ⊢
  split
  ·next hw =>
   rw[if_pos hw]at h;rcases h with h|⟨_,a2,w2,h2⟩
   ·refine⟨fun _ _=>trivial,?_⟩;rw[Oper.semAt_eq _ _ _ (fun c=>hd i o c ho)];unfold Oper.wp at h;generalize (execOp a.eval o).run P w=r at h ⊢;cases r with
    |ok m w' =>
     cases m <;> simp only [Oper.upon]at h <;> simp only [Oper.uponIn]
     case value u=>exact h
     case skip=>exact h
     case defer d=>exact h
     case enter f args=>exact⟨fun hh=>by simp[Fence.wide]at hh,CallsIn.inRound l (callsIn_wide.2 h)⟩
     case row row args=>exact⟨fun hh=>by simp[Fence.wide]at hh,qf2 h⟩
    |halt x w' =>
     cases x <;> simp only [Oper.upon]at h <;> simp only [Oper.uponIn]
     case panic u=>exact h
   ·exact absurd h2 (oV a2 w2)
  ·next hw =>rw[if_neg hw]at h;exact⟨fun _ _=>trivial,h⟩
theorem q5w (hd:∀(j:Nat) o c,ops[j]? =Y o->o.op≠.defer c)(oV:∀a w,¬Q .outgrown a w):∀(fuel:Nat) (listed:Array Bool) (a:Act) (w:δ),wpAny P md ops Q fuel listed a w->wpAnyIn (Fence.wide.inRound l) n P md ops Q fuel listed a w
 |0,_,_,_,h=>h
 |fuel+1,_,_,_,h=>⟨h.1,fun i hi=>qf3 hd oV (wpOp_mono (fun a' w' h'=>q5w hd oV fuel _ a' w' h') (h.2 i hi))⟩
theorem q4y {id:Nat}{a:Act}{w:δ}(hm:P.follows .mixedOrders=true)(hd:∀(j:Nat) o c,ops[j]? =Y o->o.op≠.defer c)(oV:∀a w,¬Q .outgrown a w)
  (h:wpAnyH P .any ops Q S ops.size (Array.replicate ops.size false) a w.drew):(Code.region id ops true).wpIn (Fence.wide.inRound l) n P Q a w :=
 wpIn_region_any hm (q5w hd oV _ _ _ _ (wpAny_of_held _ _ _ _ h))
theorem q8m {i:Nat}{o:Oper}{K:Act->δ->Prop}{a:Act}{w:δ}(hi:ops[i]? =Y o)(hw:Region.wanted o (yielded ops a.tmps)=true)(h:Oper.wp P o a w K Q):wpOp P ops Q i K a w:=by unfold wpOp;rw[hi];dsimp only;rw[if_pos hw];exact .inl h
def qk8 (ops:Array Oper):Bool:=ops.all fun o=>match o.op with | .defer _=>false|_=>true
theorem q8n {ops:Array Oper}(h:qk8 ops=true):∀(j:Nat) o c,ops[j]? =Y o->o.op≠.defer c:=fun j o c ho e=>by have h1:=Array.all_eq_true.1 h;obtain⟨hj,rfl⟩:=gh.1 ho;have:=h1 j hj;rw[e]at this;cases this
end Go.Cx
namespace Go.Proofs.YtmkpbhaoalbhjaaGreatDoor
open Go.RowKit Go.Cx Go.Shelf
attribute [local go_sem] Oper.semAt_some
theorem qk9 (a:Option Addr)(len cap:Nat)(w:δ) :
  Calls Tryz.prog 144 #[I #[O a len cap]] w fun e w'=>e=.returned (.func (.func 163) #[] #[σ w])/\w'=w.alloc (.cells #[O a len cap] 36):=by
 go_enter Tryz.func144,Tryz.ntmps144;go_wp2;go_ret;exact⟨rfl,rfl⟩
theorem q73 (n:Nat)(hn:1<=n)(Bs:Nat)(v:ε)(L:List Ce)(w:δ)(hS:SlC w v L)(fj:COk L)(Bi:w Bs=Y v) :
  SeqStopsK Fence.wide n Tryz.prog 163 #[σ Bs] Pr.vs yw (fun ys=>ys.map Pr.raw=q2o L) (fun _=>True) (q2o L).length w:=fun l At Jx W hW hJ _ hY h0=>by
 refine(qh4 n hn l Bs v L W (hS.keep hW) fj At Jx hY (keep hW Bi) (fun pre A B hj _ hg=>hJ pre A B Z hj hg (fun r e=>by cases e)) h0).mono ?_;rintro e W' ⟨he,⟨ys,hy,hj⟩|⟨pre,hj⟩⟩
 ·exact⟨he,.inl ⟨_,hy,hj⟩⟩
 ·exact⟨he,.inr ⟨_,trivial,hj⟩⟩
def bdL (S:Int->Int)(L:List (Int×Sd)):List (Int×Int):=L.map fun x=>(x.2.c,S x.1*x.2.g)
theorem q5x (S:Int->Int)(L:List (Int×Sd))(x:Int×Sd):bdL S (L++[x])=bdL S L++[(x.2.c,S x.1*x.2.g)]:=by simp[bdL]
theorem q5c (S:Int->Int)(L:List (Int×Sd)):(bdL S L).length=L.length:=by simp[bdL]
theorem qoy {x:Int}(h:x≠0):(!(mg x).toList.isEmpty)=true:=by
 have h1:bytesOf x.natAbs≠[]:=fun e=>h (by have:=(q03 x.natAbs).1 e;omega)
 unfold mg;cases hb:bytesOf x.natAbs with
 |nil=>exact absurd hb h1
 |cons c l=>simp[Lib.toList_data]
def BdI (w W4:δ)(B1 B2 N:Nat)(g:Int->Option ε)(f:List Pr->List (Int×Int))(pre:List Pr)(W:δ):Prop :=
 Mp Tryz.prog 3 W B1 N g/\(∃g2,Mp Tryz.prog 3 W B2 pre.length g2/\q2z g2 (co (f pre)))/\W (B2+1:Nat)=Value.map (Y B1)/\W (B2+1+1:Nat)=Value.map (Y B2)/\Below w w W/\W4.heap.size<=W
theorem BdI.grown {w W4:δ}{B1 B2 N:Nat}{g:Int->Option ε}{f:List Pr->List (Int×Int)}{pre:List Pr}{W W':δ}{row:Option Nat}(h:BdI w W4 B1 B2 N g f pre W)(hg:W.grownBy W' row)(hr:∀r,row=Y r->W4<=r)
  (h1:B1<W4) (h2:B2+1+1<W4) (hw:w.heap.size<=W4):BdI w W4 B1 B2 N g f pre W':=by
 obtain⟨a1,⟨g2,a2,a3⟩,a4,a5,a6,a7⟩:=h;refine⟨a1.kept hg (fun e=>by have:=hr _ e.symm;omega),⟨g2,a2.kept hg (fun e=>by have:=hr _ e.symm;omega),a3⟩,ql hg a4 (fun k e=>?_),ql hg a5 (fun k e=>?_),a6.grown hg (by omega) (fun k e=>by have:=hr _ e;omega),gd a7 hg.size⟩
 ·have:=hr _ e;show B2+1≠k;omega
 ·have:=hr _ e;show B2+1+1≠k;omega
theorem q4l {W W':δ}{B n:Nat}{g:Int->Option ε}(hm:Mp Tryz.prog 3 W B n g)(hg:W.grownBy W' (Y B)):yw W W':=fun p u hu=>by
 refine ql hg hu (fun k e=>?_);cases e
 intro e;obtain⟨o,h1,h2⟩:=cells_of_cell hu;obtain⟨D,⟨es,clock,hb,_⟩,_⟩:=hm;rw[e,hb]at h1;injection h1 with h1
 rw[<-h1]at h2;cases h2
theorem q5y (v:ε)(l:List Ce)(u:ε)(t:List Tm)(S:Nat)(w:δ)(h:SlC w v l)(fj:COk l)(k:Sl w 3 u (tv t))(hS:TOk S t)(hb:S+t.length+(q2o l).length<=1099511627700) :
  Calls Tryz.prog 117 #[I #[v],u] w fun e w'=>∃r,e=.returned r/\qbv w w' r (co (bdL (co (prs t)) (q2o l))) (q2o l).length:=by
 obtain⟨a,len,cap,rfl⟩:=qg h.1;obtain⟨a2,n2,iE,rfl⟩:=qg k;have dU:=@run_makeMap Tryz.prog;refine(callsIn_wide (n:=9)).1 ?_;refine callsIn_of_wp_marks Tryz.func117 rfl trivial ?_ rfl;simp only [Tryz.ntmps117,List.size_toArray,List.length_cons,List.length_nil,Nat.reduceAdd,Nat.reduceSub,Array.replicate_succ,Array.replicate_zero,List.push_toArray,List.append_toArray,List.nil_append,List.cons_append]
 gi_wp2_with fail
 refine⟨trivial,(callsIn_wide.2 (qn8 (O (w+1:Nat) 1 1) [t] S ((w.alloc (.cells #[O a len cap] 36)).alloc (.cells #[O a2 n2 iE] 159)) (by have:=SlL.one (k.alloc (.cells #[O a len cap] 36)) 159;rwa [World.size_alloc]at this) (by simpa using hS) (by simp;omega))).mono ?_⟩;rintro e w1 ⟨rfl,⟨g,hm,hg⟩,ae⟩;simp only [List.flatten_cons,List.flatten_nil,List.append_nil,World.size_alloc]at hm hg ae;simp only [World.size_alloc];have aF:Below w w w1:=((bal w _).alloc (by simp) _).trans (ae.mono (by omega));have dB:w.heap.size+2<=w1:=by have:=ae.size;simpa using this
 have q0:w1 w=O a len cap:=q1n ae (by simp) (qk (qd w #[O a len cap] 36 (0,0) 0) _);have q1:=qk (qk (qk q0 (.map #[] 0)) (.cells #[.map (Y (w+1+1))] 199)) (.cells #[.map (Y w1)] 199);have HH:=lhd h;have qZ:=lhd fj;have HG:=lhd hg;have yK:∀c,nb (co (prs t) c)<=S+t.length:=fun c=>by
  have:=q0y S (prs t) (q19 hS) c
  rwa [kq]at this
 have Bt:=lhd yK;clear h fj hg yK ae q0 k
 gi_wp2_with fail
 refine⟨trivial,(callsIn_wide.2 (qk9 a len cap _)).mono ?_⟩;rintro e w' ⟨rfl,rfl⟩;simp only [World.size_alloc];clear q1;obtain⟨W4,jN⟩:=x4 ((((w1.alloc (.map #[] 0)).alloc (.cells #[.map (Y (w.heap.size+1+1))] 199)).alloc (.cells #[.map (Y w1.heap.size)] 199)).alloc (.cells #[O a len cap] 36));rw[<-jN];have tG:W4.heap.size=w1+4:=by rw[jN];simp
 have iD:Below w w W4:=by rw[jN];exact(((aF.alloc (by omega) _).alloc (by simp;omega) _).alloc (by simp;omega) _).alloc (by simp;omega) _
 have k5:W4 (w1+1:Nat)=Value.map (Y (w+1+1)):=by
  rw[jN];have:=qd (w1.alloc (.map #[] 0)) #[.map (Y (w+1+1))] 199 (0,0) 0
  rw[World.size_alloc]at this;exact qk (qk this _) _
 have k6:W4 (w1+1+1:Nat)=Value.map (Y w1):=by
  rw[jN];have:=qd ((w1.alloc (.map #[] 0)).alloc (.cells #[.map (Y (w+1+1))] 199)) #[.map (Y w1)] 199 (0,0) 0
  rw[World.size_alloc,World.size_alloc]at this;exact qk this _
 have k7:W4 (w1+1+1+1:Nat)=O a len cap:=by
  rw[jN];have:=qd (((w1.alloc (.map #[] 0)).alloc (.cells #[.map (Y (w+1+1))] 199)).alloc (.cells #[.map (Y w1)] 199)) #[O a len cap] 36 (0,0) 0
  rw[World.size_alloc,World.size_alloc,World.size_alloc]at this;exact this
 have km:Mp Tryz.prog 3 W4 (w+1+1) t.length g:=by rw[jN];exact(((hm.alloc _).alloc _).alloc _).alloc _
 have kn:Mp Tryz.prog 3 W4 w1 0 (fun _=>Z):=by rw[jN];exact(((Mp.made w1 Tryz.prog 3).alloc _).alloc _).alloc _
 have R7:SlC W4 (O a len cap) l:=HH.out.mono fun p u hc=>J iD hc
 have NA:w.heap.size+1+1<w1:=hm.lt;clear jN hm;obtain⟨B1,yY⟩:=x4 (w.heap.size+1+1);obtain⟨B2,yZ⟩:=x4 w1.heap.size;rw[<-yY]at k5 km NA ⊢;rw[<-yZ]at k5 k6 k7 kn NA tG dB ⊢;have WX:w<B1:=by omega
 have Jw:=jg yY yZ;clear yY yZ aF
 gi_wp2_with fail
 refine wpIn_rangeFunc_ownH rfl (by omega) (gf:=163) (lb:=#[σ (B2+1+1+1:Nat)]) rfl trivial (enters_of Tryz.func163 (by kernel_rfl) rfl)
  (q73 (9-1) (by omega) (B2+1+1+1) _ l W4 R7 qZ.out k7) (fun h k=>yw.trans h k) (fun W l o o' _ hl ho _=>yw.put W l o o' hl ho) q9 (fun _=>rfl)
  (BdI w W4 B1 B2 t.length g (fun pre=>bdL (co (prs t)) (pre.map Pr.raw)))
  (fun _ _ _=>False) ?own (fun _ _ _ _ _ hs _ _=>hs) ⟨km,⟨_,kn,q2z.zero⟩,k5,k6,iD,nlr _⟩
  (fun x a' W=>∃(b:Nat),W.cell? ⟨b,0,Z⟩=Y (H φ x.y.c)/\W.cell? ⟨b,1,Z⟩=Y (H φ x.y.g)/\a'={ tmps:=#[I #[O a len cap],O a2 n2 iE,σ (Y ⟨w.heap.size,0,Z⟩),V,O Z 0 0,σ (Y ⟨B2+1,0,Z⟩),σ (Y ⟨B2+1+1,0,Z⟩),H φ x.i,σ (Y ⟨b,0,Z⟩),V,
   O a2 n2 iE,O (Y ⟨w.heap.size+1,0,Z⟩) 1 1,.map (Y B1),.map (Y B2),I #[O a len cap],.func (.func 163) #[] #[σ (Y ⟨B2+1+1+1,0,Z⟩)],H φ x.i,I #[H φ x.y.c,H φ x.y.g],V,V,V,V,V,V,V,V,V,V,V,V,V,V,V,V,V],defers:=[] }) ?ax ?assign ?body ?done ?stop
 case own=>exact fun pre W W' row hI hg hr=>hI.grown hg (fun r e=>(hr r e).1) (by omega) (by omega) (by omega)
 case ax =>
  rintro x a' u W W' row ⟨b,c0,c1,rfl⟩ hg hr;have hb:∀k,row=Y k->b≠k:=fun k e e2=>by
   obtain⟨o,h1,h2⟩:=(hr k e).2;obtain⟨o',h3,h4⟩:=cells_of_cell c0;rw[<-e2]at h1;have wJ:W.heap[b]? =Y o':=h3;rw[h1]at wJ;injection wJ with wJ
   rw[wJ,h4]at h2;cases h2
  exact⟨b,ql hg c0 hb,ql hg c1 hb,rfl⟩
 case assign =>
  intro l' pre x W K hI hK;simp only [Pr.vs]
  gi_wp2
  have Bw:=World.grownBy_alloc W (.cells #[x.y.c,x.y.g] 54) Z;exact hK _ _ (KeepsFrom.of_grownBy Bw (fun j e=>by cases e)) (fun p u hu=>qk hu _) (hI.grown Bw (fun r e=>by cases e) (by omega) (by omega) (by omega)) ⟨W,qd W _ _ _ 0,qd W _ _ _ 1,rfl⟩
 case body =>
  rintro l' pre x a' W nc R8 hI ⟨b,c0,c1,rfl⟩ ak;have NB:=hI;obtain⟨fP,⟨g2,dE,fY⟩,h5,h6,aT,hsz⟩:=hI;have av:=q0k (P:=Tryz.prog) (k:=3) Tryz.underlying3 x.hi.1 x.hi.2;have R9:=lhd NB;have CM:=lhd fY;have eY:=lhd dE;have qC:=Bt.out x.i;clear NB fY dE R8;have GI:=qd W #[τ (decide (co (prs t) x.i<0)),ω (mg (co (prs t) x.i))] 110 (0,0) 0;have oW:=qd W #[τ (decide (co (prs t) x.i<0)),ω (mg (co (prs t) x.i))] 110 (0,0) 1;have Bw:=World.grownBy_alloc W (.cells #[τ (decide (co (prs t) x.i<0)),ω (mg (co (prs t) x.i))] 110) Z;have CN:∀y:Pr,(pre++[y]).map Pr.raw=pre.map Pr.raw++[y.raw]:=fun y=>by simp
  have CO:=lhd CN;clear CN;have hlen:∀y:Pr,(pre++[y]).length=pre.length+1:=fun y=>by simp
  have CP:=lhd hlen;clear hlen;by_cases hz:co (prs t) x.i=0
  ·have he:(!(mg (co (prs t) x.i)).toList.isEmpty)=false:=by rw[hz,q8d];simp[Lib.toList_data]
   have HZ:=lhd hz;clear hz GI oW
   gi_wp2_with (gi_at_lookup;refine qa5 rfl _ _ 199 rfl fP Tryz.underlying3 Tryz.underlying199 (q20 _) x.i rfl rfl av ?_;rw[HG.out])
   obtain⟨r1,⟨g3,r2,r3⟩,r4⟩:=R9.out.grown Bw (fun r e=>by cases e) (by omega) (by omega) (by omega);refine⟨KeepsFrom.of_grownBy Bw (fun j e=>by cases e),fun p u hu=>qk hu _,r1,⟨g3,?_,?_⟩,r4⟩
   ·rw[CP.out];exact r2.mono (Nat.le_succ _)
   ·refine r3.congr fun c=>?_
    show co (bdL (co (prs t)) (pre.map Pr.raw)) c=co (bdL (co (prs t)) ((pre++[x]).map Pr.raw)) c;rw[CO.out,q5x,q5a];show _=_+if x.y.c=c then co (prs t) x.i*x.y.g else 0
    rw[HZ.out];simp
  ·have he:(!(mg (co (prs t) x.i)).toList.isEmpty)=true:=qoy hz;clear hz
   gi_wp2_with (gi_at_lookup;refine qa5 rfl _ _ 199 rfl fP Tryz.underlying3 Tryz.underlying199 (q20 _) x.i rfl rfl av ?_;rw[HG.out])
   obtain⟨W2,aY⟩:=x4 (W.alloc (.cells #[τ (decide (co (prs t) x.i<0)),ω (mg (co (prs t) x.i))] 110));rw[<-aY]at GI oW Bw ⊢;have u0:W2 b=x.y.c:=by rw[aY];exact qk c0 _
   have u1:W2 ⟨b,1,Z⟩=x.y.g:=by rw[aY];exact qk c1 _
   have u6:W2 (B2+1+1:Nat)=Value.map (Y B2):=by rw[aY];exact qk h6 _
   have u2:W2 W=τ (decide (co (prs t) x.i<0)):=GI;have u3:W2 ⟨W,1,Z⟩=ω (mg (co (prs t) x.i)):=oW;have um:Mp Tryz.prog 3 W2 B2 pre.length g2:=by rw[aY];exact eY.out.alloc _
   have UM:=lhd um;have CQ:Below W W W2:=by rw[aY];exact bal W _
   have GJ:=q49 _ x.hg.1 x.hg.2;have qY:(mg x.y.g).size<=8:=by rw[j5];exact GJ
   have WY:nb (co (bdL (co (prs t)) (pre.map Pr.raw)) x.y.c)<=S+t.length+8+pre.length:=by
    have h1:=q0y (S+t.length+8) (bdL (co (prs t)) (pre.map Pr.raw)) (fun p hp=>by obtain⟨q,hq,rfl⟩:=gj.1 hp;obtain⟨y,hy,rfl⟩:=gj.1 hq;have h2:=qc5 (co (prs t) y.i) y.y.g;have h3:=Bt.out y.i;have h4:=q49 _ y.hg.1 y.hg.2;show nb (co (prs t) y.i*y.y.g)<=_;omega) x.y.c
    rw[q5c,gp]at h1;exact h1
   have oy:=qc5 (co (prs t) x.i) x.y.g;have By:=lhd aY;clear aY GI oW um;have mixed:Tryz.prog.follows .mixedOrders=true:=by kernel_rfl
   refine q4y (S:=fun W'=>W' (B2+1+1:Nat)=Value.map (Y B2)/\W' b=x.y.c/\W' ⟨b,1,Z⟩=x.y.g/\W' W=τ (decide (co (prs t) x.i<0))/\W' ⟨W,1,Z⟩=ω (mg (co (prs t) x.i)))
    mixed (q8n (by kernel_rfl)) (fun _ _ h=>h) ?_
   have Bz:W2.drew.cell? (B2+1+1:Nat)=Value.map (Y B2)/\W2.drew.cell? b=x.y.c/\W2.drew.cell? ⟨b,1,Z⟩=x.y.g/\W2.drew.cell? W=τ (decide (co (prs t) x.i<0))/\W2.drew.cell? ⟨W,1,Z⟩=ω (mg (co (prs t) x.i)):=⟨u6,u0,u1,u2,u3⟩
   refine wpAnyH_take (i:=0) (v:=.map (Y B2)) rfl (by kernel_rfl) (by kernel_rfl) (by kernel_rfl) (fun _ _ _ h=>h) (.inl ⟨rfl,fun w hS=>?_⟩) Bz ?_
   ·obtain⟨s6,s0,s1,s2,s3⟩:=hS
    go_simp
   refine wpAnyH_take (i:=1) (v:=σ b) rfl (by kernel_rfl) (by kernel_rfl) (by kernel_rfl) (fun _ _ _ h=>h) (.inl ⟨rfl,fun w hS=>?_⟩) Bz ?_
   ·go_simp
   refine wpAnyH_take (i:=2) (v:=x.y.c) rfl (by kernel_rfl) (by kernel_rfl) (by kernel_rfl) (fun _ _ _ h=>h) (.inl ⟨rfl,fun w hS=>?_⟩) Bz ?_
   ·obtain⟨s6,s0,s1,s2,s3⟩:=hS
    go_simp
   refine wpAnyH_take (i:=3) (v:=I #[τ (decide (co (prs t) x.i<0)),ω (mg (co (prs t) x.i))]) rfl (by kernel_rfl) (by kernel_rfl) (by kernel_rfl) (fun _ _ _ h=>h) (.inl ⟨rfl,fun w hS=>?_⟩) Bz ?_
   ·obtain⟨s6,s0,s1,s2,s3⟩:=hS
    go_simp
   refine wpAnyH_take (i:=4) (v:=σ (Y ⟨b,1,Z⟩)) rfl (by kernel_rfl) (by kernel_rfl) (by kernel_rfl) (fun _ _ _ h=>h) (.inl ⟨rfl,fun w hS=>?_⟩) Bz ?_
   ·go_simp
   refine wpAnyH_take (i:=5) (v:=x.y.g) rfl (by kernel_rfl) (by kernel_rfl) (by kernel_rfl) (fun _ _ _ h=>h) (.inl ⟨rfl,fun w hS=>?_⟩) Bz ?_
   ·obtain⟨s6,s0,s1,s2,s3⟩:=hS
    go_simp
   refine wpAnyH_all (rs:=[6]) (by kernel_rfl) (by simp) (fun i hi=>?_);obtain rfl:i=6:=by simpa using hi
   refine q8m rfl rfl ?_
   go_simp
   refine(qgv x.y.g _ x.hg.1 x.hg.2).mono ?_;rintro e w3 ⟨rfl,aw⟩;have aJ:Below W2 W2 w3:=xt (aw.mono (by simp));refine⟨⟨J aJ u6,J aJ u0,J aJ u1,J aJ u2,J aJ u3⟩,?_⟩;refine wpAnyH_all (rs:=[7]) (by kernel_rfl) (by simp) (fun i hi=>?_);obtain rfl:i=7:=by simpa using hi
   refine q8m rfl rfl ?_
   go_simp
   refine(qmh _ _ _ _ _ (by rw[j5];omega) (by rw[j5];omega)).mono ?_;rintro e w5 ⟨rfl,aC⟩;rw[q0i,q0i];have aS:Below W2 W2 w5:=(btr aJ aC);refine⟨⟨J aS u6,J aS u0,J aS u1,J aS u2,J aS u3⟩,?_⟩;refine wpAnyH_all (rs:=[8]) (by kernel_rfl) (by simp) (fun i hi=>?_);obtain rfl:i=8:=by simpa using hi
   refine q8m rfl rfl ?_
   go_simp
   refine(qmi B2 pre.length g2 x.y.c _ _ _ _ (UM.out.keep aS) (by omega) x.hc.1 x.hc.2 (CM.out x.y.c) (by omega) (by rw[j5];omega)).mono ?_;rintro e w7 ⟨rfl,NC,GM⟩;rw[q0i]at NC;have oX:Below W W w5:=(btr CQ aS);have J5:W.grownBy w7 (Y B2):=(q1y oX (Y B2)).trans GM;have zA:∀p u,w5 p=Y u->w7 p=Y u:=q4l (UM.out.keep aS) GM;refine⟨⟨zA _ _ (J aS u6),zA _ _ (J aS u0),zA _ _ (J aS u1),zA _ _ (J aS u2),zA _ _ (J aS u3)⟩,?_⟩;refine wpAnyH_done (by kernel_rfl) ?_ _;refine⟨KeepsFrom.of_grownBy J5 (fun j e=>by cases e;omega),q4l eY.out J5,(fP.keep oX).kept GM (by simp;omega),⟨_,by rw[CP.out];exact NC,?_⟩,zA _ _ (J oX h5),zA _ _ (J oX h6),((btr aT oX)).grown GM (by have:=oX.size;have:=aT.size;omega) (fun j e=>by cases e;omega),by have:=J5.size;omega⟩
   ·refine(CM.out.put x.y.c (co (prs t) x.i*x.y.g)).congr fun c=>?_
    show _=co (bdL (co (prs t)) ((pre++[x]).map Pr.raw)) c;rw[CO.out,q5x,q5a];rfl
 case done =>
  rintro D ys W hD iT hI hK;obtain⟨fP,⟨g2,dE,fY⟩,h5,h6,aT,hsz⟩:=hI;have GN:ys.length=(q2o l).length:=by rw[<-iT,gp]
  rw[GN]at dE;have ui:q2z g2 (co (bdL (co (prs t)) (q2o l))):=by rw[<-iT];exact fY
  have o4:∀c,nb (co (bdL (co (prs t)) (q2o l)) c)<=1099511627776:=fun c=>by
   have h1:=q0y (S+t.length+8) (bdL (co (prs t)) (q2o l)) (fun p hp=>by rw[<-iT]at hp;obtain⟨q,hq,rfl⟩:=gj.1 hp;obtain⟨y,hy,rfl⟩:=gj.1 hq;have h2:=qc5 (co (prs t) y.i) y.y.g;have h3:=Bt.out y.i;have h4:=q49 _ y.hg.1 y.hg.2;show nb (co (prs t) y.i*y.y.g)<=_;omega) c
   rw[q5c]at h1;omega
  have aq:=q8k B2 (q2o l).length g2 _ W dE ui (by omega) o4;have HC:=lhd aq;clear aq iT dE fY ui o4
  gi_wp2_with fail
  refine⟨trivial,(callsIn_wide.2 HC.out).mono ?_⟩;rintro e w2 ⟨r,rfl,L,z1,z2,z3,z4,aj⟩
  gi_wp2_with fail
  have GO:D<W:=(gh.1 hK).1;have oQ:w2.heap[D]? =Y (.deferred (Y [])):=(aj.block D GO).trans hK;refine⟨by simp,.inl ⟨_,_,rfl,run_takeDeferred oQ,?_⟩⟩;have ND:=grownBy_putObj' w2 D (.deferred Z);have nJ:=(btr aT aj);refine⟨_,results_tmp rfl _ _ _,r,rfl,⟨L,z1,z2,z3,?_⟩,nJ.grown ND nJ.size (fun k e=>by cases e;have:=iD.size;omega)⟩;exact qf (z4.kept ND (.inr (fun e=>by have:=(z4.lt D e).1;omega))) aT.size
 case stop =>rintro D c pre W _ _ h _;exact h.elim
