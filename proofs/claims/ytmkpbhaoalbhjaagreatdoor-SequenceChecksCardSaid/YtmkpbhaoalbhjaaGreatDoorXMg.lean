/- Steps towards SequenceChecks. Conditions: none. -/
import Derived.Deep.AppendLies
import Derived.Test.YtmkpbhaoalbhjaaGreatDoorXMf
import Derived.Test.YtmkpbhaoalbhjaaGreatDoorXShf
set_option maxRecDepth 1000000
set_option maxHeartbeats 0
open Go.Value renaming slice→O,agg→I,pointer→σ,bool→τ,string→ω
open Option renaming none→Z,some→Y
open Go renaming World→δ,Value→ε
namespace Go.Proofs.YtmkpbhaoalbhjaaGreatDoor
open Go.RowKit Go.Cx Go.Shelf
theorem qn9 (m:Nat):AnyZI.SortsIn Tryz.prog Tryz.q4w Fence.wide m :=
 ⟨fun blk off cap ss W hH hblk hsz=>callsIn_wide.2 (AnyM.slices_Sort_int Tryz.qms blk off cap ss W hH hblk hsz),
  fun p cap W=>callsIn_wide.2 (AnyM.slices_Sort_int_none Tryz.qms p cap W)⟩
theorem q8k (b N:Nat)(g:Int->Option ε)(f:Int->Int)(w:δ)(h:Mp Tryz.prog 3 w b N g)(hg:q2z g f)(hN:N<=1099511627776)(hf:∀c,nb (f c)<=1099511627776) :
  Calls Tryz.prog 141 #[.map (Y b)] w fun e w'=>∃r,e=.returned r/\∃L,Cn L/\(∀c,co L c=f c)/\L.length<=N/\w'.ownsRow w 167 3 r L.length (tv (ctm L))/\Below w w w':=by
 have hm:=h;obtain⟨D0,af,h2⟩:=h;have bX:=af.lt;have hsz:=af.size_le;have C8:SeqGives Fence.wide 2 Tryz.prog 175 #[σ w] encZ (fun ss=>ss.Perm (intKeys D0)) (Maps.size D0) (w.alloc (.cells #[.map (Y b)] 199)) :=
  AnyZI.keys_gives (ρ:=Tryz.q8c) { Tryz.qmr with } Fence.wide _ trivial rfl (by omega) w b N D0 _ (by simp) (by simp) (by obtain⟨es,clock,hb,Ft,hs,hD⟩:=af;exact⟨es,clock,(Below.heap_alloc _ _ b bX).trans hb,Ft,hs,hD⟩)
 have cK:∀mb W,CallsIn Fence.wide 5 Tryz.prog 160 #[.map mb] W fun e w'=>e=.returned (.func (.func 175) #[] #[σ W])/\w'=W.alloc (.cells #[.map mb] 199):=fun mb W=>AnyZI.keys_in Tryz.qmr Fence.wide 5 trivial rfl mb W
 have cS:=AnyZI.sorted_in Tryz.qmc Fence.wide 5 trivial trivial trivial trivial rfl (by omega) (qn9 _) (enters_of Tryz.func174 (by kernel_rfl) rfl) 175 #[σ w] trivial (enters_of Tryz.func175 (by kernel_rfl) rfl) _ _ (by unfold maxLen;omega) (by omega) _ C8;change CallsIn _ _ Tryz.prog 159 _ _ _ at cS;have Nt:∀mb W,Calls Tryz.prog 160 #[.map mb] W _:=fun mb W=>(callsIn_wide (n:=5)).1 (cK mb W)
 have Nu:=(callsIn_wide (n:=5)).1 cS;clear cK cS C8;go_enter Tryz.func141,Tryz.ntmps141;go_wp2_with fail;refine(Nt _ _).mono ?_;rintro e w' ⟨rfl,rfl⟩;go_wp2_with fail;refine Nu.mono ?_;rintro e w1 ⟨v,ss,rfl,hS,al,jS,ae⟩;obtain⟨oR,cG,aV,lL⟩:=Mp.keys af Tryz.underlying3 h2 hS;clear Nt Nu hS jS h2 af;obtain⟨ks,Bn⟩:=x4 (ss.mergeSort (fun x y=>decide (x<=y)));have uh:ks.Pairwise (· < ·):=by rw[Bn];exact qf1 ss oR
 have cd:∀x,x∈ks↔(g x).isSome=true:=fun x=>by rw[Bn,List.mem_mergeSort];exact cG x
 have aZ:ks.length=ss.length:=by rw[Bn,List.length_mergeSort]
 rw[<-Bn,<-aZ]at al;rw[<-aZ]at aV;have cO:∀x∈ks,-9223372036854775808<=x/\x<=9223372036854775807:=fun x hx=>lL x (by rw[Bn,List.mem_mergeSort]at hx;exact hx)
 clear Bn cG lL oR aZ;have hv:=Sl.qc al;obtain⟨a,len,cap,rfl,h1,h2,h3,h4,h5⟩:=hv;unfold maxLen at h2;have wJ:ks.length=len:=by simpa using h3
 clear h3;rw[wJ]at aV;have H3:=lhd wJ;clear wJ;have H4:=lhd h4;clear h4;have H5:=lhd h5;clear h5;have Rj:=lhd cd;clear cd;have Rk:=lhd cO;clear cO;have aF:Below w w w1:=(bal w _).trans (ae.mono (by simp));have fP:=hm.below aF hm.lt;clear ae hm al;go_wp2_with fail;go_loopw [3,10] (fun o i wr=>∃k:Nat,i=k/\k<=len/\wr.ownsRow w1 167 3 o (nzp f (ks.take k)).length (tv (ctm (nzp f (ks.take k))))/\Below w1 w1 wr) (fun _ i _=>len-(vI i).toNat)
 case atStart=>exact⟨0,rfl,gm _,World.ownsRow_nil _ _ _ _,q9⟩
 case round =>
  obtain⟨k,rfl,hk,af,hB⟩:=hrel;by_cases ak:k<len
  ·obtain⟨ad,rfl⟩:=sadq H4.out (by omega)
   obtain⟨c,hc⟩:∃c,ks[k]? =Y c:=⟨_,gg (by rw[H3.out];exact ak)⟩
   have c1:wr (ad.add k)=c:=keep hB (H5.out ad rfl k _ (by simp[hc,encZ]));obtain⟨r1,r2⟩:=Rk.out c (gi hc);have av:=q0k (P:=Tryz.prog) (k:=3) Tryz.underlying3 r1 r2;have fi:=fP.keep hB;have qB:nzp f (ks.take (k+1))=nzp f (ks.take k)++(if f c=0 then []else [(c,f c)]):=by rw[gC,hc];exact qgw _ _ _
   have GB:=lhd qB;clear qB;have Hc:=lhd hc;clear hc;go_wp2_with (at_lookup;refine q3q rfl _ _ 199 rfl fi Tryz.underlying3 Tryz.underlying199 (q20 _) c rfl rfl av ?_;rw[hg c]);have GC:=hf c;refine(qn5 _ _ _ (by rw[j5];exact GC)).mono ?_;rintro e w2 ⟨rfl,aj⟩;rw[q0i];have aI:Below w1 w1 w2:=(btr hB aj);have dK:=qa af aj;have c2:w2 (ad.add k)=c:=keep aj c1;have Jl:=fi.keep aj;by_cases h0:f c=0
   ·have ug:ve (f c)=0:=by rw[h0];rfl
    rw[if_pos h0,bl]at GB;have H0:=lhd h0;clear h0;go_wp2_with fail;go_roundw
    case measure=>simp[vI];omega
    case rel=>exact⟨k+1,qh (by omega),by omega,by rw[GB.out];exact dK,aI⟩
   ·have ug:(ve (f c) == 0)=false:=by unfold ve;rw[if_neg h0];split <;> rfl
    rw[if_neg h0]at GB;have H0:=lhd h0;clear h0;have hlen:(nzp f (ks.take k)).length<=1099511627776:=by have:=qda f (ks.take k);rw[gD]at this;omega
    go_wp2_with (first
     |(at_lookup;refine q3q rfl _ _ 199 rfl Jl Tryz.underlying3 Tryz.underlying199 (q20 _) c rfl rfl av ?_;rw[hg c])
     |(at_builtin;refine qo (W:=w1) rfl _ _ 159 rfl w1 167 Tryz.xm Tryz.underlying159 rfl (by decide) (by decide) _ _ _ rfl dK [c,τ (decide (f c<0)),ω (mg (f c))] rfl rfl ?bp1 ?bp2 aI ?bp3 ?_))
    case bp1=>intro u hu;simp at hu;rcases hu with rfl|rfl|rfl <;> rfl
    case bp2=>omega
    case bp3=>exact aI.size
    intro v3 w3 qV ui aJ;go_wp2;go_roundw
    case measure=>simp[vI];omega
    case rel =>refine⟨k+1,qh (by omega),by omega,?_,aJ⟩;rw[GB.out,xj,xp,gw];exact qV
  ·have aM:k=len:=by omega
   have qW:=lhd aM;clear aM;go_wp2;go_ret;have Rm:ks.take k=ks:=gr (by rw[H3.out];exact Nat.le_of_eq qW.out.symm);rw[Rm]at af;refine⟨_,rfl,_,qgx f uh,qn6 f uh (fun c h0=>?_),gd (qda f ks) (by rw[H3.out];exact aV),qf af aF.size,(btr aF hB)⟩;have:=hg c;rw[Rj.out];cases hgc:g c with
   |some v=>rfl
   |none =>
    exfalso
    rw[hgc]at this;have e:wv 0=wv (f c):=this;refine h0 ?_;have e1:decide ((0:Int)<0)=decide (f c<0)/\mg 0=mg (f c):=by simpa using e
    exact(qgf e1.1 e1.2).symm
end Go.Proofs.YtmkpbhaoalbhjaaGreatDoor
namespace Go.Proofs.YtmkpbhaoalbhjaaGreatDoor
open Go.RowKit Go.Cx
theorem SlL.one {w:δ}{v:ε}{l:List Tm}(h:Sl w 3 v (tv l))(t:TypeId):SlL (w.alloc (.cells #[v] t)) (O w 1 1) [l]:=by
 refine⟨[v],Sl.lit w t [v] (by simp),rfl,?_⟩;intro i u l' hu hl;cases i with
 |zero=>simp at hu hl;subst hu hl;exact h.alloc _
 |succ i=>simp at hu
theorem qg {w:δ}{st:Nat}{v:ε}{xs:List ε}(h:Sl w st v xs):∃a n cap,v=O a n cap:=by obtain⟨a,n,cap,he,_⟩:=h;exact⟨a,n,cap,he⟩
structure qbv (w w':δ)(r:ε)(f:Int->Int)(N:Nat):Prop where
 ex:∃L,Cn L/\(∀c,co L c=f c)/\L.length<=N/\w'.ownsRow w 167 3 r L.length (tv (ctm L))
 below:Below w w w'
theorem qdd (v:ε)(l:List Tm)(S:Nat)(w:δ)(h:Sl w 3 v (tv l))(hS:TOk S l)(hb:S+l.length<=1099511627775) :
  Calls Tryz.prog 114 #[v] w fun e w'=>∃r,e=.returned r/\qbv w w' r (co (prs l)) l.length:=by
 obtain⟨a,n,cap,rfl⟩:=qg h;go_enter Tryz.func114,Tryz.ntmps114;go_wp2_with fail;have hc:=qn8 (O w 1 1) [l] S (w.alloc (.cells #[O a n cap] 159)) (SlL.one h _) (by simpa using hS) (by simpa using hb);refine hc.mono ?_;rintro e w1 ⟨rfl,⟨g,hm,hg⟩,ae⟩;simp only [List.flatten_cons,List.flatten_nil,List.append_nil,World.size_alloc]at hm hg ae;simp only [World.size_alloc];go_wp2_with fail;refine(q8k _ _ g _ w1 hm hg (by omega) (fun c=>gd (q0y S _ (q19 hS) c) (by rw[kq];omega))).mono ?_;rintro e w2 ⟨r,rfl,L,h1,h2,h3,h4,aj⟩;go_wp2_with fail;go_ret;have aF:Below w w w1:=(bal w _).trans (ae.mono (by simp));exact⟨_,rfl,⟨L,h1,h2,h3,qf h4 aF.size⟩,(btr aF aj)⟩
def neT (t u:Tm):Bool:=!(t.c == u.c && (t.n == u.n && t.m.toList == u.m.toList))
theorem q5b (t u:Tm):neT t u=false↔t=u:=by
 cases t;cases u
 simp only [neT,Bool.not_eq_false',Bool.and_eq_true,beq_iff_eq,Tm.mk.injEq,Lib.toList_data];constructor
 ·rintro ⟨h1,h2,h3⟩;exact⟨h1,h2,q5t h3⟩
 ·rintro ⟨h1,h2,rfl⟩;exact⟨h1,h2,rfl⟩
theorem qde (w:δ)(tc uc:Int)(tn un:Bool)(tm um:ByteArray) :
  (Go.binOp .neq 167 (I #[tc,τ tn,ω tm]) (I #[uc,τ un,ω um])).run Tryz.prog w=.ok (τ (neT ⟨tc,tn,tm⟩ ⟨uc,un,um⟩)) w:=by
 have hp:Tryz.prog.stoodInHeld 167=false:=by kernel_rfl
 have qA:Tryz.prog.stoodInHeld 110=false:=by kernel_rfl
 by_cases h1:(tc == uc)=true <;> by_cases h2:(tn == un)=true <;> by_cases h3:(tm.toList == um.toList)=true <;> (try simp only [Bool.not_eq_true]at h1) <;> (try simp only [Bool.not_eq_true]at h2) <;> (try simp only [Bool.not_eq_true]at h3) <;>
  simp[neT,go_sem,h1,h2,h3,hp,qA]
theorem qdf:Tryz.prog.eqGuardType Tryz.prog.depth 167=false:=by kernel_rfl
theorem qpv (v u:ε)(l m:List Tm)(w:δ)(h:Sl w 3 v (tv l))(k:Sl w 3 u (tv m)) :
  Calls Tryz.prog 113 #[v,u] w fun e w'=>∃q:Bool,e=.returned (τ q)/\(q=true↔l=m)/\Below w w w':=by
 obtain⟨a,len,cap,rfl,h1,h2,h3,h4,h5⟩:=h;obtain⟨b,ay,dQ,rfl,k1,k2,k3,k4,k5⟩:=k;unfold maxLen at h2 k2;rw[q8u]at h3 k3;have hl:l.length=len:=by omega
 have kl:m.length=ay:=by omega
 clear h3 k3;have Hl:=lhd hl;clear hl;have Kl:=lhd kl;clear kl;have H4:=lhd h4;clear h4;have H5:=lhd h5;clear h5;have K4:=lhd k4;clear k4;have K5:=lhd k5;clear k5;by_cases aW:len=ay
 ·subst aW;go_enter Tryz.func113,Tryz.ntmps113;go_wp2;go_loopw [13] (fun i wr=>∃k:Nat,i=k/\k<=len/\l.take k=m.take k/\Below w w wr) (fun i _=>len-(vI i).toNat)
  case atStart=>exact⟨0,rfl,gm _,rfl,q9⟩
  case round =>
   obtain⟨k,rfl,hk,he,hB⟩:=hrel;have He:=lhd he;clear he;by_cases ak:k<len
   ·obtain⟨ad,rfl⟩:=sadq H4.out (by omega)
    obtain⟨bd,rfl⟩:=sadq K4.out (by omega)
    obtain⟨⟨tc,tn,tm⟩,ht⟩:∃t,l[k]? =Y t:=⟨_,gg (by rw[Hl.out];exact ak)⟩
    obtain⟨⟨uc,un,um⟩,hu⟩:∃t,m[k]? =Y t:=⟨_,gg (by rw[Kl.out];exact ak)⟩
    obtain⟨e0,e1,e2⟩:=jd l k _ ht;obtain⟨e3,e4,e5⟩:=jd m k _ hu;have d0:wr (ad.add (k*3))=tc:=keep hB (H5.out ad rfl _ _ e0);have d1:wr ⟨(ad.add (k*3)).block,(ad.add (k*3)).off+1,Z⟩=τ tn:=by rw[qi _ _ _ (by omega)];exact keep hB (H5.out ad rfl _ _ e1)
    have d2:wr ⟨(ad.add (k*3)).block,(ad.add (k*3)).off+2,Z⟩=ω tm:=by rw[qi _ _ _ (by omega)];exact keep hB (H5.out ad rfl _ _ e2)
    have d3:wr (bd.add (k*3))=uc:=keep hB (K5.out bd rfl _ _ e3);have d4:wr ⟨(bd.add (k*3)).block,(bd.add (k*3)).off+1,Z⟩=τ un:=by rw[qi _ _ _ (by omega)];exact keep hB (K5.out bd rfl _ _ e4)
    have d5:wr ⟨(bd.add (k*3)).block,(bd.add (k*3)).off+2,Z⟩=ω um:=by rw[qi _ _ _ (by omega)];exact keep hB (K5.out bd rfl _ _ e5)
    clear e0 e1 e2 e3 e4 e5;have Ht:=lhd ht;clear ht;have Hu:=lhd hu;clear hu;obtain⟨q,hq⟩:∃q,neT ⟨tc,tn,tm⟩ ⟨uc,un,um⟩=q:=⟨_,rfl⟩
    have ah:∀W:δ,(Go.binOp .neq 167 (I #[tc,τ tn,ω tm]) (I #[uc,τ un,ω um])).run Tryz.prog W=.ok (τ q) W:=fun W=>by rw[<-hq];exact qde W tc uc tn un tm um
    have Hq:=lhd hq;clear hq;have wj:=qdf;go_wp2
    go_quiet (fail)
    by_cases yL:q=true
    ·subst yL;go_wp2;go_ret;refine⟨false,rfl,⟨fun h=>(by cases h),fun h=>?_⟩,qb hB nq⟩;exfalso
     have e1:(⟨tc,tn,tm⟩ : Tm)=⟨uc,un,um⟩:=by have:=Ht.out;rw[h,Hu.out]at this;exact(osi this).symm
     have e2:=(q5b _ _).2 e1;rw[Hq.out]at e2;cases e2
    ·have yM:q=false:=by simpa using yL
     subst yM;clear yL;go_wp2;go_roundw
     case measure=>simp[vI];omega
     case rel =>refine⟨k+1,qh (by omega),by omega,?_,qb hB nq⟩;rw[gC,gC,Ht.out,Hu.out,He.out,(q5b _ _).1 Hq.out]
   ·have aM:k=len:=by omega
    have qW:=lhd aM;clear aM;go_wp2;go_ret;refine⟨true,rfl,⟨fun _=>?_,fun _=>rfl⟩,hB⟩;have:=He.out
    rwa [qW.out,gr (Nat.le_of_eq Hl.out),gr (Nat.le_of_eq Kl.out)]at this
 ·have Jm:((len:Int) == ay)=false:=by simp;omega
  have dD:=lhd aW;clear aW;go_enter Tryz.func113,Tryz.ntmps113;go_wp2;go_ret;refine⟨false,rfl,⟨fun h=>(by cases h),fun h=>?_⟩,q9⟩;exact absurd (by rw[<-Hl.out,<-Kl.out,h]) dD.out
theorem qqz {L M:List (Int×Int)}(h:ctm L=ctm M):L=M:=by rw[<-zv L,h,zv]
theorem qr0 (v u:ε)(l m:List Tm)(S:Nat)(w:δ)(h:Sl w 3 v (tv l))(k:Sl w 3 u (tv m))(hS:TOk S l)(kS:TOk S m)(hb:S+l.length<=1099511627775)(kb:S+m.length<=1099511627775) :
  Calls Tryz.prog 116 #[v,u] w fun e w'=>∃q:Bool,e=.returned (τ q)/\(q=true↔∀c,co (prs l) c=co (prs m) c)/\Below w w w':=by
 go_enter Tryz.func116,Tryz.ntmps116;go_wp2_with fail;refine(qdd _ l S _ h hS hb).mono ?_;rintro e w1 ⟨r1,rfl,⟨⟨L,hL,yN,-,ir⟩,ae⟩⟩;go_wp2_with fail;refine(qdd _ m S _ (k.keep ae) kS kb).mono ?_;rintro e w2 ⟨r2,rfl,⟨⟨M,hM,Nv,-,cE⟩,aj⟩⟩;go_wp2_with fail;refine(qpv _ _ (ctm L) (ctm M) _ (Sl.qc (qa ir aj)) (Sl.qc cE)).mono ?_;rintro e w3 ⟨q,rfl,hq,aw⟩;go_wp2_with fail;go_ret;refine⟨q,rfl,hq.trans ⟨fun e c=>?_,fun e=>?_⟩,((btr ae aj)).trans (aw.mono (gd ae.size aj.size))⟩
 ·rw[<-yN,<-Nv,qqz e]
 ·rw[Cn.uniq hL hM (fun c=>by rw[yN,Nv];exact e c)]
theorem zj (w:δ)(t:TypeId)(st:Nat):(w.alloc (.cells #[] t)).ownsRow w t st (O w 0 0) 0 [] :=
 ⟨by simp,.inr ⟨w,0,#[],rfl,nlr _,heap_alloc_new w _,nlr _,by simp[maxLen],by simp,by simp⟩⟩
attribute [local go_sem ↓] Go.wp_at_zero Go.wp_at_succ
def pv (l:List (Int×Int)):List Value:=l.flatMap fun p=>[p.1,p.2]
theorem qk {w:δ}{p:Addr}{u:ε}(h:w p=Y u)(o:Obj):(w.alloc o) p=Y u:=keep (bal w o) h
theorem q7l (w:δ)(t:TypeId)(xs:List ε):∀j u,xs[j]? =Y u->(w.alloc (.cells xs.toArray t)) ((w:Addr).add j)=Y u:=fun j u hj=>by rw[Addr.add_lit,Nat.zero_add,qd];simpa using hj
def I64 (x:Int):Prop:=-9223372036854775808<=x/\x<=9223372036854775807
