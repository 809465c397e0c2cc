/- Steps towards MorseMaps. Conditions: none. -/
import Derived.Deep.AppendLies
import Derived.Test.YtlhicnfeajejhaaGreatDoorHMf
import Derived.Test.YtlhicnfeajejhaaGreatDoorHShf
set_option maxRecDepth 1000000
set_option maxHeartbeats 16000000
namespace Go.Proofs.YtlhicnfeajejhaaGreatDoor
open Go.RowKit Go.Cx Go.Shelf
theorem qn9 (m:Nat):AnyZI.SortsIn Tryz.prog Tryz.q4w Fence.wide m :=
 ⟨fun blk off cap ss W hH hblk az=>callsIn_wide.2 (AnyM.slices_Sort_int Tryz.qms blk off cap ss W hH hblk az),
  fun p cap W=>callsIn_wide.2 (AnyM.slices_Sort_int_none Tryz.qms p cap W)⟩
theorem q8k (b N:Nat) (g:Int->Option Value) (f:Int->Int) (w:World) (h:Mp Tryz.prog 3 w b N g) (hg:q2z g f) (hN:N<=1099511627776) (hf:∀ c,nb (f c)<=1099511627776) :
  Calls Tryz.prog 79 #[.map (some b)] w fun e w'=>∃ r,e = .returned r/\∃ L,Cn L/\(∀ c,co L c=f c)/\L.length<=N/\w'.ownsRow w.heap.size 71 3 r L.length (tv (ctm L))/\Below w.heap.size w w':=by
 have hm:=h;obtain⟨D0,ag,h2⟩:=h;have mO:=ag.lt;have az:=ag.size_le;have CB:SeqGives Fence.wide 2 Tryz.prog 173 #[.pointer (some ⟨w.heap.size,0,none⟩)] encZ (fun ss=>ss.Perm (intKeys D0)) (Maps.size D0) (w.alloc (.cells #[.map (some b)] 99)) :=
  AnyZI.keys_gives (ρ:=Tryz.q8c) { Tryz.qmr with } Fence.wide _ trivial rfl (by omega) w.heap.size b N D0 _ (by simp) (by simp) (by
   obtain⟨es,clock,hb,Ft,hs,hD⟩:=ag;exact⟨es,clock,(Below.heap_alloc _ _ b mO).trans hb,Ft,hs,hD⟩)
 have cK:∀ mb W,CallsIn Fence.wide 5 Tryz.prog 136 #[.map mb] W fun e w'=>e = .returned (.func (.func 173) #[] #[.pointer (some ⟨W.heap.size,0,none⟩)])/\w'=W.alloc (.cells #[.map mb] 99):=fun mb W=>AnyZI.keys_in Tryz.qmr Fence.wide 5 trivial rfl mb W
 have cS:=AnyZI.sorted_in Tryz.qmc Fence.wide 5 trivial trivial trivial trivial rfl (by omega) (qn9 _) (enters_of Tryz.func172 (by kernel_rfl) rfl) 173 #[.pointer (some ⟨w.heap.size,0,none⟩)] trivial (enters_of Tryz.func173 (by kernel_rfl) rfl) _ _ (by unfold maxLen;omega) (by omega) _ CB;change CallsIn _ _ Tryz.prog 135 _ _ _ at cS;have NS:∀ mb W,Calls Tryz.prog 136 #[.map mb] W _:=fun mb W=>(callsIn_wide (n:=5)).1 (cK mb W)
 have NT:=(callsIn_wide (n:=5)).1 cS;clear cK cS CB;go_enter Tryz.func79,Tryz.ntmps79;go_wp2_with fail;refine(NS _ _).mono ?_;rintro e w' ⟨rfl,rfl⟩;go_wp2_with fail;refine NT.mono ?_;rintro e w1 ⟨v,ss,rfl,hS,aC,fH,aj⟩;obtain⟨l5,cD,aW,iR⟩:=Mp.keys ag Tryz.underlying3 h2 hS;clear NS NT hS fH h2 ag;obtain⟨ks,qV⟩ : ∃ ks,ks=ss.mergeSort (fun x y=>decide (x<=y)):=⟨_,rfl⟩
 have tP:ks.Pairwise (· < ·):=by rw[qV];exact qf1 ss l5
 have pS:∀ x,x∈ks↔(g x).isSome=true:=fun x=>by rw[qV,List.mem_mergeSort];exact cD x
 have aZ:ks.length=ss.length:=by rw[qV,List.length_mergeSort]
 rw[<-qV,<-aZ] at aC;rw[<-aZ] at aW;have Bk:∀ x∈ks,-9223372036854775808<=x/\x<=9223372036854775807:=fun x hx=>iR x (by rw[qV,List.mem_mergeSort] at hx;exact hx)
 clear qV cD iR l5 aZ;have hv:=Sl.qc aC;obtain⟨a,len,cap,rfl,h1,h2,h3,h4,h5⟩:=hv;unfold maxLen at h2;have nY:ks.length=len:=by simpa using h3
 clear h3;rw[nY] at aW;have H3:=lhd nY;clear nY;have H4:=lhd h4;clear h4;have H5:=lhd h5;clear h5;have SW:=lhd pS;clear pS;have SX:=lhd Bk;clear Bk;have ak:Below w.heap.size w w1:=((Below.refl _ w).alloc (nlr _) _).trans (aj.mono (by simp));have eB:=hm.below ak hm.lt;clear aj hm aC;go_wp2_with fail;go_loopw [3,10] (fun o i wr=>∃ k:Nat,i = .int .i64 k/\k<=len/\wr.ownsRow w1.heap.size 71 3 o (nzp f (ks.take k)).length (tv (ctm (nzp f (ks.take k))))/\Below w1.heap.size w1 wr) (fun _ i _=>len - (vI i).toNat)
 case atStart=>exact⟨0,rfl,gp _,World.ownsRow_nil _ _ _ _,Below.refl _ _⟩
 case round =>
  obtain⟨k,rfl,hk,ag,hB⟩:=hrel;by_cases hlt:k < len
  ·obtain⟨ad,rfl⟩ : ∃ ad,a=some ad:=by
    cases a with
    | none=>have:=H4.out rfl;omega
    | some ad=>exact⟨ad,rfl⟩
   obtain⟨c,hc⟩ : ∃ c,ks[k]? = some c:=⟨_,g8 (by rw[H3.out];exact hlt)⟩
   have c1:wr.cell? (ad.add k)=some (.int .i64 c):=q8 hB (H5.out ad rfl k _ (by simp[hc,encZ]));obtain⟨r1,r2⟩:=SX.out c (gh hc);have au:=q0k (P:=Tryz.prog) (k:=3) Tryz.underlying3 r1 r2;have fb:=eB.q8 hB;have mX:nzp f (ks.take (k+1))=nzp f (ks.take k)++(if f c=0 then [] else [(c,f c)]):=by
    rw[gq,hc];exact qgw _ _ _
   have vH:=lhd mX;clear mX;have Hc:=lhd hc;clear hc;go_wp2_with (at_lookup;refine q3q rfl _ _ 99 rfl fb Tryz.underlying3 Tryz.underlying99 (q20 _) c rfl rfl au ?_;rw[hg c]);have na:=hf c;refine(qn5 _ _ _ (by rw[j5];exact na)).mono ?_;rintro e w2 ⟨rfl,ao⟩;rw[q0i];have ar:Below w1.heap.size w1 w2:=hB.trans (ao.mono hB.size);have aN:=qa ag ao;have c2:w2.cell? (ad.add k)=some (.int .i64 c):=q8 ao c1;have Jr:=fb.q8 ao;by_cases h0:f c=0
   ·have cr:ve (f c)=0:=by rw[h0];rfl
    rw[if_pos h0,gN] at vH;have H0:=lhd h0;clear h0;go_wp2_with fail;go_roundw
    case measure=>simp[vI];omega
    case rel=>exact⟨k+1,qh (by omega),by omega,by rw[vH.out];exact aN,ar⟩
   ·have cr:(ve (f c) == 0)=false:=by
     unfold ve;rw[if_neg h0];split <;> rfl
    rw[if_neg h0] at vH;have H0:=lhd h0;clear h0;have hlen:(nzp f (ks.take k)).length<=1099511627776:=by
     have:=qda f (ks.take k);rw[gd] at this;omega
    go_wp2_with (first
     |(at_lookup;refine q3q rfl _ _ 99 rfl Jr Tryz.underlying3 Tryz.underlying99 (q20 _) c rfl rfl au ?_;rw[hg c])
     |(at_builtin;refine qo (W:=w1) rfl _ _ 32 rfl w1.heap.size 71 Tryz.xm Tryz.underlying32 rfl (by decide) (by decide) _ _ _ rfl aN [.int .i64 c,.bool (decide (f c < 0)),.string (mg (f c))] rfl rfl ?bp1 ?bp2 ar ?bp3 ?_))
    case bp1=>intro u hu;simp at hu;rcases hu with rfl | rfl | rfl <;> rfl
    case bp2=>omega
    case bp3=>exact ar.size
    intro v3 w3 da fQ aA;go_wp2;go_roundw
    case measure=>simp[vI];omega
    case rel =>
     refine⟨k+1,qh (by omega),by omega,?_,aA⟩;rw[vH.out,xj,xp,gc];exact da
  ·have bG:k=len:=by omega
   have eG:=lhd bG;clear bG;go_wp2;go_ret;have SY:ks.take k=ks:=gm (by rw[H3.out];exact Nat.le_of_eq eG.out.symm);rw[SY] at ag;refine⟨_,rfl,_,qgx f tP,qn6 f tP (fun c h0=>?_),gl (qda f ks) (by rw[H3.out];exact aW),qf ag ak.size,ak.trans (hB.mono ak.size)⟩;have:=hg c;rw[SW.out];cases hgc:g c with
   | some v=>rfl
   | none =>
    exfalso
    rw[hgc] at this;have e:wv 0=wv (f c):=this;refine h0 ?_;have e1:decide ((0:Int) < 0)=decide (f c < 0)/\mg 0=mg (f c):=by simpa using e
    exact(qgf e1.1 e1.2).symm
end Go.Proofs.YtlhicnfeajejhaaGreatDoor
namespace Go.Proofs.YtlhicnfeajejhaaGreatDoor
open Go.RowKit Go.Cx
theorem SlL.one {w:World} {v:Value} {l:List Tm} (h:Sl w 3 v (tv l)) (t:TypeId):SlL (w.alloc (.cells #[v] t)) (.slice (some ⟨w.heap.size,0,none⟩) 1 1) [l]:=by
 refine⟨[v],Sl.lit w t [v] (by simp),rfl,?_⟩;intro i u l' hu hl;cases i with
 | zero=>simp at hu hl;subst hu hl;exact h.alloc _
 | succ i=>simp at hu
theorem SlL.two {w:World} {v u:Value} {l m:List Tm} (h:Sl w 3 v (tv l)) (k:Sl w 3 u (tv m)) (t:TypeId):SlL (w.alloc (.cells #[v,u] t)) (.slice (some ⟨w.heap.size,0,none⟩) 2 2) [l,m]:=by
 refine⟨[v,u],Sl.lit w t [v,u] (by simp),rfl,?_⟩;intro i u' l' hu hl
 match i with
 | 0=>simp at hu hl;subst hu hl;exact h.alloc _
 | 1=>simp at hu hl;subst hu hl;exact k.alloc _
 | i+2=>simp at hu
theorem qg {w:World} {st:Nat} {v:Value} {xs:List Value} (h:Sl w st v xs):∃ a n cap,v = .slice a n cap:=by
 obtain⟨a,n,cap,he,_⟩:=h;exact⟨a,n,cap,he⟩
structure qbv (w w':World) (r:Value) (f:Int->Int) (N:Nat):Prop where
 ex:∃ L,Cn L/\(∀ c,co L c=f c)/\L.length<=N/\w'.ownsRow w.heap.size 71 3 r L.length (tv (ctm L))
 below:Below w.heap.size w w'
theorem qdd (v:Value) (l:List Tm) (S:Nat) (w:World) (h:Sl w 3 v (tv l)) (hS:TOk S l) (hb:S+l.length<=1099511627775) :
  Calls Tryz.prog 24 #[v] w fun e w'=>∃ r,e = .returned r/\qbv w w' r (co (prs l)) l.length:=by
 obtain⟨a,n,cap,rfl⟩:=qg h;go_enter Tryz.func24,Tryz.ntmps24;go_wp2_with fail;have hc:=qn8 (.slice (some ⟨w.heap.size,0,none⟩) 1 1) [l] S (w.alloc (.cells #[.slice a n cap] 32)) (SlL.one h _) (by simpa using hS) (by simpa using hb);refine hc.mono ?_;rintro e w1 ⟨rfl,⟨g,hm,hg⟩,aj⟩;simp only [List.flatten_cons,List.flatten_nil,gN,World.size_alloc] at hm hg aj;simp only [World.size_alloc];go_wp2_with fail;refine(q8k _ _ g _ w1 hm hg (by omega) (fun c=>gl (q0y S _ (q19 hS) c) (by rw[kq];omega))).mono ?_;rintro e w2 ⟨r,rfl,L,h1,h2,h3,h4,ao⟩;go_wp2_with fail;go_ret;have ak:Below w.heap.size w w1:=((Below.refl _ w).alloc (nlr _) _).trans (aj.mono (by simp));exact⟨_,rfl,⟨L,h1,h2,h3,qf h4 ak.size⟩,ak.trans (ao.mono ak.size)⟩
theorem qbw (v u:Value) (l m:List Tm) (S:Nat) (w:World) (h:Sl w 3 v (tv l)) (k:Sl w 3 u (tv m)) (hS:TOk S l) (kS:TOk S m) (hb:S+l.length+m.length<=1099511627775) :
  Calls Tryz.prog 31 #[v,u] w fun e w'=>∃ r,e = .returned r/\qbv w w' r (fun c=>co (prs l) c+co (prs m) c) (l.length+m.length):=by
 obtain⟨a,n,cap,rfl⟩:=qg h;obtain⟨a',n',cm,rfl⟩:=qg k;go_enter Tryz.func31,Tryz.ntmps31;go_wp2_with fail;have hc:=qn8 (.slice (some ⟨w.heap.size,0,none⟩) 2 2) [l,m] S (w.alloc (.cells #[.slice a n cap,.slice a' n' cm] 32)) (SlL.two h k _) (by intro x hx;simp at hx;rcases hx with rfl | rfl <;> assumption) (by simp;omega);refine hc.mono ?_;rintro e w1 ⟨rfl,⟨g,hm,hg⟩,aj⟩;simp only [List.flatten_cons,List.flatten_nil,gN,gc,World.size_alloc] at hm hg aj;simp only [World.size_alloc];go_wp2_with fail;refine(q8k _ _ g _ w1 hm hg (by omega) (fun c=>gl (q0y S _ (q19 (hS.app kS)) c) (by rw[kq,gc];omega))).mono ?_;rintro e w2 ⟨r,rfl,L,h1,h2,h3,h4,ao⟩;go_wp2_with fail;go_ret;have ak:Below w.heap.size w w1:=((Below.refl _ w).alloc (nlr _) _).trans (aj.mono (by simp));exact⟨_,rfl,⟨L,h1,fun c=>by rw[h2,q5u,ji],h3,qf h4 ak.size⟩,ak.trans (ao.mono ak.size)⟩
def neT (t u:Tm):Bool:=!(t.c == u.c && (t.n == u.n && t.m.toList == u.m.toList))
theorem q5b (t u:Tm):neT t u=false↔t=u:=by
 cases t;cases u
 simp only [neT,Bool.not_eq_false',be,beq_iff_eq,Tm.mk.injEq,Lib.toList_data];constructor
 ·rintro ⟨h1,h2,h3⟩;exact⟨h1,h2,q5t h3⟩
 ·rintro ⟨h1,h2,rfl⟩;exact⟨h1,h2,rfl⟩
theorem qde (w:World) (tc uc:Int) (tn un:Bool) (tm um:ByteArray) :
  (Go.binOp .neq 71 (.agg #[.int .i64 tc,.bool tn,.string tm]) (.agg #[.int .i64 uc,.bool un,.string um])).run Tryz.prog w = .ok (.bool (neT ⟨tc,tn,tm⟩ ⟨uc,un,um⟩)) w:=by
 have hp:Tryz.prog.stoodInHeld 71=false:=by kernel_rfl
 have kZ:Tryz.prog.stoodInHeld 38=false:=by kernel_rfl
 by_cases h1:(tc == uc)=true <;> by_cases h2:(tn == un)=true <;> by_cases h3:(tm.toList == um.toList)=true <;> (try simp only [Bool.not_eq_true] at h1) <;> (try simp only [Bool.not_eq_true] at h2) <;> (try simp only [Bool.not_eq_true] at h3) <;>
  simp[neT,go_sem,h1,h2,h3,hp,kZ]
theorem qdf:Tryz.prog.eqGuardType Tryz.prog.depth 71=false:=by kernel_rfl
theorem qpv (v u:Value) (l m:List Tm) (w:World) (h:Sl w 3 v (tv l)) (k:Sl w 3 u (tv m)) :
  Calls Tryz.prog 97 #[v,u] w fun e w'=>∃ q:Bool,e = .returned (.bool q)/\(q=true↔l=m)/\Below w.heap.size w w':=by
 obtain⟨a,len,cap,rfl,h1,h2,h3,h4,h5⟩:=h;obtain⟨b,ai,cm,rfl,k1,k2,k3,k4,k5⟩:=k;unfold maxLen at h2 k2;rw[z6] at h3 k3;have hl:l.length=len:=by omega
 have kl:m.length=ai:=by omega
 clear h3 k3;have Hl:=lhd hl;clear hl;have Kl:=lhd kl;clear kl;have H4:=lhd h4;clear h4;have H5:=lhd h5;clear h5;have K4:=lhd k4;clear k4;have K5:=lhd k5;clear k5;by_cases bH:len=ai
 ·subst bH;go_enter Tryz.func97,Tryz.ntmps97;go_wp2;go_loopw [13] (fun i wr=>∃ k:Nat,i = .int .i64 k/\k<=len/\l.take k=m.take k/\Below w.heap.size w wr) (fun i _=>len - (vI i).toNat)
  case atStart=>exact⟨0,rfl,gp _,rfl,Below.refl _ _⟩
  case round =>
   obtain⟨k,rfl,hk,he,hB⟩:=hrel;have He:=lhd he;clear he;by_cases hlt:k < len
   ·obtain⟨ad,rfl⟩ : ∃ ad,a=some ad:=by
     cases a with
     | none=>have:=H4.out rfl;omega
     | some ad=>exact⟨ad,rfl⟩
    obtain⟨bd,rfl⟩ : ∃ ad,b=some ad:=by
     cases b with
     | none=>have:=K4.out rfl;omega
     | some ad=>exact⟨ad,rfl⟩
    obtain⟨⟨tc,tn,tm⟩,ht⟩ : ∃ t,l[k]? = some t:=⟨_,g8 (by rw[Hl.out];exact hlt)⟩
    obtain⟨⟨uc,un,um⟩,hu⟩ : ∃ t,m[k]? = some t:=⟨_,g8 (by rw[Kl.out];exact hlt)⟩
    obtain⟨e0,e1,e2⟩:=jd l k _ ht;obtain⟨e3,e4,e5⟩:=jd m k _ hu;have d0:wr.cell? (ad.add (k*3))=some (.int .i64 tc):=q8 hB (H5.out ad rfl _ _ e0);have d1:wr.cell? ⟨(ad.add (k*3)).block,(ad.add (k*3)).off+1,none⟩=some (.bool tn):=by rw[qi _ _ _ (by omega)];exact q8 hB (H5.out ad rfl _ _ e1)
    have d2:wr.cell? ⟨(ad.add (k*3)).block,(ad.add (k*3)).off+2,none⟩=some (.string tm):=by rw[qi _ _ _ (by omega)];exact q8 hB (H5.out ad rfl _ _ e2)
    have d3:wr.cell? (bd.add (k*3))=some (.int .i64 uc):=q8 hB (K5.out bd rfl _ _ e3);have d4:wr.cell? ⟨(bd.add (k*3)).block,(bd.add (k*3)).off+1,none⟩=some (.bool un):=by rw[qi _ _ _ (by omega)];exact q8 hB (K5.out bd rfl _ _ e4)
    have d5:wr.cell? ⟨(bd.add (k*3)).block,(bd.add (k*3)).off+2,none⟩=some (.string um):=by rw[qi _ _ _ (by omega)];exact q8 hB (K5.out bd rfl _ _ e5)
    clear e0 e1 e2 e3 e4 e5;have Ht:=lhd ht;clear ht;have Hu:=lhd hu;clear hu;obtain⟨q,hq⟩ : ∃ q,neT ⟨tc,tn,tm⟩ ⟨uc,un,um⟩=q:=⟨_,rfl⟩
    have aq:∀ W:World,(Go.binOp .neq 71 (.agg #[.int .i64 tc,.bool tn,.string tm]) (.agg #[.int .i64 uc,.bool un,.string um])).run Tryz.prog W = .ok (.bool q) W:=fun W=>by rw[<-hq];exact qde W tc uc tn un tm um
    have Hq:=lhd hq;clear hq;have jL:=qdf;go_wp2
    go_quiet (fail)
    by_cases pT:q=true
    ·subst pT;go_wp2;go_ret;refine⟨false,rfl,⟨fun h=>(by cases h),fun h=>?_⟩,qb hB nq⟩;exfalso
     have e1:(⟨tc,tn,tm⟩ : Tm)=⟨uc,un,um⟩:=by
      have:=Ht.out;rw[h,Hu.out] at this;exact(osi this).symm
     have e2:=(q5b _ _).2 e1;rw[Hq.out] at e2;cases e2
    ·have CC:q=false:=by simpa using pT
     subst CC;clear pT;go_wp2;go_roundw
     case measure=>simp[vI];omega
     case rel =>
      refine⟨k+1,qh (by omega),by omega,?_,qb hB nq⟩;rw[gq,gq,Ht.out,Hu.out,He.out,(q5b _ _).1 Hq.out]
   ·have bG:k=len:=by omega
    have eG:=lhd bG;clear bG;go_wp2;go_ret;refine⟨true,rfl,⟨fun _=>?_,fun _=>rfl⟩,hB⟩;have:=He.out
    rwa [eG.out,gm (Nat.le_of_eq Hl.out),gm (Nat.le_of_eq Kl.out)] at this
 ·have CD:((len:Int) == ai)=false:=by simp;omega
  have cC:=lhd bH;clear bH;go_enter Tryz.func97,Tryz.ntmps97;go_wp2;go_ret;refine⟨false,rfl,⟨fun h=>(by cases h),fun h=>?_⟩,Below.refl _ _⟩;exact absurd (by rw[<-Hl.out,<-Kl.out,h]) cC.out
theorem qna (v u:Value) (l m:List Tm) (w:World) (h:Sl w 3 v (tv l)) (k:Sl w 3 u (tv m)) :
  Calls Tryz.prog 23 #[v,u] w fun e w'=>∃ q:Bool,e = .returned (.bool q)/\(q=true↔l=m)/\Below w.heap.size w w':=by
 obtain⟨a,len,cap,rfl,h1,h2,h3,h4,h5⟩:=h;obtain⟨b,ai,cm,rfl,k1,k2,k3,k4,k5⟩:=k;unfold maxLen at h2 k2;rw[z6] at h3 k3;have hl:l.length=len:=by omega
 have kl:m.length=ai:=by omega
 clear h3 k3;have Hl:=lhd hl;clear hl;have Kl:=lhd kl;clear kl;have H4:=lhd h4;clear h4;have H5:=lhd h5;clear h5;have K4:=lhd k4;clear k4;have K5:=lhd k5;clear k5;by_cases bH:len=ai
 ·subst bH;go_enter Tryz.func23,Tryz.ntmps23;go_wp2;go_loopw [5] (fun i wr=>∃ k:Nat,i = .int .i64 k/\k<=len/\l.take k=m.take k/\Below w.heap.size w wr) (fun i _=>len - (vI i).toNat)
  case atStart=>exact⟨0,rfl,gp _,rfl,Below.refl _ _⟩
  case round =>
   obtain⟨k,rfl,hk,he,hB⟩:=hrel;have He:=lhd he;clear he;by_cases hlt:k < len
   ·obtain⟨ad,rfl⟩ : ∃ ad,a=some ad:=by
     cases a with
     | none=>have:=H4.out rfl;omega
     | some ad=>exact⟨ad,rfl⟩
    obtain⟨bd,rfl⟩ : ∃ ad,b=some ad:=by
     cases b with
     | none=>have:=K4.out rfl;omega
     | some ad=>exact⟨ad,rfl⟩
    obtain⟨⟨tc,tn,tm⟩,ht⟩ : ∃ t,l[k]? = some t:=⟨_,g8 (by rw[Hl.out];exact hlt)⟩
    obtain⟨⟨uc,un,um⟩,hu⟩ : ∃ t,m[k]? = some t:=⟨_,g8 (by rw[Kl.out];exact hlt)⟩
    obtain⟨e0,e1,e2⟩:=jd l k _ ht;obtain⟨e3,e4,e5⟩:=jd m k _ hu;have d0:wr.cell? (ad.add (k*3))=some (.int .i64 tc):=q8 hB (H5.out ad rfl _ _ e0);have d1:wr.cell? ⟨(ad.add (k*3)).block,(ad.add (k*3)).off+1,none⟩=some (.bool tn):=by rw[qi _ _ _ (by omega)];exact q8 hB (H5.out ad rfl _ _ e1)
    have d2:wr.cell? ⟨(ad.add (k*3)).block,(ad.add (k*3)).off+2,none⟩=some (.string tm):=by rw[qi _ _ _ (by omega)];exact q8 hB (H5.out ad rfl _ _ e2)
    have d3:wr.cell? (bd.add (k*3))=some (.int .i64 uc):=q8 hB (K5.out bd rfl _ _ e3);have d4:wr.cell? ⟨(bd.add (k*3)).block,(bd.add (k*3)).off+1,none⟩=some (.bool un):=by rw[qi _ _ _ (by omega)];exact q8 hB (K5.out bd rfl _ _ e4)
    have d5:wr.cell? ⟨(bd.add (k*3)).block,(bd.add (k*3)).off+2,none⟩=some (.string um):=by rw[qi _ _ _ (by omega)];exact q8 hB (K5.out bd rfl _ _ e5)
    clear e0 e1 e2 e3 e4 e5;have Ht:=lhd ht;clear ht;have Hu:=lhd hu;clear hu;obtain⟨q,hq⟩ : ∃ q,neT ⟨tc,tn,tm⟩ ⟨uc,un,um⟩=q:=⟨_,rfl⟩
    have aq:∀ W:World,(Go.binOp .neq 71 (.agg #[.int .i64 tc,.bool tn,.string tm]) (.agg #[.int .i64 uc,.bool un,.string um])).run Tryz.prog W = .ok (.bool q) W:=fun W=>by rw[<-hq];exact qde W tc uc tn un tm um
    have Hq:=lhd hq;clear hq;have jL:=qdf;go_wp2
    go_quiet (fail)
    by_cases pT:q=true
    ·subst pT;go_wp2;go_ret;refine⟨false,rfl,⟨fun h=>(by cases h),fun h=>?_⟩,qb hB nq⟩;exfalso
     have e1:(⟨tc,tn,tm⟩ : Tm)=⟨uc,un,um⟩:=by
      have:=Ht.out;rw[h,Hu.out] at this;exact(osi this).symm
     have e2:=(q5b _ _).2 e1;rw[Hq.out] at e2;cases e2
    ·have CC:q=false:=by simpa using pT
     subst CC;clear pT;go_wp2;go_roundw
     case measure=>simp[vI];omega
     case rel =>
      refine⟨k+1,qh (by omega),by omega,?_,qb hB nq⟩;rw[gq,gq,Ht.out,Hu.out,He.out,(q5b _ _).1 Hq.out]
   ·have bG:k=len:=by omega
    have eG:=lhd bG;clear bG;go_wp2;go_ret;refine⟨true,rfl,⟨fun _=>?_,fun _=>rfl⟩,hB⟩;have:=He.out
    rwa [eG.out,gm (Nat.le_of_eq Hl.out),gm (Nat.le_of_eq Kl.out)] at this
 ·have CD:((len:Int) == ai)=false:=by simp;omega
  have cC:=lhd bH;clear bH;go_enter Tryz.func23,Tryz.ntmps23;go_wp2;go_ret;refine⟨false,rfl,⟨fun h=>(by cases h),fun h=>?_⟩,Below.refl _ _⟩;exact absurd (by rw[<-Hl.out,<-Kl.out,h]) cC.out
theorem qts {L M:List (Int×Int)} (h:ctm L=ctm M):L=M:=by rw[<-zv L,h,zv]
attribute [local go_sem ↓] Go.wp_at_zero Go.wp_at_succ
theorem qk4 (v:Value) (l:List Tm) (S:Nat) (w:World) (h:Sl w 3 v (tv l)) (hS:TOk S l) (hb:S+l.length<=1099511627774) :
  Calls Tryz.prog 112 #[v] w fun e w'=>∃ r,e = .returned r/\qbv w w' r (co (prs l)) l.length:=by
 obtain⟨a,len,cap,rfl,h1,h2,h3,h4,h5⟩:=h;unfold maxLen at h2;rw[z6] at h3;have hl:l.length=len:=by omega
 clear h3;rw[hl] at hb;have Hl:=lhd hl;clear hl;have H4:=lhd h4;clear h4;have H5:=lhd h5;clear h5;have HS:=lhd hS;clear hS;go_enter Tryz.func112,Tryz.ntmps112;go_wp2;go_loopw [3,4] (fun o i wr=>∃ (k:Nat) (L:List (Int×Int)),i = .int .i64 k/\k<=len/\Cn L/\(∀ c,co L c=co (prs (l.take k)) c)/\L.length<=k/\wr.ownsRow w.heap.size 71 3 o L.length (tv (ctm L))/\Below w.heap.size w wr) (fun _ i _=>len - (vI i).toNat)
 case atStart=>exact⟨0,[],rfl,gp _,Cn.nil,fun c=>rfl,nlr _,World.ownsRow_nil _ _ _ _,Below.refl _ _⟩
 case round =>
  obtain⟨k,L,rfl,hk,hL,sT,vJ,ag,hB⟩:=hrel;have lC:=lhd sT;clear sT;by_cases hlt:k < len
  ·obtain⟨ad,rfl⟩ : ∃ ad,a=some ad:=by
    cases a with
    | none=>have:=H4.out rfl;omega
    | some ad=>exact⟨ad,rfl⟩
   obtain⟨⟨tc,tn,tm⟩,ht⟩ : ∃ t,l[k]? = some t:=⟨_,g8 (by rw[Hl.out];exact hlt)⟩
   obtain⟨e0,e1,e2⟩:=jd l k _ ht;have d0:wr.cell? (ad.add (k*3))=some (.int .i64 tc):=q8 hB (H5.out ad rfl _ _ e0);have d1:wr.cell? ⟨(ad.add (k*3)).block,(ad.add (k*3)).off+1,none⟩=some (.bool tn):=by rw[qi _ _ _ (by omega)];exact q8 hB (H5.out ad rfl _ _ e1)
   have d2:wr.cell? ⟨(ad.add (k*3)).block,(ad.add (k*3)).off+2,none⟩=some (.string tm):=by rw[qi _ _ _ (by omega)];exact q8 hB (H5.out ad rfl _ _ e2)
   clear e0 e1 e2;obtain⟨q1,q2,q3⟩:=HS.out _ (gh ht)
   dsimp only at q1 q2 q3
   have qW:∀ p∈L,nb p.2<=S+len:=fun p hp=>by
    have h1:=q0y S (prs (l.take k)) (q19 (fun t ht=>HS.out t (gK ht))) p.1;rw[<-lC.out,zl hL.1 hp,kq,gd,Hl.out] at h1;omega
   have yK:=lhd qW;clear qW;have Ht:=lhd ht;clear ht;go_wp2_with fail
   go_region_held3 (fun w'=>w'.cell? (ad.add (k*3))=some (.int .i64 tc)/\w'.cell? ⟨(ad.add (k*3)).block,(ad.add (k*3)).off+1,none⟩=some (.bool tn)/\w'.cell? ⟨(ad.add (k*3)).block,(ad.add (k*3)).off+2,none⟩=some (.string tm))
    (first | exact⟨by assumption,by assumption,by assumption⟩ | fail)
    (first
     |(go_at_call 113;refine(qmj _ L tc tn tm (S+len) _ (Sl.qc ag).drew hL yK.out (by omega) (by omega) (by omega)).mono ?_;rintro e w3 ⟨r,rfl,L',bL,iA,aO⟩;have aA:Below wr.heap.size wr w3:=xt (aO.mono (by simp));have a1:=q8 aA d0;have a2:=q8 aA d1;have a3:=q8 aA d2))
   have aB:w.heap.size<=wr.heap.size:=hB.size;go_wp2;go_roundw
   case measure=>simp[vI];omega
   case rel =>
    refine⟨k+1,L',qh (by omega),by omega,bL.cn,fun c=>?_,gl bL.len (by omega),qf iA (by simpa using aB),hB.trans (aA.mono aB)⟩;rw[bL.co,lC.out,gq,Ht.out];exact(q1x (l.take k) ⟨tc,tn,tm⟩ c).symm
  ·have bG:k=len:=by omega
   have eG:=lhd bG;clear bG;go_wp2;go_ret;refine⟨_,rfl,⟨L,hL,fun c=>?_,by rw[Hl.out];omega,ag⟩,hB⟩;rw[lC.out,gm (by rw[Hl.out,eG.out];exact nlr _)]
theorem qtt (v u:Value) (l m:List Tm) (S:Nat) (w:World) (h:Sl w 3 v (tv l)) (k:Sl w 3 u (tv m)) (hS:TOk S l) (kS:TOk S m) (hb:S+l.length<=1099511627774) (kb:S+m.length<=1099511627774) :
  Calls Tryz.prog 65 #[v,u] w fun e w'=>∃ q:Bool,e = .returned (.bool q)/\(q=true↔∀ c,co (prs l) c=co (prs m) c)/\Below w.heap.size w w':=by
 go_enter Tryz.func65,Tryz.ntmps65;go_wp2_with fail;refine(qk4 _ l S _ h hS hb).mono ?_;rintro e w1 ⟨r1,rfl,⟨⟨L,hL,sT,-,cZ⟩,aj⟩⟩;go_wp2_with fail;refine(qk4 _ m S _ (k.q8 aj) kS kb).mono ?_;rintro e w2 ⟨r2,rfl,⟨⟨M,hM,Gy,-,cH⟩,ao⟩⟩;go_wp2_with fail;refine(qna _ _ (ctm L) (ctm M) _ (Sl.qc (qa cZ ao)) (Sl.qc cH)).mono ?_;rintro e w3 ⟨q,rfl,hq,aO⟩;go_wp2_with fail;go_ret;refine⟨q,rfl,hq.trans ⟨fun e c=>?_,fun e=>?_⟩,(aj.trans (ao.mono aj.size)).trans (aO.mono (gl aj.size ao.size))⟩
 ·rw[<-sT,<-Gy,qts e]
 ·rw[Cn.uniq hL hM (fun c=>by rw[sT,Gy];exact e c)]
def scl (x:Int) (l:List (Int×Int)):List (Int×Int):=l.map fun p=>(p.1,x*p.2)
theorem qrp (x:Int) (l:List (Int×Int)) (c:Int):co (scl x l) c=x*co l c:=by
 induction l with
 | nil=>simp[scl,co]
 | cons p l ih =>
  show co ((p.1,x*p.2) :: scl x l) c=_;rw[jh,jh,ih,Int.mul_add];split <;> simp
theorem qtu (n:Bool) (s:ByteArray) (v:Value) (l:List Tm) (S:Nat) (w:World) (h:Sl w 3 v (tv l)) (hS:TOk S l) (hs:s.size<=S) (hb:2*S+l.length<=1099511627774) :
  Calls Tryz.prog 64 #[.agg #[.bool n,.string s],v] w fun e w'=>∃ r,e = .returned r/\qbv w w' r (fun c=>iv n s*co (prs l) c) l.length:=by
 obtain⟨a,len,cap,rfl,h1,h2,h3,h4,h5⟩:=h;unfold maxLen at h2;rw[z6] at h3;have hl:l.length=len:=by omega
 clear h3;rw[hl] at hb;have CE:=qmd n s;have Hl:=lhd hl;clear hl;have H4:=lhd h4;clear h4;have H5:=lhd h5;clear h5;have HS:=lhd hS;clear hS;obtain⟨x,hx⟩ : ∃ x,iv n s=x:=⟨_,rfl⟩
 rw[hx] at CE ⊢;have Hx:=lhd hx;clear hx;go_enter Tryz.func64,Tryz.ntmps64;go_wp2;obtain⟨W,hW⟩ : ∃ W:World,W=w.alloc (.cells #[.bool n,.string s] 38):=⟨_,rfl⟩
 rw[<-hW];have b0:Bx W w.heap.size n s:=by rw[hW];exact Bx.new w _ _ _
 have hw:Below w.heap.size w W:=by rw[hW];exact(Below.refl _ _).alloc (nlr _) _
 have hz:W.heap.size=w.heap.size+1:=by rw[hW];simp
 clear hW;go_loopw [5,6] (fun o i wr=>∃ (k:Nat) (L:List (Int×Int)),i = .int .i64 k/\k<=len/\Cn L/\(∀ c,co L c=co (scl x (prs (l.take k))) c)/\L.length<=k/\wr.ownsRow W.heap.size 71 3 o L.length (tv (ctm L))/\Below W.heap.size W wr) (fun _ i _=>len - (vI i).toNat)
 case atStart=>exact⟨0,[],rfl,gp _,Cn.nil,fun c=>rfl,nlr _,World.ownsRow_nil _ _ _ _,Below.refl _ _⟩
 case round =>
  obtain⟨k,L,rfl,hk,hL,sT,vJ,ag,hB⟩:=hrel;have aM:Below w.heap.size w wr:=hw.trans (hB.mono (by omega));have c0:=b0.q8 hB (by omega);have ⟨p0,p1,_,_⟩:=c0;have lC:=lhd sT;clear sT;by_cases hlt:k < len
  ·obtain⟨ad,rfl⟩ : ∃ ad,a=some ad:=by
    cases a with
    | none=>have:=H4.out rfl;omega
    | some ad=>exact⟨ad,rfl⟩
   obtain⟨⟨tc,tn,tm⟩,ht⟩ : ∃ t,l[k]? = some t:=⟨_,g8 (by rw[Hl.out];exact hlt)⟩
   obtain⟨e0,e1,e2⟩:=jd l k _ ht;have d0:wr.cell? (ad.add (k*3))=some (.int .i64 tc):=q8 aM (H5.out ad rfl _ _ e0);have d1:wr.cell? ⟨(ad.add (k*3)).block,(ad.add (k*3)).off+1,none⟩=some (.bool tn):=by rw[qi _ _ _ (by omega)];exact q8 aM (H5.out ad rfl _ _ e1)
   have d2:wr.cell? ⟨(ad.add (k*3)).block,(ad.add (k*3)).off+2,none⟩=some (.string tm):=by rw[qi _ _ _ (by omega)];exact q8 aM (H5.out ad rfl _ _ e2)
   clear e0 e1 e2;obtain⟨q1,q2,q3⟩:=HS.out _ (gh ht)
   dsimp only at q1 q2 q3
   have qW:∀ p∈L,nb p.2<=2*S+len:=fun p hp=>by
    have h1:=q0y S (prs (l.take k)) (q19 (fun t ht=>HS.out t (gK ht))) p.1;have h2:=lC.out p.1;rw[zl hL.1 hp,qrp] at h2;rw[h2];have h3:=q39 x (co (prs (l.take k)) p.1);rw[kq,gd,Hl.out] at h1;omega
   have yK:=lhd qW;clear qW;have Ht:=lhd ht;clear ht;have XU:=qmd tn tm;have SZ:=q39 x (iv tn tm);go_wp2_with fail
   go_region_held3 (fun w'=>w'.cell? (ad.add (k*3))=some (.int .i64 tc)/\w'.cell? ⟨(ad.add (k*3)).block,(ad.add (k*3)).off+1,none⟩=some (.bool tn)/\w'.cell? ⟨(ad.add (k*3)).block,(ad.add (k*3)).off+2,none⟩=some (.string tm)/\w'.cell? ⟨w.heap.size,0,none⟩=some (.bool n)/\w'.cell? ⟨w.heap.size,1,none⟩=some (.string s))
    (first | exact⟨by assumption,by assumption,by assumption,by assumption,by assumption⟩ | fail)
    (first
     |(go_at_call 34;refine(qmz _ _ _ _ _ (by omega) (by omega)).mono ?_;rintro e w2 ⟨rfl,ao⟩;rw[Hx.out];have ar:Below wr.heap.size wr w2:=xt (ao.mono (by simp));have a1:=q8 ar d0;have a2:=q8 ar d1;have a3:=q8 ar d2;have a4:=q8 ar p0;have a5:=q8 ar p1;have aN:=qa ag ar)
     |(go_at_call 113;refine(qmj _ L tc _ _ (2*S+len) _ (Sl.qc aN) hL yK.out (by rw[j5];omega) (by omega) (by omega)).mono ?_;rintro e w3 ⟨r,rfl,L',bL,iA,aO⟩;rw[q0i] at bL;have aA:Below wr.heap.size wr w3:=ar.trans (aO.mono ar.size);have a6:=q8 aO a1;have a7:=q8 aO a2;have a8:=q8 aO a3;have a9:=q8 aO a4;have Js:=q8 aO a5))
   have aB:W.heap.size<=wr.heap.size:=hB.size;go_wp2;go_roundw
   case measure=>simp[vI];omega
   case rel =>
    refine⟨k+1,L',qh (by omega),by omega,bL.cn,fun c=>?_,gl bL.len (by omega),qf iA (gl aB ar.size),hB.trans (aA.mono aB)⟩;rw[bL.co,lC.out,gq,Ht.out,qrp,qrp];show _=x*co (prs (l.take k++[_])) c;rw[q1x,Int.mul_add]
    congr 1
    by_cases hc:tc=c
    ·simp[hc,Tm.x]
    ·simp[hc]
  ·have bG:k=len:=by omega
   have eG:=lhd bG;clear bG;go_wp2;go_ret;refine⟨_,rfl,⟨L,hL,fun c=>?_,by rw[Hl.out];omega,qf ag (by omega)⟩,aM⟩;rw[lC.out,qrp,gm (by rw[Hl.out,eG.out];exact nlr _)]
end Go.Proofs.YtlhicnfeajejhaaGreatDoor
namespace Go.Proofs.YtlhicnfeajejhaaGreatDoor
open Go.RowKit Go.Cx
theorem zj (w:World) (t:TypeId) (st:Nat):(w.alloc (.cells #[] t)).ownsRow w.heap.size t st (.slice (some ⟨w.heap.size,0,none⟩) 0 0) 0 [] :=
 ⟨by simp,.inr ⟨w.heap.size,0,#[],rfl,nlr _,heap_alloc_new w _,nlr _,by simp[maxLen],by simp,by simp⟩⟩
theorem qup (v u:Value) (l m:List Tm) (S:Nat) (w:World) (h:Sl w 3 v (tv l)) (k:Sl w 3 u (tv m)) (hS:TOk S l) (kS:TOk S m) (hb:S+l.length+m.length<=1099511627774) :
  Calls Tryz.prog 63 #[v,u] w fun e w'=>∃ r,e = .returned r/\qbv w w' r (fun c=>co (prs l) c+co (prs m) c) (l.length+m.length):=by
 have bQ:Below w.heap.size w (w.alloc (.cells #[] 71)):=(Below.refl _ w).alloc (nlr _) _;go_enter Tryz.func63,Tryz.ntmps63;go_wp2_with (at_builtin;refine qm (W:=w) rfl _ _ 32 rfl w.heap.size 71 Tryz.xm Tryz.underlying32 rfl (by decide) (by decide) _ _ _ rfl (zj w 71 3) _ l.length (tv l) rfl (h.alloc _) (z6 l) (q9l _) ?ad1 bQ bQ.size ?_)
 case ad1=>omega
 intro v1 w1 cZ dd ak;have k1:=k.q8 ak;go_wp2_with (at_builtin;refine qm (W:=w) rfl _ _ 32 rfl w.heap.size 71 Tryz.xm Tryz.underlying32 rfl (by decide) (by decide) _ _ _ rfl cZ _ m.length (tv m) rfl k1 (z6 m) (q9l _) ?ad2 ak ak.size ?_)
 case ad2=>omega
 intro v2 w2 cH eW ar;have hr:Sl w2 3 v2 (tv (l++m)):=by rw[xp];simpa using Sl.qc cH
 go_wp2_with fail;refine(qk4 _ (l++m) S _ hr (hS.app kS) (by rw[gc];omega)).mono ?_;rintro e w3 ⟨r,rfl,⟨⟨L,hL,sT,og,da⟩,aO⟩⟩;go_wp2_with fail;go_ret;exact⟨_,rfl,⟨L,hL,fun c=>by rw[sT,q5u,ji],by rw[gc] at og;exact og,qf da ar.size⟩,ar.trans (aO.mono ar.size)⟩
attribute [local go_sem ↓] Go.wp_at_zero Go.wp_at_succ
def pg (g:Int->Int):List (Int×Int)->Int
 | []=>0
 | p :: l=>g p.1*p.2+pg g l
end Go.Proofs.YtlhicnfeajejhaaGreatDoor
namespace Go.Proofs.YtlhicnfeajejhaaGreatDoor
open Go.Cx
theorem qrw (g:Int->Int) (c:Int) (l:List (Int×Int)):pg g l=g c*co l c+pg g (l.filter fun p=>decide (p.1≠c)):=by
 induction l with
 | nil=>simp[pg,co]
 | cons p l ih =>
  show g p.1*p.2+pg g l=_;rw[ih,jh,Int.mul_add,List.filter_cons];by_cases h:p.1=c
  ·simp only [h,if_true,ne_eq,not_true,decide_false,Bool.false_eq_true,if_false];omega
  ·simp only [h,if_false,ne_eq,not_false_eq_true,decide_true,if_true];show _=_+(g p.1*p.2+pg g _)
   omega
theorem qrx (c d:Int) (l:List (Int×Int)):co (l.filter fun p=>decide (p.1≠c)) d=if d=c then 0 else co l d:=by
 induction l with
 | nil=>simp[co]
 | cons p l ih =>
  rw[List.filter_cons];by_cases h:p.1=c
  ·simp only [h,ne_eq,not_true,decide_false,Bool.false_eq_true,if_false];rw[ih,jh,h];by_cases hd:d=c
   ·simp[hd]
   ·rw[if_neg hd,if_neg hd,if_neg (fun e=>hd e.symm),Int.zero_add]
  ·simp only [h,ne_eq,not_false_eq_true,decide_true,if_true];rw[jh,jh,ih];by_cases hd:d=c
   ·subst hd;simp[h]
   ·simp[hd]
theorem qsv (g:Int->Int):∀ (n:Nat) (l m:List (Int×Int)),l.length+m.length<=n->(∀ c,co l c=co m c)->pg g l=pg g m:=by
 intro n;induction n with
 | zero =>
  intro l m h _;have h1:l=[]:=List.length_eq_zero_iff.1 (by omega);have h2:m=[]:=List.length_eq_zero_iff.1 (by omega);rw[h1,h2]
 | succ n ih =>
  intro l m h hc;by_cases h0:l.length+m.length=0
  ·exact ih l m (by omega) hc
  ·obtain⟨c,hlt⟩ : ∃ c,(l.filter fun p=>decide (p.1≠c)).length+(m.filter fun p=>decide (p.1≠c)).length < l.length+m.length:=by
    cases l with
    | cons p l =>
     refine⟨p.1,?_⟩;have h1:=gR (fun q:Int×Int=>decide (q.1≠p.1)) l;have h2:=gR (fun q:Int×Int=>decide (q.1≠p.1)) m;rw[List.filter_cons];simp only [ne_eq,not_true,decide_false,Bool.false_eq_true,if_false,gx] at *;omega
    | nil =>
     cases m with
     | nil=>simp at h0
     | cons p m =>
      refine⟨p.1,?_⟩;have h2:=gR (fun q:Int×Int=>decide (q.1≠p.1)) m;rw[List.filter_cons];simp only [ne_eq,not_true,decide_false,Bool.false_eq_true,if_false,gx,List.filter_nil,gU] at *;omega
   rw[qrw g c l,qrw g c m,hc,ih (l.filter fun p=>decide (p.1≠c)) (m.filter fun p=>decide (p.1≠c)) (by omega) (fun d=>by rw[qrx,qrx,hc])]
open Go.RowKit
attribute [local go_sem ↓] Go.wp_at_zero Go.wp_at_succ
def pv (l:List (Int×Int)):List Value:=l.flatMap fun p=>[.int .i64 p.1,.int .i64 p.2]
theorem qk {w:World} {p:Addr} {u:Value} (h:w.cell? p=some u) (o:Obj):(w.alloc o).cell? p=some u:=q8 ((Below.refl _ w).alloc (nlr _) o) h
theorem q7l (w:World) (t:TypeId) (xs:List Value):∀ j u,xs[j]? = some u->(w.alloc (.cells xs.toArray t)).cell? ((⟨w.heap.size,0,none⟩ : Addr).add j)=some u:=fun j u hj=>by
 rw[Addr.add_lit,Nat.zero_add,qd];simpa using hj
def I64 (x:Int):Prop:=-9223372036854775808<=x/\x<=9223372036854775807
end Go.Proofs.YtlhicnfeajejhaaGreatDoor
