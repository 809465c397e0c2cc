/- Steps towards MorseChecks. Conditions: none. -/
import Derived.Deep.AppendLies
import Derived.Test.YtlhicnfeajejhaaGreatDoorFMf
import Derived.Test.YtlhicnfeajejhaaGreatDoorFShf
set_option maxRecDepth 1000000
set_option maxHeartbeats 16000000
namespace Go.Proofs.YtlhicnfeajejhaaGreatDoor
open Go.RowKit Go.Cx Go.Shelf
theorem qn9 (m:Nat):AnyZI.SortsIn Tryz.prog Tryz.q4w Fence.wide m :=
 ⟨fun blk off cap ss W hH hblk ao=>callsIn_wide.2 (AnyM.slices_Sort_int Tryz.qms blk off cap ss W hH hblk ao),
  fun p cap W=>callsIn_wide.2 (AnyM.slices_Sort_int_none Tryz.qms p cap W)⟩
theorem q8k (b N:Nat) (g:Int->Option Value) (f:Int->Int) (w:World) (h:Mp Tryz.prog 3 w b N g) (hg:q2z g f) (hN:N<=1099511627776) (hf:∀ c,nb (f c)<=1099511627776) :
  Calls Tryz.prog 79 #[.map (some b)] w fun e w'=>∃ r,e = .returned r/\∃ L,Cn L/\(∀ c,co L c=f c)/\L.length<=N/\w'.ownsRow w.heap.size 71 3 r L.length (tv (ctm L))/\Below w.heap.size w w':=by
 have hm:=h;obtain⟨D0,ah,h2⟩:=h;have ou:=ah.lt;have ao:=ah.size_le;have AZ:SeqGives Fence.wide 2 Tryz.prog 173 #[.pointer (some ⟨w.heap.size,0,none⟩)] encZ (fun ss=>ss.Perm (intKeys D0)) (Maps.size D0) (w.alloc (.cells #[.map (some b)] 99)) :=
  AnyZI.keys_gives (ρ:=Tryz.q8c) { Tryz.qmr with } Fence.wide _ trivial rfl (by omega) w.heap.size b N D0 _ (by simp) (by simp) (by
   obtain⟨es,clock,hb,Ft,hs,hD⟩:=ah;exact⟨es,clock,(Below.heap_alloc _ _ b ou).trans hb,Ft,hs,hD⟩)
 have cK:∀ mb W,CallsIn Fence.wide 5 Tryz.prog 136 #[.map mb] W fun e w'=>e = .returned (.func (.func 173) #[] #[.pointer (some ⟨W.heap.size,0,none⟩)])/\w'=W.alloc (.cells #[.map mb] 99):=fun mb W=>AnyZI.keys_in Tryz.qmr Fence.wide 5 trivial rfl mb W
 have cS:=AnyZI.sorted_in Tryz.qmc Fence.wide 5 trivial trivial trivial trivial rfl (by omega) (qn9 _) (enters_of Tryz.func172 (by kernel_rfl) rfl) 173 #[.pointer (some ⟨w.heap.size,0,none⟩)] trivial (enters_of Tryz.func173 (by kernel_rfl) rfl) _ _ (by unfold maxLen;omega) (by omega) _ AZ;change CallsIn _ _ Tryz.prog 135 _ _ _ at cS;have L6:∀ mb W,Calls Tryz.prog 136 #[.map mb] W _:=fun mb W=>(callsIn_wide (n:=5)).1 (cK mb W)
 have L7:=(callsIn_wide (n:=5)).1 cS;clear cK cS AZ;go_enter Tryz.func79,Tryz.ntmps79;go_wp2_with fail;refine(L6 _ _).mono ?_;rintro e w' ⟨rfl,rfl⟩;go_wp2_with fail;refine L7.mono ?_;rintro e w1 ⟨v,ss,rfl,hS,au,jF,ai⟩;obtain⟨mY,aZ,aX,fH⟩:=Mp.keys ah Tryz.underlying3 h2 hS;clear L6 L7 hS jF h2 ah;obtain⟨ks,rX⟩ : ∃ ks,ks=ss.mergeSort (fun x y=>decide (x<=y)):=⟨_,rfl⟩
 have rY:ks.Pairwise (· < ·):=by rw[rX];exact qf1 ss mY
 have oz:∀ x,x∈ks↔(g x).isSome=true:=fun x=>by rw[rX,List.mem_mergeSort];exact aZ x
 have aR:ks.length=ss.length:=by rw[rX,List.length_mergeSort]
 rw[<-rX,<-aR] at au;rw[<-aR] at aX;have zQ:∀ x∈ks,-9223372036854775808<=x/\x<=9223372036854775807:=fun x hx=>fH x (by rw[rX,List.mem_mergeSort] at hx;exact hx)
 clear rX aZ fH mY aR;have hv:=Sl.qc au;obtain⟨a,len,cap,rfl,h1,h2,h3,h4,h5⟩:=hv;unfold maxLen at h2;have lU:ks.length=len:=by simpa using h3
 clear h3;rw[lU] at aX;have H3:=lhd lU;clear lU;have H4:=lhd h4;clear h4;have H5:=lhd h5;clear h5;have Qp:=lhd oz;clear oz;have Qq:=lhd zQ;clear zQ;have al:Below w.heap.size w w1:=((Below.refl _ w).alloc (nlr _) _).trans (ai.mono (by simp));have cO:=hm.below al hm.lt;clear ai hm au;go_wp2_with fail;go_loopw [3,10] (fun o i wr=>∃ k:Nat,i = .int .i64 k/\k<=len/\wr.ownsRow w1.heap.size 71 3 o (nzp f (ks.take k)).length (tv (ctm (nzp f (ks.take k))))/\Below w1.heap.size w1 wr) (fun _ i _=>len - (vI i).toNat)
 case atStart=>exact⟨0,rfl,gp _,World.ownsRow_nil _ _ _ _,Below.refl _ _⟩
 case round =>
  obtain⟨k,rfl,hk,ah,hB⟩:=hrel;by_cases hlt:k < len
  ·obtain⟨ad,rfl⟩ : ∃ ad,a=some ad:=by
    cases a with
    | none=>have:=H4.out rfl;omega
    | some ad=>exact⟨ad,rfl⟩
   obtain⟨c,hc⟩ : ∃ c,ks[k]? = some c:=⟨_,g8 (by rw[H3.out];exact hlt)⟩
   have c1:wr.cell? (ad.add k)=some (.int .i64 c):=q8 hB (H5.out ad rfl k _ (by simp[hc,encZ]));obtain⟨r1,r2⟩:=Qq.out c (gd hc);have aq:=q0k (P:=Tryz.prog) (k:=3) Tryz.underlying3 r1 r2;have eU:=cO.q8 hB;have o3:nzp f (ks.take (k+1))=nzp f (ks.take k)++(if f c=0 then [] else [(c,f c)]):=by
    rw[gq,hc];exact qgw _ _ _
   have E1:=lhd o3;clear o3;have Hc:=lhd hc;clear hc;go_wp2_with (at_lookup;refine q3q rfl _ _ 99 rfl eU Tryz.underlying3 Tryz.underlying99 (q20 _) c rfl rfl aq ?_;rw[hg c]);have kY:=hf c;refine(qn5 _ _ _ (by rw[j5];exact kY)).mono ?_;rintro e w2 ⟨rfl,ag⟩;rw[q0i];have aw:Below w1.heap.size w1 w2:=hB.trans (ag.mono hB.size);have bR:=qa ah ag;have c2:w2.cell? (ad.add k)=some (.int .i64 c):=q8 ag c1;have Gu:=eU.q8 ag;by_cases h0:f c=0
   ·have cr:ve (f c)=0:=by rw[h0];rfl
    rw[if_pos h0,gQ] at E1;have H0:=lhd h0;clear h0;go_wp2_with fail;go_roundw
    case measure=>simp[vI];omega
    case rel=>exact⟨k+1,qh (by omega),by omega,by rw[E1.out];exact bR,aw⟩
   ·have cr:(ve (f c) == 0)=false:=by
     unfold ve;rw[if_neg h0];split <;> rfl
    rw[if_neg h0] at E1;have H0:=lhd h0;clear h0;have hlen:(nzp f (ks.take k)).length<=1099511627776:=by
     have:=qda f (ks.take k);rw[gh] at this;omega
    go_wp2_with (first
     |(at_lookup;refine q3q rfl _ _ 99 rfl Gu Tryz.underlying3 Tryz.underlying99 (q20 _) c rfl rfl aq ?_;rw[hg c])
     |(at_builtin;refine qo (W:=w1) rfl _ _ 32 rfl w1.heap.size 71 Tryz.xm Tryz.underlying32 rfl (by decide) (by decide) _ _ _ rfl bR [.int .i64 c,.bool (decide (f c < 0)),.string (mg (f c))] rfl rfl ?bp1 ?bp2 aw ?bp3 ?_))
    case bp1=>intro u hu;simp at hu;rcases hu with rfl | rfl | rfl <;> rfl
    case bp2=>omega
    case bp3=>exact aw.size
    intro v3 w3 cY eJ aB;go_wp2;go_roundw
    case measure=>simp[vI];omega
    case rel =>
     refine⟨k+1,qh (by omega),by omega,?_,aB⟩;rw[E1.out,xj,xp,gl];exact cY
  ·have bJ:k=len:=by omega
   have fR:=lhd bJ;clear bJ;go_wp2;go_ret;have Qr:ks.take k=ks:=ge (by rw[H3.out];exact Nat.le_of_eq fR.out.symm);rw[Qr] at ah;refine⟨_,rfl,_,qgx f rY,qn6 f rY (fun c h0=>?_),gn (qda f ks) (by rw[H3.out];exact aX),qf ah al.size,al.trans (hB.mono al.size)⟩;have:=hg c;rw[Qp.out];cases hgc:g c with
   | some v=>rfl
   | none =>
    exfalso
    rw[hgc] at this;have e:wv 0=wv (f c):=this;refine h0 ?_;have e1:decide ((0:Int) < 0)=decide (f c < 0)/\mg 0=mg (f c):=by simpa using e
    exact(qgf e1.1 e1.2).symm
end Go.Proofs.YtlhicnfeajejhaaGreatDoor
namespace Go.Proofs.YtlhicnfeajejhaaGreatDoor
open Go.RowKit Go.Cx
theorem SlL.one {w:World} {v:Value} {l:List Tm} (h:Sl w 3 v (tv l)) (t:TypeId):SlL (w.alloc (.cells #[v] t)) (.slice (some ⟨w.heap.size,0,none⟩) 1 1) [l]:=by
 refine⟨[v],Sl.lit w t [v] (by simp),rfl,?_⟩;intro i u l' hu hl;cases i with
 | zero=>simp at hu hl;subst hu hl;exact h.alloc _
 | succ i=>simp at hu
theorem SlL.two {w:World} {v u:Value} {l m:List Tm} (h:Sl w 3 v (tv l)) (k:Sl w 3 u (tv m)) (t:TypeId):SlL (w.alloc (.cells #[v,u] t)) (.slice (some ⟨w.heap.size,0,none⟩) 2 2) [l,m]:=by
 refine⟨[v,u],Sl.lit w t [v,u] (by simp),rfl,?_⟩;intro i u' l' hu hl
 match i with
 | 0=>simp at hu hl;subst hu hl;exact h.alloc _
 | 1=>simp at hu hl;subst hu hl;exact k.alloc _
 | i+2=>simp at hu
theorem qg {w:World} {st:Nat} {v:Value} {xs:List Value} (h:Sl w st v xs):∃ a n cap,v = .slice a n cap:=by
 obtain⟨a,n,cap,he,_⟩:=h;exact⟨a,n,cap,he⟩
structure qbv (w w':World) (r:Value) (f:Int->Int) (N:Nat):Prop where
 ex:∃ L,Cn L/\(∀ c,co L c=f c)/\L.length<=N/\w'.ownsRow w.heap.size 71 3 r L.length (tv (ctm L))
 below:Below w.heap.size w w'
theorem qdd (v:Value) (l:List Tm) (S:Nat) (w:World) (h:Sl w 3 v (tv l)) (hS:TOk S l) (hb:S+l.length<=1099511627775) :
  Calls Tryz.prog 24 #[v] w fun e w'=>∃ r,e = .returned r/\qbv w w' r (co (prs l)) l.length:=by
 obtain⟨a,n,cap,rfl⟩:=qg h;go_enter Tryz.func24,Tryz.ntmps24;go_wp2_with fail;have hc:=qn8 (.slice (some ⟨w.heap.size,0,none⟩) 1 1) [l] S (w.alloc (.cells #[.slice a n cap] 32)) (SlL.one h _) (by simpa using hS) (by simpa using hb);refine hc.mono ?_;rintro e w1 ⟨rfl,⟨g,hm,hg⟩,ai⟩;simp only [List.flatten_cons,List.flatten_nil,List.append_nil,World.size_alloc] at hm hg ai;simp only [World.size_alloc];go_wp2_with fail;refine(q8k _ _ g _ w1 hm hg (by omega) (fun c=>gn (q0y S _ (q19 hS) c) (by rw[kq];omega))).mono ?_;rintro e w2 ⟨r,rfl,L,h1,h2,h3,h4,ag⟩;go_wp2_with fail;go_ret;have al:Below w.heap.size w w1:=((Below.refl _ w).alloc (nlr _) _).trans (ai.mono (by simp));exact⟨_,rfl,⟨L,h1,h2,h3,qf h4 al.size⟩,al.trans (ag.mono al.size)⟩
theorem qbw (v u:Value) (l m:List Tm) (S:Nat) (w:World) (h:Sl w 3 v (tv l)) (k:Sl w 3 u (tv m)) (hS:TOk S l) (kS:TOk S m) (hb:S+l.length+m.length<=1099511627775) :
  Calls Tryz.prog 31 #[v,u] w fun e w'=>∃ r,e = .returned r/\qbv w w' r (fun c=>co (prs l) c+co (prs m) c) (l.length+m.length):=by
 obtain⟨a,n,cap,rfl⟩:=qg h;obtain⟨a',n',bE,rfl⟩:=qg k;go_enter Tryz.func31,Tryz.ntmps31;go_wp2_with fail;have hc:=qn8 (.slice (some ⟨w.heap.size,0,none⟩) 2 2) [l,m] S (w.alloc (.cells #[.slice a n cap,.slice a' n' bE] 32)) (SlL.two h k _) (by intro x hx;simp at hx;rcases hx with rfl | rfl <;> assumption) (by simp;omega);refine hc.mono ?_;rintro e w1 ⟨rfl,⟨g,hm,hg⟩,ai⟩;simp only [List.flatten_cons,List.flatten_nil,List.append_nil,List.length_append,World.size_alloc] at hm hg ai;simp only [World.size_alloc];go_wp2_with fail;refine(q8k _ _ g _ w1 hm hg (by omega) (fun c=>gn (q0y S _ (q19 (hS.app kS)) c) (by rw[kq,gl];omega))).mono ?_;rintro e w2 ⟨r,rfl,L,h1,h2,h3,h4,ag⟩;go_wp2_with fail;go_ret;have al:Below w.heap.size w w1:=((Below.refl _ w).alloc (nlr _) _).trans (ai.mono (by simp));exact⟨_,rfl,⟨L,h1,fun c=>by rw[h2,q5u,ji],h3,qf h4 al.size⟩,al.trans (ag.mono al.size)⟩
def neT (t u:Tm):Bool:=!(t.c == u.c && (t.n == u.n && t.m.toList == u.m.toList))
theorem q5b (t u:Tm):neT t u=false↔t=u:=by
 cases t;cases u
 simp only [neT,Bool.not_eq_false',Bool.and_eq_true,beq_iff_eq,Tm.mk.injEq,Lib.toList_data];constructor
 ·rintro ⟨h1,h2,h3⟩;exact⟨h1,h2,q5t h3⟩
 ·rintro ⟨h1,h2,rfl⟩;exact⟨h1,h2,rfl⟩
theorem qde (w:World) (tc uc:Int) (tn un:Bool) (tm um:ByteArray) :
  (Go.binOp .neq 71 (.agg #[.int .i64 tc,.bool tn,.string tm]) (.agg #[.int .i64 uc,.bool un,.string um])).run Tryz.prog w = .ok (.bool (neT ⟨tc,tn,tm⟩ ⟨uc,un,um⟩)) w:=by
 have hp:Tryz.prog.stoodInHeld 71=false:=by kernel_rfl
 have ic:Tryz.prog.stoodInHeld 38=false:=by kernel_rfl
 by_cases h1:(tc == uc)=true <;> by_cases h2:(tn == un)=true <;> by_cases h3:(tm.toList == um.toList)=true <;> (try simp only [Bool.not_eq_true] at h1) <;> (try simp only [Bool.not_eq_true] at h2) <;> (try simp only [Bool.not_eq_true] at h3) <;>
  simp[neT,go_sem,h1,h2,h3,hp,ic]
theorem qdf:Tryz.prog.eqGuardType Tryz.prog.depth 71=false:=by kernel_rfl
theorem qpv (v u:Value) (l m:List Tm) (w:World) (h:Sl w 3 v (tv l)) (k:Sl w 3 u (tv m)) :
  Calls Tryz.prog 97 #[v,u] w fun e w'=>∃ q:Bool,e = .returned (.bool q)/\(q=true↔l=m)/\Below w.heap.size w w':=by
 obtain⟨a,len,cap,rfl,h1,h2,h3,h4,h5⟩:=h;obtain⟨b,aj,bE,rfl,k1,k2,k3,k4,k5⟩:=k;unfold maxLen at h2 k2;rw[z6] at h3 k3;have hl:l.length=len:=by omega
 have kl:m.length=aj:=by omega
 clear h3 k3;have Hl:=lhd hl;clear hl;have Kl:=lhd kl;clear kl;have H4:=lhd h4;clear h4;have H5:=lhd h5;clear h5;have K4:=lhd k4;clear k4;have K5:=lhd k5;clear k5;by_cases bH:len=aj
 ·subst bH;go_enter Tryz.func97,Tryz.ntmps97;go_wp2;go_loopw [13] (fun i wr=>∃ k:Nat,i = .int .i64 k/\k<=len/\l.take k=m.take k/\Below w.heap.size w wr) (fun i _=>len - (vI i).toNat)
  case atStart=>exact⟨0,rfl,gp _,rfl,Below.refl _ _⟩
  case round =>
   obtain⟨k,rfl,hk,he,hB⟩:=hrel;have He:=lhd he;clear he;by_cases hlt:k < len
   ·obtain⟨ad,rfl⟩ : ∃ ad,a=some ad:=by
     cases a with
     | none=>have:=H4.out rfl;omega
     | some ad=>exact⟨ad,rfl⟩
    obtain⟨bd,rfl⟩ : ∃ ad,b=some ad:=by
     cases b with
     | none=>have:=K4.out rfl;omega
     | some ad=>exact⟨ad,rfl⟩
    obtain⟨⟨tc,tn,tm⟩,ht⟩ : ∃ t,l[k]? = some t:=⟨_,g8 (by rw[Hl.out];exact hlt)⟩
    obtain⟨⟨uc,un,um⟩,hu⟩ : ∃ t,m[k]? = some t:=⟨_,g8 (by rw[Kl.out];exact hlt)⟩
    obtain⟨e0,e1,e2⟩:=jd l k _ ht;obtain⟨e3,e4,e5⟩:=jd m k _ hu;have d0:wr.cell? (ad.add (k*3))=some (.int .i64 tc):=q8 hB (H5.out ad rfl _ _ e0);have d1:wr.cell? ⟨(ad.add (k*3)).block,(ad.add (k*3)).off+1,none⟩=some (.bool tn):=by rw[qi _ _ _ (by omega)];exact q8 hB (H5.out ad rfl _ _ e1)
    have d2:wr.cell? ⟨(ad.add (k*3)).block,(ad.add (k*3)).off+2,none⟩=some (.string tm):=by rw[qi _ _ _ (by omega)];exact q8 hB (H5.out ad rfl _ _ e2)
    have d3:wr.cell? (bd.add (k*3))=some (.int .i64 uc):=q8 hB (K5.out bd rfl _ _ e3);have d4:wr.cell? ⟨(bd.add (k*3)).block,(bd.add (k*3)).off+1,none⟩=some (.bool un):=by rw[qi _ _ _ (by omega)];exact q8 hB (K5.out bd rfl _ _ e4)
    have d5:wr.cell? ⟨(bd.add (k*3)).block,(bd.add (k*3)).off+2,none⟩=some (.string um):=by rw[qi _ _ _ (by omega)];exact q8 hB (K5.out bd rfl _ _ e5)
    clear e0 e1 e2 e3 e4 e5;have Ht:=lhd ht;clear ht;have Hu:=lhd hu;clear hu;obtain⟨q,hq⟩ : ∃ q,neT ⟨tc,tn,tm⟩ ⟨uc,un,um⟩=q:=⟨_,rfl⟩
    have ak:∀ W:World,(Go.binOp .neq 71 (.agg #[.int .i64 tc,.bool tn,.string tm]) (.agg #[.int .i64 uc,.bool un,.string um])).run Tryz.prog W = .ok (.bool q) W:=fun W=>by rw[<-hq];exact qde W tc uc tn un tm um
    have Hq:=lhd hq;clear hq;have ot:=qdf;go_wp2
    go_quiet (fail)
    by_cases mZ:q=true
    ·subst mZ;go_wp2;go_ret;refine⟨false,rfl,⟨fun h=>(by cases h),fun h=>?_⟩,qb hB nq⟩;exfalso
     have e1:(⟨tc,tn,tm⟩ : Tm)=⟨uc,un,um⟩:=by
      have:=Ht.out;rw[h,Hu.out] at this;exact(osi this).symm
     have e2:=(q5b _ _).2 e1;rw[Hq.out] at e2;cases e2
    ·have vV:q=false:=by simpa using mZ
     subst vV;clear mZ;go_wp2;go_roundw
     case measure=>simp[vI];omega
     case rel =>
      refine⟨k+1,qh (by omega),by omega,?_,qb hB nq⟩;rw[gq,gq,Ht.out,Hu.out,He.out,(q5b _ _).1 Hq.out]
   ·have bJ:k=len:=by omega
    have fR:=lhd bJ;clear bJ;go_wp2;go_ret;refine⟨true,rfl,⟨fun _=>?_,fun _=>rfl⟩,hB⟩;have:=He.out
    rwa [fR.out,ge (Nat.le_of_eq Hl.out),ge (Nat.le_of_eq Kl.out)] at this
 ·have Ba:((len:Int) == aj)=false:=by simp;omega
  have cw:=lhd bH;clear bH;go_enter Tryz.func97,Tryz.ntmps97;go_wp2;go_ret;refine⟨false,rfl,⟨fun h=>(by cases h),fun h=>?_⟩,Below.refl _ _⟩;exact absurd (by rw[<-Hl.out,<-Kl.out,h]) cw.out
theorem qna (v u:Value) (l m:List Tm) (w:World) (h:Sl w 3 v (tv l)) (k:Sl w 3 u (tv m)) :
  Calls Tryz.prog 23 #[v,u] w fun e w'=>∃ q:Bool,e = .returned (.bool q)/\(q=true↔l=m)/\Below w.heap.size w w':=by
 obtain⟨a,len,cap,rfl,h1,h2,h3,h4,h5⟩:=h;obtain⟨b,aj,bE,rfl,k1,k2,k3,k4,k5⟩:=k;unfold maxLen at h2 k2;rw[z6] at h3 k3;have hl:l.length=len:=by omega
 have kl:m.length=aj:=by omega
 clear h3 k3;have Hl:=lhd hl;clear hl;have Kl:=lhd kl;clear kl;have H4:=lhd h4;clear h4;have H5:=lhd h5;clear h5;have K4:=lhd k4;clear k4;have K5:=lhd k5;clear k5;by_cases bH:len=aj
 ·subst bH;go_enter Tryz.func23,Tryz.ntmps23;go_wp2;go_loopw [5] (fun i wr=>∃ k:Nat,i = .int .i64 k/\k<=len/\l.take k=m.take k/\Below w.heap.size w wr) (fun i _=>len - (vI i).toNat)
  case atStart=>exact⟨0,rfl,gp _,rfl,Below.refl _ _⟩
  case round =>
   obtain⟨k,rfl,hk,he,hB⟩:=hrel;have He:=lhd he;clear he;by_cases hlt:k < len
   ·obtain⟨ad,rfl⟩ : ∃ ad,a=some ad:=by
     cases a with
     | none=>have:=H4.out rfl;omega
     | some ad=>exact⟨ad,rfl⟩
    obtain⟨bd,rfl⟩ : ∃ ad,b=some ad:=by
     cases b with
     | none=>have:=K4.out rfl;omega
     | some ad=>exact⟨ad,rfl⟩
    obtain⟨⟨tc,tn,tm⟩,ht⟩ : ∃ t,l[k]? = some t:=⟨_,g8 (by rw[Hl.out];exact hlt)⟩
    obtain⟨⟨uc,un,um⟩,hu⟩ : ∃ t,m[k]? = some t:=⟨_,g8 (by rw[Kl.out];exact hlt)⟩
    obtain⟨e0,e1,e2⟩:=jd l k _ ht;obtain⟨e3,e4,e5⟩:=jd m k _ hu;have d0:wr.cell? (ad.add (k*3))=some (.int .i64 tc):=q8 hB (H5.out ad rfl _ _ e0);have d1:wr.cell? ⟨(ad.add (k*3)).block,(ad.add (k*3)).off+1,none⟩=some (.bool tn):=by rw[qi _ _ _ (by omega)];exact q8 hB (H5.out ad rfl _ _ e1)
    have d2:wr.cell? ⟨(ad.add (k*3)).block,(ad.add (k*3)).off+2,none⟩=some (.string tm):=by rw[qi _ _ _ (by omega)];exact q8 hB (H5.out ad rfl _ _ e2)
    have d3:wr.cell? (bd.add (k*3))=some (.int .i64 uc):=q8 hB (K5.out bd rfl _ _ e3);have d4:wr.cell? ⟨(bd.add (k*3)).block,(bd.add (k*3)).off+1,none⟩=some (.bool un):=by rw[qi _ _ _ (by omega)];exact q8 hB (K5.out bd rfl _ _ e4)
    have d5:wr.cell? ⟨(bd.add (k*3)).block,(bd.add (k*3)).off+2,none⟩=some (.string um):=by rw[qi _ _ _ (by omega)];exact q8 hB (K5.out bd rfl _ _ e5)
    clear e0 e1 e2 e3 e4 e5;have Ht:=lhd ht;clear ht;have Hu:=lhd hu;clear hu;obtain⟨q,hq⟩ : ∃ q,neT ⟨tc,tn,tm⟩ ⟨uc,un,um⟩=q:=⟨_,rfl⟩
    have ak:∀ W:World,(Go.binOp .neq 71 (.agg #[.int .i64 tc,.bool tn,.string tm]) (.agg #[.int .i64 uc,.bool un,.string um])).run Tryz.prog W = .ok (.bool q) W:=fun W=>by rw[<-hq];exact qde W tc uc tn un tm um
    have Hq:=lhd hq;clear hq;have ot:=qdf;go_wp2
    go_quiet (fail)
    by_cases mZ:q=true
    ·subst mZ;go_wp2;go_ret;refine⟨false,rfl,⟨fun h=>(by cases h),fun h=>?_⟩,qb hB nq⟩;exfalso
     have e1:(⟨tc,tn,tm⟩ : Tm)=⟨uc,un,um⟩:=by
      have:=Ht.out;rw[h,Hu.out] at this;exact(osi this).symm
     have e2:=(q5b _ _).2 e1;rw[Hq.out] at e2;cases e2
    ·have vV:q=false:=by simpa using mZ
     subst vV;clear mZ;go_wp2;go_roundw
     case measure=>simp[vI];omega
     case rel =>
      refine⟨k+1,qh (by omega),by omega,?_,qb hB nq⟩;rw[gq,gq,Ht.out,Hu.out,He.out,(q5b _ _).1 Hq.out]
   ·have bJ:k=len:=by omega
    have fR:=lhd bJ;clear bJ;go_wp2;go_ret;refine⟨true,rfl,⟨fun _=>?_,fun _=>rfl⟩,hB⟩;have:=He.out
    rwa [fR.out,ge (Nat.le_of_eq Hl.out),ge (Nat.le_of_eq Kl.out)] at this
 ·have Ba:((len:Int) == aj)=false:=by simp;omega
  have cw:=lhd bH;clear bH;go_enter Tryz.func23,Tryz.ntmps23;go_wp2;go_ret;refine⟨false,rfl,⟨fun h=>(by cases h),fun h=>?_⟩,Below.refl _ _⟩;exact absurd (by rw[<-Hl.out,<-Kl.out,h]) cw.out
theorem zj (w:World) (t:TypeId) (st:Nat):(w.alloc (.cells #[] t)).ownsRow w.heap.size t st (.slice (some ⟨w.heap.size,0,none⟩) 0 0) 0 [] :=
 ⟨by simp,.inr ⟨w.heap.size,0,#[],rfl,nlr _,heap_alloc_new w _,nlr _,by simp[maxLen],by simp,by simp⟩⟩
attribute [local go_sem ↓] Go.wp_at_zero Go.wp_at_succ
def pv (l:List (Int×Int)):List Value:=l.flatMap fun p=>[.int .i64 p.1,.int .i64 p.2]
theorem qab (p:Int×Int) (l:List (Int×Int)):pv (p :: l) = .int .i64 p.1 :: .int .i64 p.2 :: pv l:=rfl
theorem qd1 (l:List (Int×Int)):(pv l).length=l.length*2:=by
 induction l with
 | nil=>rfl
 | cons t l ih=>rw[qab];simp only [List.length_cons,ih];omega
theorem qgz (l:List (Int×Int)) (i:Nat) (t:Int×Int) (h:l[i]? = some t):(pv l)[i*2]? = some (.int .i64 t.1)/\(pv l)[i*2+1]? = some (.int .i64 t.2):=by
 induction l generalizing i with
 | nil=>simp at h
 | cons u l ih =>
  cases i with
  | zero=>simp at h;subst h;simp[qab]
  | succ i =>
   have:=ih i (by simpa using h);rw[qab,show (i+1)*2=i*2+1+1 by omega,show i*2+1+1+1=(i*2+1)+1+1 by omega];simpa using this
theorem qk {w:World} {p:Addr} {u:Value} (h:w.cell? p=some u) (o:Obj):(w.alloc o).cell? p=some u:=q8 ((Below.refl _ w).alloc (nlr _) o) h
theorem q7l (w:World) (t:TypeId) (xs:List Value):∀ j u,xs[j]? = some u->(w.alloc (.cells xs.toArray t)).cell? ((⟨w.heap.size,0,none⟩ : Addr).add j)=some u:=fun j u hj=>by
 rw[Addr.add_lit,Nat.zero_add,qd];simpa using hj
def I64 (x:Int):Prop:=-9223372036854775808<=x/\x<=9223372036854775807
end Go.Proofs.YtlhicnfeajejhaaGreatDoor
