/- Steps towards MorseChecks. Conditions: none. -/
import Derived.Test.YtlhicnfeajejhaaGreatDoorFQk
import Derived.Test.YtlhicnfeajejhaaGreatDoorFQm
set_option maxRecDepth 1000000
set_option maxHeartbeats 16000000
namespace Go.Cx
open Go.Proofs.YtlhicnfeajejhaaGreatDoor
theorem q8a (l:List Int):chk (q25 l)=(0,0):=q4g _ (by rw[gm,gh];omega) fun s hs=>by
 obtain⟨x,_,rfl⟩:=go.1 hs;exact⟨(q5d x).1,(q5d x).2.1⟩
theorem qbk (l:List Int):canon (q25 l)=q25 l:=yh _ _
theorem qcx (l:List Int):Cx.Good (q25 l):=by
 have:=q0d (q8a l)
 rwa [qbk] at this
theorem qj8 (a:List Sd) (x:Sd) (h:∀ y∈a,y.c<=x.c):yv a x=a++[x]:=by
 induction a with
 | nil=>rfl
 | cons y a ih =>
  unfold yv;rw[if_pos (h y (by simp)),ih fun z hz=>h z (by simp[hz])];rfl
theorem qek {l:List Sd} (h:l.Pairwise fun s t=>s.c<=t.c):zx l=l:=by
 have key:∀ (l a:List Sd),(a++l).Pairwise (fun s t=>s.c<=t.c)->l.foldl yv a=a++l:=fun l=>by
  induction l with
  | nil=>intro a _;simp
  | cons x l ih =>
   intro a h;rw[List.foldl_cons,qj8 a x fun y hy=>(List.pairwise_append.1 h).2.2 y hy x (by simp),ih (a++[x]) (by rw[gz];exact h),gz];rfl
 exact key l [] h
section
variable {K:List Cl} (G:Cx.Good K)
include G
end
end Go.Cx
namespace Go.Proofs.YtlhicnfeajejhaaGreatDoor
open Go.RowKit Go.Cx
theorem kEq (v u:Value) (r c:Nat) (l:List Int) (w:World) (h:(Mok.mat r c l).holds v w) (k:(Mok.mat r c l).holds u w) (hr:r<=200) (hc:c<=200) (hl:l.length=r*c):Calls Tryz.prog 53 #[v,u] w (Gvs .tt w):=by
 obtain⟨x,rfl,hx⟩:=h;obtain⟨y,rfl,hy⟩:=k;refine(qql r c x y l l w hx hy hr hc hl hl).mono ?_;rintro e w' ⟨q,rfl,hq,hb⟩;exact⟨_,rfl,congrArg Value.bool (hq.2 rfl),hb⟩
end Go.Proofs.YtlhicnfeajejhaaGreatDoor
namespace Go.Proofs.YtlhicnfeajejhaaGreatDoor
open Go.RowKit Go.Cx
attribute [local go_sem ↓] Go.wp_at_zero Go.wp_at_succ
section
variable {P:Program} {Q:Exit->Act->World->Prop} {o:Oper} {a:Act} {w:World} {k:Mok}
end
theorem q1v:∀ args w,(callFunc 54 args).run Tryz.prog w = .ok (.enter 54 args) w:=k8 Tryz.func54 (by kernel_rfl) (by kernel_rfl)
theorem q9l:∀ args w,(callFunc 53 args).run Tryz.prog w = .ok (.enter 53 args) w:=k8 Tryz.func53 (by kernel_rfl) (by kernel_rfl)
theorem qpo (v:Value) (l:List Ce) (id:Int) (w:World) (h:Sl w 3 v (cat Ce.enc l)) (hl:l.length<=1000000) (hs:l.Pairwise fun x y=>x.id < y.id) (dA:∀ x∈l,x.id≠id) :
  Calls Tryz.prog 84 #[v,.int .i64 id] w fun e w'=>e = .returned (.int .i64 (-1))/\Below w.heap.size w w':=by
 obtain⟨a,n,cap,rfl⟩:=qg h;have hlen:l.length=n:=by
  obtain⟨_,_,h3,_⟩:=h.open;rw[qt Ce.qp] at h3;omega
 obtain⟨eI,kJ,_⟩:=h.open;unfold maxLen at kJ;rw[hlen] at hl;have hlt:∀ (i j:Nat) (x y:Ce),l[i]? = some x->l[j]? = some y->i < j->x.id < y.id:=fun i j x y hx hy dS=>by
  obtain⟨hj,cX⟩:=gc.1 hx;obtain⟨hk,bJ⟩:=gc.1 hy;have:=gG.1 hs i j hj hk dS
  rwa [cX,bJ] at this
 have ak:∀ (i:Nat) (x:Ce),l[i]? = some x->x.id≠id:=fun i x hx=>dA x (gd hx)
 have HH:=lhd (aiq h (aiq hlen (aiq hlt ak)));clear h hlen hlt hs dA ak;go_enter Tryz.func84,Tryz.ntmps84;go_wp2_with fail;go_loopw [5,6] (fun p q wr=>∃ lo hi:Nat,p = .int .i64 lo/\q = .int .i64 hi/\lo<=hi/\hi<=n/\Hid ((∀ j y,l[j]? = some y->j < lo->y.id < id)/\∀ j y,l[j]? = some y->hi<=j->id < y.id)/\Below w.heap.size w wr) (fun p q _=>(vI q).toNat - (vI p).toNat)
 case atStart=>exact⟨0,n,rfl,rfl,gp _,nlr _,(show Hid _ from⟨fun j y _ hj=>by omega,fun j y hy hj=>by have:=(gc.1 hy).1;rw[HH.out.2.1] at this;omega⟩),Below.refl _ _⟩
 case round =>
  obtain⟨lo,hi,rfl,rfl,h1,h3,HI,hB⟩:=hrel;by_cases Mw:lo < hi
  ·obtain⟨ad,aM⟩ : ∃ ad,a=some ad:=by
    cases a with
    | none=>have:=HH.out.1.open.2.2.2.1 rfl;omega
    | some ad=>exact⟨ad,rfl⟩
   subst aM;obtain⟨_,_,_,_,h6⟩:=HH.out.1.open;obtain⟨m,hm⟩ : ∃ m,m=(lo+hi) / 2:=⟨_,rfl⟩
   have cO:lo<=m/\m < hi:=by omega
   obtain⟨y,hy⟩ : ∃ y,l[m]? = some y:=⟨_,g8 (by rw[HH.out.2.1];omega)⟩
   have d0:wr.cell? (ad.add (m*3))=some (.int .i64 y.id):=Cx.q8 hB (h6 ad rfl _ _ (zh l m y hy).1);have fQ:IntKind.i64.wrap ((lo:Int)+hi)=(lo:Int)+hi:=IntWalk.i64_in _ (by omega);have hq:((lo:Int)+hi).tdiv 2=(m:Int):=by rw[Int.tdiv_eq_ediv_of_nonneg (by omega)];omega
   have iF:((lo:Int)+hi) / 2=(m:Int):=by omega
   have IP:(m:Int) < n:=by omega
   have ly:IntKind.i64.wrap (m:Int)=(m:Int):=IntWalk.i64_in _ (by omega);have nE:=lhd hy;clear h6 hy hm;by_cases hc:y.id < id
   ·have HC:=lhd hc;go_wp2;go_roundw
    case measure=>simp[vI];omega
    case rel =>
     refine⟨m+1,hi,qh (by omega),rfl,by omega,h3,(show Hid _ from⟨fun j z hz hj=>?_,HI.out.2⟩),hB⟩;rcases gL j m with h | h
     ·exact Int.lt_trans (HH.out.2.2.1 j m z y hz nE.out h) HC.out
     ·have mU:j=m:=by omega
      subst mU;have:=nE.out;rw[hz] at this;cases this;exact HC.out
   ·have HC:=lhd hc;go_wp2;go_roundw
    case measure=>simp[vI];omega
    case rel =>
     refine⟨lo,m,rfl,rfl,cO.1,by omega,(show Hid _ from⟨HI.out.1,fun j z hz hj=>?_⟩),hB⟩;have iC:id < y.id:=by
      have h4:=HH.out.2.2.2 m y nE.out;have h5:=HC.out;omega
     rcases gL m j with h | h
     ·exact Int.lt_trans iC (HH.out.2.2.1 m j y z nE.out hz h)
     ·have mU:j=m:=by omega
      subst mU;have:=nE.out;rw[hz] at this;cases this;exact iC
  ·by_cases fS:lo < n
   ·obtain⟨ad,aM⟩ : ∃ ad,a=some ad:=by
     cases a with
     | none=>have:=HH.out.1.open.2.2.2.1 rfl;omega
     | some ad=>exact⟨ad,rfl⟩
    subst aM;obtain⟨_,_,_,_,h6⟩:=HH.out.1.open;obtain⟨y,hy⟩ : ∃ y,l[lo]? = some y:=⟨_,g8 (by rw[HH.out.2.1];omega)⟩
    have d0:wr.cell? (ad.add (lo*3))=some (.int .i64 y.id):=Cx.q8 hB (h6 ad rfl _ _ (zh l lo y hy).1);have mX:(y.id == id)=false:=by simpa using HH.out.2.2.2 lo y hy
    have K7:(lo:Int) < n:=by omega
    clear h6 hy;go_wp2;go_ret;exact⟨rfl,hB⟩
   ·have K7:¬ (lo:Int) < n:=by omega
    go_wp2;go_ret;exact⟨rfl,hB⟩
theorem q4v {K:List Cl} (G:Cx.Good K):qc5 K=K:=by
 unfold qc5;rw[qap G.asc,qkz (G.asc.map (fun x=>⟨x.id,x.dim,zx x.s⟩) fun _=>rfl) none (fun _ _ e=>by cases e)]
 conv=>rhs;rw[<-List.map_id K]
 refine List.map_congr_left fun x hx=>?_
 show (⟨x.id,x.dim,zx x.s⟩ : Cl)=x;rw[qek ((G.sasc x hx).imp fun h=>by omega)]
theorem qok (v:Value) (l:List Ce) (id:Int) (w:World) (h:SlC w v l) (hl:l.length<=1000000) (aX:∀ x∈l,x.s.length<=1099511627776) (G:Cx.Good (l.map Ce.cl)) :
  Calls Tryz.prog 119 #[.agg #[v],.int .i64 id] w fun e w'=>Below w.heap.size w w' ∧
   ((∃ x:Ce,e = .returned (.tuple #[.agg #[.int .i64 x.id,.int .i64 x.dim,x.sl],.bool true])/\x.cl∈l.map Ce.cl/\x.id=id/\Sl w' 2 x.sl (cat Sd.enc x.s)) ∨
   ((∀ x∈l,x.id≠id)/\e = .returned (.tuple #[.agg #[.int .i64 0,.int .i64 0,.slice none 0 0],.bool false]))):=by
 obtain⟨a,len,cap,rfl⟩:=qg h.1;have HH:=lhd (h.mono fun p u hc=>qk hc (.cells #[.slice a len cap] 26));have jH:=lhd aX;have HG:=lhd G;clear h aX G;go_enter Tryz.func119,Tryz.ntmps119;go_wp2_with fail;obtain⟨W,hW⟩ : ∃ W:World,W=(w.alloc (.cells #[.slice a len cap] 26)).alloc (.cells #[.int .i64 0,.int .i64 0,.slice none 0 0] 75):=⟨_,rfl⟩
 rw[<-hW];have DR:SlC W (.slice a len cap) l:=by rw[hW];exact HH.out.mono fun p u hc=>qk hc _
 have hw:Below w.heap.size w W:=by rw[hW];exact((Below.refl _ _).alloc (nlr _) _).alloc (by simp) _
 have hz:w.heap.size+2=W.heap.size:=by rw[hW];simp
 have f0:W.frozen? ⟨w.heap.size+1,0,none⟩=false:=by
  rw[hW];simp
 have f1:W.frozen? ⟨w.heap.size+1,1,none⟩=false:=by
  rw[hW];simp
 have f2:W.frozen? ⟨w.heap.size+1,2,none⟩=false:=by
  rw[hW];simp
 have b0:W.cell? ⟨w.heap.size+1,0,none⟩=some (.int .i64 0):=by
  rw[hW];simp
 have b1:W.cell? ⟨w.heap.size+1,1,none⟩=some (.int .i64 0):=by
  rw[hW];simp
 have b2:W.cell? ⟨w.heap.size+1,2,none⟩=some (.slice none 0 0):=by
  rw[hW];simp
 clear hW HH;refine(qdz _ l _ DR (by omega) jH.out).mono ?_;rintro e w1 ⟨r,M,rfl,hM,hR,ai⟩;rw[q4v HG.out] at hM;have eV:M.length=l.length:=by have:=congrArg List.length hM;simpa using this
 have eF:M.Pairwise fun x y=>x.id < y.id:=by
  have h3:=HG.out.asc;rw[<-hM] at h3;exact(List.pairwise_map (f:=Ce.cl) (R:=fun x y:Cl=>x.id < y.id)).1 h3
 obtain⟨ma,mc,fM⟩:=qj hR.1;subst fM;have g0:=qv ai (by show w.heap.size+1 < _;omega) f0;have g1:=qv ai (by show w.heap.size+1 < _;omega) f1;have g2:=qv ai (by show w.heap.size+1 < _;omega) f2;have bT:w.heap.size+2<=w1.heap.size:=by rw[hz];exact ai.size
 have j0:=Cx.q8 ai b0;have j1:=Cx.q8 ai b1;have j2:=Cx.q8 ai b2;have al:Below w.heap.size w w1:=hw.trans (ai.mono hw.size);have hS:=Sl.qc hR.1;have HM:=lhd (aiq hM eV);have HR:=lhd hR;have aN:=lhd (aiq al hz);clear hM hR ai hw f0 f1 f2 b0 b1 b2 DR al hz;by_cases hex:∃ x∈M,x.id=id
 ·obtain⟨x,K8,o5⟩:=hex;obtain⟨i0,hi0⟩:=gY K8;subst o5;have bK:=qnm _ M i0 x w1 hS (by omega) eF hi0;have iR:=lhd bK;have HX:=lhd (aiq K8 hi0);clear bK eF eV hS K8 hi0;go_wp2_with fail;refine iR.out.mono ?_;rintro e w2 ⟨rfl,ag⟩;have m0:=Cx.q8 ag j0;have m1:=Cx.q8 ag j1;have m2:=Cx.q8 ag j2;have k0:=qv ag (by show w.heap.size+1 < _;omega) g0;have k1:=qv ag (by show w.heap.size+1 < _;omega) g1;have k2:=qv ag (by show w.heap.size+1 < _;omega) g2;obtain⟨eI,kJ,_,h5,h6⟩:=(Sl.qc HR.out.1).open;obtain⟨ad,aM⟩ : ∃ ad,ma=some ad:=by
   cases ma with
   | none =>
    have:=h5 rfl;have:=(gc.1 HX.out.2).1;omega
   | some ad=>exact⟨ad,rfl⟩
  subst aM;obtain⟨q0,q1,q2⟩:=zh M i0 x HX.out.2;have d0:w2.cell? (ad.add (i0*3))=some (.int .i64 x.id):=Cx.q8 ag (h6 ad rfl _ _ q0);have d1:w2.cell? ⟨(ad.add (i0*3)).block,(ad.add (i0*3)).off+1,none⟩=some (.int .i64 x.dim):=by rw[qi _ _ _ (by omega)];exact Cx.q8 ag (h6 ad rfl _ _ q1)
  have d2:w2.cell? ⟨(ad.add (i0*3)).block,(ad.add (i0*3)).off+2,none⟩=some (.slice x.a x.n x.c):=by rw[qi _ _ _ (by omega)];exact Cx.q8 ag (h6 ad rfl _ _ q2)
  have dN:(i0:Int) < M.length:=by have:=(gc.1 HX.out.2).1;omega
  have hi1:¬ ((i0:Int) < 0):=by omega
  have aF:=lhd ag;clear g0 g1 g2 j0 j1 j2 ag q0 q1 q2 h5 h6 eI kJ;go_wp2;have aw:Below w.heap.size w w2:=aN.out.1.trans (aF.out.mono (by omega));refine bodyPost_ret (v:=.tuple #[.agg #[.int .i64 x.id,.int .i64 x.dim,x.sl],.bool true]) ?_ rfl ⟨((aw.setCell (by simp) _).setCell (by simp) _).setCell (by simp) _,.inl ⟨x,rfl,?_,rfl,?_⟩⟩
  ·simp[results,Tryz.results119,go_sem,m0,m1,m2,Ce.sl]
  ·rw[<-HM.out.1];exact go.2 ⟨x,HX.out.1,rfl⟩
  ·have h7:=qa (HR.out.2 x HX.out.1) aF.out;exact Sl.qc (ownsRow_setCell_below (ownsRow_setCell_below (ownsRow_setCell_below h7 (by have:=aN.out.2;show w.heap.size+1 < _;omega) _) (by have:=aN.out.2;show w.heap.size+1 < _;omega) _) (by have:=aN.out.2;show w.heap.size+1 < _;omega) _)
 ·have dA:∀ x∈M,x.id≠id:=fun x hx he=>hex ⟨x,hx,he⟩
  have bK:=qpo _ M id w1 hS (by omega) eF dA;have iR:=lhd bK;have Fc:=lhd dA;clear bK eF dA hex eV hS;go_wp2_with fail;refine iR.out.mono ?_;rintro e w2 ⟨rfl,ag⟩;have m0:=Cx.q8 ag j0;have m1:=Cx.q8 ag j1;have m2:=Cx.q8 ag j2;have k0:=qv ag (by show w.heap.size+1 < _;omega) g0;have k1:=qv ag (by show w.heap.size+1 < _;omega) g1;have k2:=qv ag (by show w.heap.size+1 < _;omega) g2;have aF:=lhd ag;clear g0 g1 g2 j0 j1 j2 ag;go_wp2;have aw:Below w.heap.size w w2:=aN.out.1.trans (aF.out.mono (by omega));refine bodyPost_ret (v:=.tuple #[.agg #[.int .i64 0,.int .i64 0,.slice none 0 0],.bool false]) ?_ rfl ⟨((aw.setCell (by simp) _).setCell (by simp) _).setCell (by simp) _,.inr ⟨fun x hx he=>?_,rfl⟩⟩
  ·simp[results,Tryz.results119,go_sem,m0,m1,m2]
  have h8:x.cl∈M.map Ce.cl:=by rw[HM.out.1];exact go.2 ⟨x,hx,rfl⟩
  obtain⟨y,hy,nD⟩:=go.1 h8;exact Fc.out y hy (by rw[<-he];exact congrArg Cl.id nD)
def atP (pl:Nat) (p:Int×Int):Int:=if pl=0 then p.1 else p.2
theorem qj9 (v:Value) (ps:List (Int×Int)) (pl:Nat) (id:Int) (w:World) (h:Sl w 2 v (pv ps)) (hl:ps.length<=1000000) (hp:pl < 2) :
  Calls Tryz.prog 159 #[v,.int .i64 pl,.int .i64 id] w fun e w'=>∃ z:Int,e = .returned (.int .i64 z)/\((z = -1/\∀ p∈ps,atP pl p≠id)\/∃ (i:Nat) (p:Int×Int),z=i/\ps[i]? = some p/\atP pl p=id/\∀ (j:Nat) (q:Int×Int),j < i->ps[j]? = some q->atP pl q≠id)/\Below w.heap.size w w':=by
 obtain⟨a,n,cap,rfl⟩:=qg h;have hlen:ps.length=n:=by
  obtain⟨_,_,h3,_⟩:=h.open;rw[kf] at h3;omega
 obtain⟨eI,kJ,_⟩:=h.open;unfold maxLen at kJ;rw[hlen] at hl;have HH:=lhd (aiq h hlen);clear h hlen;go_enter Tryz.func159,Tryz.ntmps159;go_wp2_with fail;go_loopw [7] (fun p wr=>∃ k:Nat,p = .int .i64 k/\k<=n/\Hid (∀ (j:Nat) (q:Int×Int),j < k->ps[j]? = some q->atP pl q≠id)/\Below w.heap.size w wr) (fun p _=>n - (vI p).toNat)
 case atStart=>exact⟨0,rfl,gp _,(show Hid _ from fun j q hj=>by omega),Below.refl _ _⟩
 case round =>
  obtain⟨k,rfl,hk,HK,hB⟩:=hrel;by_cases hlt:k < n
  ·obtain⟨y,hy⟩ : ∃ y,ps[k]? = some y:=⟨_,g8 (by rw[HH.out.2];omega)⟩
   obtain⟨_,_,_,h5,h6⟩:=HH.out.1.open;obtain⟨ad,aM⟩ : ∃ ad,a=some ad:=by
    cases a with
    | none=>have:=h5 rfl;omega
    | some ad=>exact⟨ad,rfl⟩
   subst aM;have hg:=kv ps k y hy;have d0:wr.cell? ((ad.add (k*2)).add pl)=some (.int .i64 (atP pl y)):=by
    rcases (by omega:pl=0\/pl=1) with rfl | rfl
    ·rw[show (ad.add (k*2)).add 0=ad.add (k*2) from rfl];exact Cx.q8 hB (h6 ad rfl _ _ hg.1)
    ·rw[show (ad.add (k*2)).add 1=⟨(ad.add (k*2)).block,(ad.add (k*2)).off+1,none⟩ from rfl,qi _ _ _ (by omega)];exact Cx.q8 hB (h6 ad rfl _ _ hg.2)
   have cD:(pl:Int) < 2:=by omega
   have HY:=lhd hy;clear h5 h6 hy hg;by_cases he:atP pl y=id
   ·have hb:(atP pl y == id)=true:=by simpa using he
    have HE:=lhd he;clear he;go_wp2;go_ret;exact⟨_,rfl,.inr ⟨k,y,rfl,HY.out,HE.out,HK.out⟩,hB⟩
   ·have hb:(atP pl y == id)=false:=by simpa using he
    have HE:=lhd he;clear he;go_wp2;go_roundw
    case measure=>simp[vI];omega
    case rel =>
     refine⟨k+1,qh (by omega),by omega,(show Hid _ from fun j q hj hq=>?_),hB⟩;rcases gL j k with h | h
     ·exact HK.out j q h hq
     ·rw[show j=k by omega,HY.out] at hq;cases hq
      exact HE.out
  ·go_wp2;go_ret;refine⟨_,rfl,.inl ⟨rfl,fun p hx=>?_⟩,hB⟩;obtain⟨j,hj⟩:=gY hx;exact HK.out j p (by have:=(gc.1 hj).1;rw[HH.out.2] at this;omega) hj
theorem qja (v:Value) (ps:List (Int×Int)) (id:Int) (w:World) (h:Sl w 2 v (pv ps)) (hl:ps.length<=1000000) :
  Calls Tryz.prog 107 #[v,.int .i64 id] w fun e w'=>∃ q:Bool,e = .returned (.bool q)/\(q=true↔∃ p∈ps,p.1=id\/p.2=id)/\Below w.heap.size w w':=by
 have HH:=lhd h;have hp:=qj9 v ps 0 id w h hl (by omega);have HP:=lhd hp;clear h hp;go_enter Tryz.func107,Tryz.ntmps107;go_wp2_with fail;refine HP.out.mono ?_;rintro e w1 ⟨z,rfl,hz,hb⟩;rcases hz with ⟨rfl,hn⟩ | ⟨i,p,rfl,hi,ha,_⟩
 ·have HN:=lhd hn;have HB:=lhd hb;have hp:=qj9 v ps 1 id w1 (HH.out.q8 hb) hl (by omega);have Uu:=lhd hp;clear hn hb hp;go_wp2_with fail;refine Uu.out.mono ?_;rintro e w2 ⟨z,rfl,hz,ag⟩;have hB:Below w.heap.size w w2:=HB.out.trans (ag.mono HB.out.size);rcases hz with ⟨rfl,ir⟩ | ⟨i,p,rfl,hi,ha,_⟩
  ·have M3:=lhd ir;have aF:=lhd hB;clear ir ag hB;go_wp2;go_ret;exact⟨_,rfl,⟨fun h=>by simp at h,fun ⟨p,hp,hq⟩=>hq.elim (fun e=>absurd e (HN.out p hp)) (fun e=>absurd e (M3.out p hp))⟩,aF.out⟩
  ·have HX:=lhd (aiq (gd hi) ha);have aF:=lhd hB;have hi0:(0:Int)<=(i:Int):=by omega
   clear hi ha ag hB;go_wp2;go_ret;exact⟨_,rfl,⟨fun _=>⟨p,HX.out.1,.inr HX.out.2⟩,fun _=>by simp⟩,aF.out⟩
 ·have HX:=lhd (aiq (gd hi) ha);have HB:=lhd hb;have hi0:(0:Int)<=(i:Int):=by omega
  clear hi ha hb;go_wp2;go_ret;exact⟨_,rfl,⟨fun _=>⟨p,HX.out.1,.inl HX.out.2⟩,fun _=>by simp⟩,HB.out⟩
theorem qpp {l:List Sd} (h:l.Pairwise fun s t=>s.c < t.c) {s:Sd} (hs:s∈l):se l s.c=s.g:=by
 induction l with
 | nil=>cases hs
 | cons a l ih =>
  obtain⟨h1,h2⟩:=gx.1 h;show (if a.c=s.c then a.g else 0)+se l s.c=_;rcases gt.1 hs with rfl | hs
  ·rw[if_pos rfl,q9b fun t ht=>by have:=h1 t ht;omega];simp
  ·rw[if_neg (by have:=h1 s hs;omega),ih h2 hs];simp
theorem qjb (v:Value) (l:List Ce) (low high:Int) (w:World) (h:SlC w v l) (hl:l.length<=1000000) (aX:∀ x∈l,x.s.length<=1099511627776) (G:Cx.Good (l.map Ce.cl)) :
  Calls Tryz.prog 114 #[.agg #[v],.int .i64 low,.int .i64 high] w fun e w'=>e = .returned (.int .i64 (sgn (l.map Ce.cl) high low))/\Below w.heap.size w w':=by
 obtain⟨a,len,cap,rfl⟩:=qg h.1;have jH:=lhd aX;have HG:=lhd G;have DR:SlC (w.alloc (.cells #[.slice a len cap] 26)) (.slice a len cap) l:=h.mono fun p u hc=>qk hc _
 have hf:=qok _ l high _ DR hl aX G;have HF:=lhd hf;clear h aX G DR hf;go_enter Tryz.func114,Tryz.ntmps114;go_wp2_with fail;refine HF.out.mono ?_;rintro e w1 ⟨ai,fN⟩;rcases fN with ⟨x,rfl,mN,rfl,iz⟩ | ⟨dA,rfl⟩
 ·have s7:zq (l.map Ce.cl) x.id=x.s:=q0b HG.out.asc mN;have Pw:x.s.Pairwise fun s t=>s.c < t.c:=HG.out.sasc _ mN
  have tg:Sl w1 2 (.slice x.a x.n x.c) (cat Sd.enc x.s):=iz;have hn:x.s.length=x.n:=by
   obtain⟨_,_,h3,_⟩:=tg.open;rw[qt Sd.qp] at h3;omega
  obtain⟨_,p2,_⟩:=tg.open;unfold maxLen at p2;have aV:Below w.heap.size w w1:=((Below.refl _ w).alloc (nlr _) _).trans (ai.mono (by simp));have bL:=aV.size;have HX:=lhd (aiq s7 (aiq Pw (aiq tg (aiq hn aV))));unfold Ce.sl;clear s7 Pw tg iz hn aV ai mN;go_wp2;obtain⟨W,hW⟩ : ∃ W,W=w1.alloc (.cells #[.int .i64 x.id,.int .i64 x.dim,.slice x.a x.n x.c] 75):=⟨_,rfl⟩
  rw[<-hW];have aK:Below w.heap.size w W:=by rw[hW];exact HX.out.2.2.2.2.alloc bL _
  have b2:W.cell? ⟨w1.heap.size,2,none⟩=some (.slice x.a x.n x.c):=by rw[hW];exact qd w1 _ _ (0,0) 2
  have hS:Sl W 2 (.slice x.a x.n x.c) (cat Sd.enc x.s):=by rw[hW];exact HX.out.2.2.1.alloc _
  have HW:=lhd (aiq aK (aiq b2 hS));clear hW aK b2 hS;go_loopw [9] (fun p wr=>∃ k:Nat,p = .int .i64 k/\k<=x.n/\Hid (∀ (j:Nat) (s:Sd),j < k->x.s[j]? = some s->s.c≠low)/\Below W.heap.size W wr) (fun p _=>x.n - (vI p).toNat)
  case atStart=>exact⟨0,rfl,gp _,(show Hid _ from fun j q hj=>by omega),Below.refl _ _⟩
  case round =>
   obtain⟨k,rfl,hk,HK,aL⟩:=hrel;have b2:=Cx.q8 aL HW.out.2.1;have hB:Below w.heap.size w wr:=HW.out.1.trans (aL.mono HW.out.1.size);have DS:=lhd hB;clear hB;by_cases hlt:k < x.n
   ·obtain⟨y,hy⟩ : ∃ y,x.s[k]? = some y:=⟨_,g8 (by rw[HX.out.2.2.2.1];omega)⟩
    obtain⟨_,_,_,h5,h6⟩:=HW.out.2.2.open;obtain⟨ad,aM⟩ : ∃ ad,x.a=some ad:=by
     cases hxa:x.a with
     | none=>have:=h5 hxa;omega
     | some ad=>exact⟨ad,rfl⟩
    have hg:=zw x.s k y hy;have d0:wr.cell? (ad.add (k*2))=some (.int .i64 y.c):=Cx.q8 aL (h6 ad aM _ _ hg.1);have d1:wr.cell? ⟨(ad.add (k*2)).block,(ad.add (k*2)).off+1,none⟩=some (.int .i64 y.g):=by rw[qi _ _ _ (by omega)];exact Cx.q8 aL (h6 ad aM _ _ hg.2)
    rw[aM] at b2;have HY:=lhd (aiq hy aM);clear h5 h6 hy aM hg;by_cases he:y.c=low
    ·have hb:(y.c == low)=true:=by simpa using he
     have HE:=lhd he;clear he;go_wp2;go_ret;refine⟨?_,DS.out⟩;unfold sgn;rw[HX.out.1,<-qcp HX.out.2.1,<-HE.out,qpp HX.out.2.1 (gd HY.out.1)];rfl
    ·have hb:(y.c == low)=false:=by simpa using he
     have HE:=lhd he;clear he;go_wp2;go_roundw
     case measure=>simp[vI];omega
     case rel =>
      refine⟨k+1,qh (by omega),by omega,(show Hid _ from fun j q hj hq=>?_),aL⟩;rcases gL j k with h | h
      ·exact HK.out j q h hq
      ·rw[show j=k by omega,HY.out.1] at hq;cases hq
       exact HE.out
   ·go_wp2;go_ret;refine⟨?_,DS.out⟩;unfold sgn;rw[HX.out.1,<-qcp HX.out.2.1,q9b fun s hs=>by
     obtain⟨j,hj⟩:=gY hs;exact HK.out j s (by have:=(gc.1 hj).1;rw[HX.out.2.2.2.1] at this;omega) hj]
    rfl
 ·have aN:=lhd ai;clear ai;have hz:sgn (l.map Ce.cl) high low=0:=by
   unfold sgn;rw[q0n (by
    unfold jv;rw[List.any_eq_false];intro y hy;obtain⟨z,hz,rfl⟩:=go.1 hy;simpa [Ce.cl] using dA z hz)]
   rfl
  have HZ:=lhd hz;clear dA hz;go_wp2;have aV:Below w.heap.size w w1:=((Below.refl _ w).alloc (nlr _) _).trans (aN.out.mono (by simp));have bL:=aV.size;have i7:=lhd aV;clear aV;go_loopw [9] (fun p wr=>p = .int .i64 0/\wr.cell? ⟨w1.heap.size,2,none⟩=some (.slice none 0 0)/\Below w.heap.size w wr) (fun _ _=>0)
  case atStart=>exact⟨rfl,by simp,i7.out.alloc bL _⟩
  case round =>
   obtain⟨rfl,c2,hB⟩:=hrel;go_wp2;go_ret;refine⟨?_,hB⟩;rw[HZ.out];rfl
end Go.Proofs.YtlhicnfeajejhaaGreatDoor
