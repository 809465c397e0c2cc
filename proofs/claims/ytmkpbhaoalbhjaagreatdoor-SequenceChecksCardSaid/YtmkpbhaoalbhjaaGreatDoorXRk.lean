/- Steps towards SequenceChecks. Conditions: none. -/
import Derived.Test.YtmkpbhaoalbhjaaGreatDoorXRe
import Derived.Test.YtmkpbhaoalbhjaaGreatDoorXRj
set_option maxRecDepth 1000000
set_option maxHeartbeats 0
open Go.Value renaming slice→O,agg→I,pointer→σ,bool→τ,int→H
open Option renaming none→Z,some→Y
open Go renaming undef→V,World→δ,Value→ε
open Go.IntKind renaming i64→φ
open Go.Cx renaming keep→J
namespace Go.Proofs.YtmkpbhaoalbhjaaGreatDoor
open Go.RowKit Go.Cx
attribute [local go_sem ↓] Go.wp_at_zero Go.wp_at_succ
theorem q0w (w:δ)(ad:Addr)(n c k:Nat)(hk:k<n):(Instr.indexAt 23 (O (Y ad) n c) k).run Tryz.prog w=.ok (σ (Y (ad.add k))) w:=by
 have h1:(0:Int)<=(k:Int):=by omega
 have h2:(k:Int)<n:=by omega
 simp[go_sem,h1,h2]
theorem qp6 {p:Int}{r m:Nat}{M:List (List Int)}(h:FM p r m M){l:List Nat}(hl:∀j∈l,j<m):FM p r l.length (q3v M l) where
 len:=by unfold q3v;rw[gp,h.len]
 wid x hx:=by obtain⟨y,_,rfl⟩:=gj.1 hx;exact gp ..
 res x hx:=by obtain⟨y,hy,rfl⟩:=gj.1 hx;intro n hn;obtain⟨j,hj,rfl⟩:=gj.1 hn;have h1:=h.wid y hy;exact h.res y hy _ (gi (q09 (by rw[h1];exact hl j hj)))
theorem qih {p:Int}{r m:Nat}{M:List (List Int)}(h:FM p r m M){l:List Nat}{i k q:Nat}(hi:i<r)(hq:l[k]? =Y q):j6 (zm (q3v M l) i) k=j6 (zm M i) q:=by
 have e:zm (q3v M l) i=l.map fun j=>j6 (zm M i) j:=by
  have h1:(q3v M l)[i]? =Y (l.map fun j=>j6 (zm M i) j):=by unfold q3v;rw[List.getElem?_map,q1k (by rw[h.len];exact hi)];rfl
  unfold zm;rw[gb,h1];rfl
 rw[e];unfold j6;rw[gb,List.getElem?_map,hq];rfl
theorem qtj (p:Int)(r m:Nat)(v:ε)(M:List (List Int))(w:δ)(h:Sl w 1 v (ints M.flatten))(hp:prI p=true)(hM:FM p r m M)(hr:r<=400)(hm:m<=400) :
  Calls Tryz.prog 87 #[I #[H φ p,H φ r,H φ m,v]] w fun e w'=>∃E,e=.returned (I #[H φ p,H φ r,H φ (q2r p m M),O (Y ⟨E,0,Z⟩) (r*q2r p m M) (r*q2r p m M)])/\w.heap.size<=E/\E<w'.heap.size/\IL w' E (qnz p m M).flatten/\Below w.heap.size w w':=by
 obtain⟨jL,iR,eP⟩:=q3r hp;obtain⟨va,vn,vc,rfl⟩:=qg h;have mR:vn=r*m:=by have:=h.open.2.2.1;rw[xl,hM.q1d]at this;omega
 obtain⟨_,tw,jP,_⟩:=q0s (show 0<p by omega) hM;have HO:=kg h hp hM mR jP;obtain⟨L,hL⟩:=x4 ((jk p m M).2.length);have Ku:L=q2r p m M:=hL;rw[<-Ku];rw[<-hL]at tw;have HL:=jg hL Ku;clear h hM eP hp mR jP hL Ku;go_enter Tryz.func87,Tryz.ntmps87;go_wp2_with fail;obtain⟨W0,aB⟩:=x4 ((w.alloc (.cells #[p,r,m,O va vn vc] 30)).alloc (.cells #[H φ 0,H φ 0,H φ 0,O Z 0 0] 30));have fe:Below w w W0:=by rw[aB];exact((q9).alloc (nlr _) _).alloc (by simp) _
 have dg:W0.heap.size=w+2:=by rw[aB];simp
 have p0:W0 w=p:=by rw[aB];exact qk (xz w _ _ 0 rfl) _
 have p1:W0 ⟨w,1,Z⟩=r:=by rw[aB];exact qk (xz w _ _ 1 rfl) _
 have p2:W0 ⟨w,2,Z⟩=m:=by rw[aB];exact qk (xz w _ _ 2 rfl) _
 have p3:W0 ⟨w,3,Z⟩=O va vn vc:=by rw[aB];exact qk (xz w _ _ 3 rfl) _
 have q0:W0 (w+1:Nat)=H φ 0:=by rw[aB];exact zx w _ _ _ 0 rfl
 have q1:W0 ⟨w+1,1,Z⟩=H φ 0:=by rw[aB];exact zx w _ _ _ 1 rfl
 have q2:W0 ⟨w+1,2,Z⟩=H φ 0:=by rw[aB];exact zx w _ _ _ 2 rfl
 have q3:W0 ⟨w+1,3,Z⟩=O Z 0 0:=by rw[aB];exact zx w _ _ _ 3 rfl
 have qz:∀i,W0.frozen? ⟨w+1,i,Z⟩=false:=fun i=>by rw[aB];exact vo w _ _ _ i
 rw[<-aB];have H0:=qb4 fe dg q0 q1 q2 q3 qz p0 p1 p2 p3;clear aB fe dg q0 q1 q2 q3 qz;refine(q9t p r m (O va vn vc) M W0 (HO.out.1.keep H0.out.1) HO.a1 HO.a2 hr hm).mono ?_;rintro e w2 ⟨sv,u,rfl,hR,hO,aj⟩;obtain⟨sa,sc,dI⟩:=hR.shape;obtain⟨N,hN⟩:=x4 (r*m);rw[<-hN]at dI;subst dI;rw[<-HL.out.1]at hO;obtain⟨ua,uc,hu⟩:=qj hO;subst hu;have DE:=Sl.qc hO;have H2:=yh DE aj hN
 replace p0:=J aj p0
 replace p1:=J aj p1
 clear hR hO aj DE hN p2 p3;have Kv:∀o,(w2.alloc o) w=p:=fun o=>qk p0 o
 have CU:∀o,(w2.alloc o) ⟨w,1,Z⟩=r:=fun o=>qk p1 o
 have zV:¬(p=0):=by omega
 have zW:(p == 0)=false:=by simpa using zV
 go_wp2_with fail;refine(qid p r L HO.a1 hr (by omega) _).mono ?_;rintro e w3 ⟨E,rfl,dr,dN,hI,aw⟩;obtain⟨K,hK⟩:=x4 (r*L);rw[<-hK]at hI ⊢;have sh:Below w2 w2 w3:=(bal w2 _).trans (aw.mono (by simp));rw[World.size_alloc]at dr;have H3:=kg sh dr dN hI hK;clear aw dr dN hI hK sh p0 p1 Kv CU;have J9:∀o,(w3.alloc o) ⟨w,1,Z⟩=r:=fun o=>qk (J H3.out.1 (J H2.a1 H0.a8)) o
 go_wp2_with fail;obtain⟨B5,aS⟩:=x4 w3.heap.size;rw[<-aS];obtain⟨W,hW⟩:=x4 (w3.alloc (.cells #[p,r,L,O E K K] 30));rw[<-hW];have b0:W B5=p:=by rw[hW,aS];exact xz w3 _ _ 0 rfl
 have b1:W ⟨B5,1,Z⟩=r:=by rw[hW,aS];exact xz w3 _ _ 1 rfl
 have b2:W ⟨B5,2,Z⟩=L:=by rw[hW,aS];exact xz w3 _ _ 2 rfl
 have b3:W ⟨B5,3,Z⟩=O E K K:=by rw[hW,aS];exact xz w3 _ _ 3 rfl
 have aJ:Below W0 W0 w3:=(btr H2.a1 H3.out.1);have bV:Below W0 W0 W:=by rw[hW];exact aJ.alloc aJ.size _
 have aw:Below w3 w3 W:=by rw[hW];exact(q9).alloc (nlr _) _
 have jC:W=B5+1:=by rw[hW,aS];simp
 have si:E<B5/\w+2<E:=by have h1:=H2.a1.size;have h2:=H0.a1;have h3:=H3.a1;have h4:=H3.a2;omega
 have pt:IL W E (List.replicate K 0):=H3.a3.keep aw H3.a2;have NY:Sl W 1 (O ua L uc) (ints (nI (jk p m M).2)):=(H2.out.1.keep H3.out.1).keep aw;have nh:Sl W 1 (O va vn vc) (ints M.flatten):=(HO.out.1.keep H0.out.1).keep bV;have t1:W ⟨w,1,Z⟩=r:=J bV H0.a8;have t2:W ⟨w,2,Z⟩=m:=J bV H0.a9;have t3:W ⟨w,3,Z⟩=O va vn vc:=J bV H0.b10;have uN:Below w2 w2 W:=(btr H3.out.1 aw);have HW:=qhs b0 b1 b2 b3 t1 t2 t3 NY nh pt si jC bV uN;have HK:Hid (K=r*L):=H3.b4;have hC:FM p r L (qnz p m M):=by rw[HL.out.1];exact qp6 HO.a2 HO.b4
 have HC:=yh hC HO.a2 HO.a3;obtain⟨C,rI⟩:=x4 (qnz p m M);rw[<-rI]at HC;have NZ:=lhd rI;clear J9 hW aS b0 b1 b2 b3 t1 t2 t3 aJ bV uN aw jC si pt NY nh hC rI;go_loopw [27] (fun x wr=>∃i:Nat,x=i/\i<=r/\Hid (Bk E W wr)/\Hid (IL wr E (kt C.flatten (List.replicate K 0) (i*L)))) (fun x _=>r-(vI x).toNat)
 case atStart=>exact⟨0,rfl,gm _,(lhd (Bk.refl _ _)),(lhd (by rw[Nat.zero_mul,q17];exact HW.a9))⟩
 case round =>
  obtain⟨i,rfl,hi,HB,HI⟩:=hrel;obtain⟨wo,eE⟩:=x4 wr;subst eE;by_cases db:i<r
  ·have rJ:(i:Int)<r:=by omega
   go_wp2;go_loopw [32] (fun x wq=>∃k:Nat,x=k/\k<=L/\Hid (Bk E W wq)/\Hid (IL wq E (kt C.flatten (List.replicate K 0) (i*L+k)))) (fun x _=>L-(vI x).toNat)
   case atStart=>exact⟨0,rfl,gm _,HB,(lhd HI.out)⟩
   case round =>
    obtain⟨k,rfl,hk,aR,uO⟩:=hrel;by_cases aZ:k<L
    ·have Kw:(k:Int)<L:=by omega
     obtain⟨ad,q,rfl,hq,d0⟩:=q00 H2.out.1 aZ;obtain⟨qn,hqn,rfl⟩:∃qn:Nat,(jk p m M).2[k]? =Y qn/\q=(qn:Int):=by
      unfold nI at hq;rw[List.getElem?_map]at hq;cases hz:(jk p m M).2[k]? with
      |none=>rw[hz]at hq;cases hq
      |some z=>rw[hz]at hq;exact⟨z,rfl,(osi hq).symm⟩
     have oC:qn<m:=HO.b4 _ (gi hqn);have lV:i*L+k<K:=by rw[HK.out];exact q2x db aZ
     have iz:i*m+qn<vn:=by rw[HO.a3];exact q2x db oC
     obtain⟨zX,n,rfl,hn,d1⟩:=q00 HO.out.1 iz;have bZ:n=j6 (zm C i) k:=by rw[flat_get HO.a2.wid (by rw[HO.a2.len];exact db) oC]at hn;rw[NZ.out,show qnz p m M=q3v M (jk p m M).2 from rfl,qih HO.a2 db hqn];exact(osi hn).symm
     have BM:K<=160000:=by rw[HK.out];exact gd (Nat.mul_le_mul hr (show L<=400 by omega)) (by decide)
     have sq:vn<=160000:=by rw[HO.a3];exact gd (Nat.mul_le_mul hr hm) (by decide)
     have DF:IntKind.i64.wrap ((i:Int)*(L:Int))=((i*L:Nat):Int):=kd (by omega) (by omega);have zY:IntKind.i64.wrap (((i*L:Nat):Int)+(k:Int))=((i*L+k:Nat):Int):=by rw[<-Int.natCast_add];exact IntWalk.i64_in _ (by omega)
     have xE:IntKind.i64.wrap ((i:Int)*(m:Int))=((i*m:Nat):Int):=kd (by omega) (by omega);have sr:IntKind.i64.wrap (((i*m:Nat):Int)+(qn:Int))=((i*m+qn:Nat):Int):=by rw[<-Int.natCast_add];exact IntWalk.i64_in _ (by omega)
     have jD:B5≠E/\w≠E:=by have:=HW.a10;omega
     have c3:=aR.out.cell (p:=⟨B5,3,Z⟩) jD.1 HW.a3;have t2:=aR.out.cell (p:=⟨w,2,Z⟩) jD.2 HW.a5;have t3:=aR.out.cell (p:=⟨w,3,Z⟩) jD.2 HW.a6;have hlen:∀l:List Int,l.length=K->(kt C.flatten l (i*L+k)).length=K:=fun l hl=>by rw[q1p (by rw[HC.out.1.q1d,hl,HK.out])];exact hl
     have pA:(kt C.flatten (List.replicate K 0) (i*L+k))[i*L+k]? =Y 0:=by rw[q09 (by rw[hlen _ List.length_replicate];exact lV),q3h (by rw[HC.out.1.q1d,List.length_replicate,HK.out]) (by rw[List.length_replicate];exact lV)];unfold j6;rw[gb,List.getElem?_replicate,if_pos lV];rfl
     obtain⟨s1,s2⟩:=uO.out _ _ pA;have bR:(ad.add k).block≠E/\(zX.add (i*m+qn)).block≠E:=by have h1:=World.block_lt_of_cell? _ _ d0;have h2:=World.block_lt_of_cell? _ _ d1;have h3:=H3.a1;have h4:=HW.a10.2;omega
     replace d0:=aR.out.cell bR.1 (J HW.b13 d0)
     replace d1:=aR.out.cell bR.2 (J HW.a12 (J H0.out.1 d1))
     obtain⟨x1,eZ⟩:=x4 (i*L);obtain⟨y1,fQ⟩:=x4 (i*m);rw[<-eZ]at DF zY lV pA s1 s2;rw[<-fQ]at xE sr iz d1;obtain⟨x2,rU⟩:=x4 (x1+k);obtain⟨y2,pB⟩:=x4 (y1+qn);rw[<-rU]at zY lV pA s1 s2;rw[<-pB]at sr iz d1;have HX:=yt eZ rU bZ lV;have xF:(⟨E,x2,Z⟩ : Addr)=⟨E,0+x2,Z⟩:=by rw[Nat.zero_add]
     rw[xF]at s1 s2;clear hq hqn oC hn bZ BM sq jD hlen pA bR eZ fQ rU pB xF;go_wp2_with fail;refine qp4 fun KO cD=>?_
     go_cut [37]from 38 to 55 (fun _ wx=>wx=wr.drew.setCell ⟨E,0+x2,Z⟩ n)
     case first =>
      rename_i At K2 hJ aQ;refine yg (by kernel_rfl) (VF [Y (σ (Y ⟨B5,3,Z⟩)),Y (O E K K),Y (i:Int),Y (O (Y ad) L uc),Y (L:Int),Y (x1:Int),Y (k:Int),Y (x2:Int),Y (σ (Y ⟨w,3,Z⟩)),Y (O (Y zX) vn vc),Y (i:Int),Y (σ (Y ⟨w,2,Z⟩)),Y (m:Int),Y (y1:Int),Y (qn:Int),Y (y2:Int),Y (σ (Y (zX.add y2))),Y n,Y (σ (Y ⟨E,0+x2,Z⟩)),Z]) [] (fun _ w2=>w2=wr.drew) 19 20 59 rfl (by kernel_rfl) (by kernel_rfl) (by decide) (by kernel_rfl) (by kernel_rfl) (by kernel_rfl) (by decide) (by decide) (fun a w2=>K2 a w2) ?start ?pure ?eff ?last ?done
      case start=>exact rfl
      case pure =>
       intro i o ho hL hE a w' vs hT ai hd ab hsz;obtain rfl:w'=wr.drew:=hT
       match i,ho,hL,hE,ai,hd with
       |0,rfl,_,_,_,_ =>exact yb rfl (zr qu ab 5) (jv _ _ _ (by decide)) (gone rfl)
       |1,rfl,_,_,_,hd =>exact jm rfl (j8 hd 0) (yy _ _ _ _ _ (c3)) (gone rfl)
       |2,rfl,_,_,_,_ =>exact jo (.inl rfl) ⟨_,rfl,fun _ h=>(zr qu ab 6).trans (osi h),rfl⟩
       |3,rfl,_,_,_,_ =>exact jo (.inl rfl) ⟨_,rfl,fun _ h=>(zr qu ab 4).trans (osi h),rfl⟩
       |4,rfl,_,_,_,hd =>exact⟨rfl,gu _,qi5 _ rfl Tryz.underlying23 _ _ _ (j8 hd 3) (gone rfl)⟩
       |5,rfl,_,_,_,hd =>exact q0n rfl (j8 hd 2) (j8 hd 4) rfl (q2d DF _) (gone rfl)
       |6,rfl,_,_,_,_ =>exact jo (.inl rfl) ⟨_,rfl,fun _ h=>(zr qu ab 7).trans (osi h),rfl⟩
       |7,rfl,_,_,_,hd =>exact q0n rfl (j8 hd 5) (j8 hd 6) rfl (q1u zY _) (gone rfl)
       |8,rfl,_,_,_,_ =>exact yb rfl (zr qu ab 1) (jv _ _ _ (by decide)) (gone rfl)
       |9,rfl,_,_,_,hd =>exact jm rfl (j8 hd 8) (yy _ _ _ _ _ (t3)) (gone rfl)
       |10,rfl,_,_,_,_ =>exact jo (.inl rfl) ⟨_,rfl,fun _ h=>(zr qu ab 6).trans (osi h),rfl⟩
       |11,rfl,_,_,_,_ =>exact yb rfl (zr qu ab 1) (jv _ _ _ (by decide)) (gone rfl)
       |12,rfl,_,_,_,hd =>exact jm rfl (j8 hd 11) (qe0 _ _ _ (t2)) (gone rfl)
       |13,rfl,_,_,_,hd =>exact q0n rfl (j8 hd 10) (j8 hd 12) rfl (q2d xE _) (gone rfl)
       |14,rfl,_,_,_,_ =>exact jo (.inl rfl) ⟨_,rfl,fun _ h=>(zr qu ab 8).trans (osi h),rfl⟩
       |15,rfl,_,_,_,hd =>exact q0n rfl (j8 hd 13) (j8 hd 14) rfl (q1u sr _) (gone rfl)
       |16,rfl,_,_,_,hd =>exact q4r rfl (j8 hd 9) (j8 hd 15) (q0w _ _ _ _ _ iz) (gone rfl)
       |17,rfl,_,_,_,hd =>exact jm rfl (j8 hd 16) (qe0 _ _ _ (d1)) (gone rfl)
       |18,rfl,_,_,_,hd =>exact q4r rfl (j8 hd 1) (j8 hd 7) (q3o _ _ _ _ _ _ lV) (gone rfl)
       |19,ho,hL,hE,ai,hd =>exact absurd rfl hL
       |i+20,ho,hL,hE,ai,hd =>have:i+20<20:=(gh.1 ho).1;omega
      case eff =>
       intro s i o hs ho a w' vs hl hT hd hr ab hsz
       match s,hs,hr,hl with
       |s+0,hs,hr,hl=>cases hs
      case last =>intro o ho a w' vs hsz aO hl hT hf hr ab;obtain rfl:=osi ho;obtain rfl:=gl hl;obtain rfl:w'=wr.drew:=hT;have g0:a 55 V=σ (Y ⟨E,0+x2,Z⟩):=hf 18 _ _ rfl rfl (by kernel_rfl) (by decide) _ rfl;have g1:a 54 V=n:=hf 17 _ _ rfl rfl (by kernel_rfl) (by decide) _ rfl;refine⟨rfl,ju _ _ _ rfl _ _ g0 g1 (q6j _ _ _ _ s1 s2) ?_⟩;refine aQ _ _ (Met.intro (hJ _ _ ⟨a 37 V,a 38 V,a 39 V,a 40 V,a 41 V,a 42 V,a 43 V,a 44 V,a 45 V,a 46 V,a 47 V,a 48 V,a 49 V,a 50 V,a 51 V,a 52 V,a 53 V,a 54 V,a 55 V,rfl,(q8z hsz aO ab).trans ?_⟩));kernel_rfl
      case done=>exact fun _ _ h=>h
     case rest =>
      subst hcut;refine cD _ _ ?_;go_wp2;go_roundw
      case measure=>simp[vI];omega
      case rel =>
       refine⟨k+1,qh (by omega),by omega,(lhd ((aR.out.below (qb (Below.refl _ wr) 1)).set _ _)),(show Hid _ from ?_)⟩;have h5:=(show IL wr.drew E (kt C.flatten (List.replicate K 0) (i*L+k))from uO.out).put (k:=i*L+k) (by rw[q1p (by rw[HC.out.1.q1d,List.length_replicate,HK.out]),List.length_replicate,<-HX.out.1,<-HX.a1];exact HX.b3) n;have tI:n=j6 C.flatten (i*L+k):=by have h6:=flat_get HC.out.1.wid (by rw[HC.out.1.len];exact db) aZ;unfold j6 at h6 ⊢;rw[gb,h6,HX.a2];rfl
       rw[tI,q2t (by rw[HC.out.1.q1d,List.length_replicate,HK.out]) (by rw[List.length_replicate,<-HX.out.1,<-HX.a1];exact HX.b3)]at h5;rw[tI,HX.a1,HX.out.1];exact h5
    ·have aM:k=L:=by omega
     have hmul:i*L+k=(i+1)*L:=by rw[aM,Nat.add_mul,Nat.one_mul]
     rw[hmul]at uO;clear aM hmul;go_wp2;go_roundw
     case measure=>simp[vI];omega
     case rel=>exact⟨i+1,qh (by omega),by omega,aR,uO⟩
  ·have hie:i=r:=by omega
   have hmul:i*L=K:=by rw[hie,HK.out]
   rw[hmul,q26 (by rw[HC.out.1.q1d,HK.out]) List.length_replicate,NZ.out]at HI;have bT:B5≠E/\w+1≠E:=by have:=HW.a10;omega
   have x0:=HB.out.cell (p:=B5) bT.1 HW.out.1;have x1:=HB.out.cell (p:=⟨B5,1,Z⟩) bT.1 HW.a1;have x2:=HB.out.cell (p:=⟨B5,2,Z⟩) bT.1 HW.a2;have x3:=HB.out.cell (p:=⟨B5,3,Z⟩) bT.1 HW.a3;have bV:=HW.a12;have r0:=HB.out.cell (p:=(w+1:Nat)) bT.2 (J bV H0.a2);have r1:=HB.out.cell (p:=⟨w+1,1,Z⟩) bT.2 (J bV H0.a3);have r2:=HB.out.cell (p:=⟨w+1,2,Z⟩) bT.2 (J bV H0.a4);have r3:=HB.out.cell (p:=⟨w+1,3,Z⟩) bT.2 (J bV H0.a5);have ak:w.heap.size+1<W0:=by have:=H0.a1;omega
   have cL:∀i,wo.frozen? ⟨w+1,i,Z⟩=false:=fun i=>HB.out.q5d bT.2 (gz ak bV.size) (xf bV (by exact ak) (H0.a6 i))
   have z0:=cL 0;have z1:=cL 1;have z2:=cL 2;have z3:=cL 3;clear hie hmul bT bV cL ak;go_wp2_with fail;obtain⟨e0,e1,e2,e3⟩:=q1f r0 r1 r2 r3;have BN:=HW.a10;have lD:=HW.a11;have aT:Below w w wo:=HB.out.lower (H0.out.1.trans (HW.a12.mono (by have:=H0.a1;omega))) (by omega) (by omega);rw[<-HK.out];refine bodyPost_ret (v:=I #[H φ p,H φ r,H φ L,O (Y ⟨E,0,Z⟩) K K]) (by simp[results,Tryz.results87,go_sem,e0,e1,e2,e3]) rfl ⟨E,rfl,by omega,?_,?_,jj aT (by omega) _ _ _ _⟩
   ·have:=HB.out.size;simp[World.setCell];omega
   ·exact(((HI.out.set _ _ (by show w.heap.size+1≠E;omega)).set _ _ (by show w.heap.size+1≠E;omega)).set _ _ (by show w.heap.size+1≠E;omega)).set _ _ (by show w.heap.size+1≠E;omega)
theorem qjl {x y z:Int}(hy:y≠0)(h:x.tmod y=z)(w:δ):(Go.binOp .rem 3 x y).run Tryz.prog w=.ok z w:=by simp[go_sem,hy,h]
theorem qjm {x y z:Int}(hy:y≠0)(h:IntKind.i64.wrap (x.tdiv y)=z)(w:δ):(Go.binOp .quo 3 x y).run Tryz.prog w=.ok z w:=by simp[go_sem,hy,h]
def trS (F:List Int)(r m k:Nat):List Int:=(List.range (m*r)).map fun t=>if t%r*m+t / r<k then j6 F (t%r*m+t / r)else 0
theorem qh0 (F:List Int)(r m k:Nat):(trS F r m k).length=m*r:=by simp[trS]
theorem qp8 (F:List Int)(r m:Nat):trS F r m 0=List.replicate (m*r) 0:=by
 unfold trS;refine List.ext_getElem? fun i=>?_
 rw[List.getElem?_map,List.getElem?_replicate];by_cases h:i<m*r
 ·rw[List.getElem?_range h,if_pos h];rfl
 ·rw[if_neg h,List.getElem?_eq_none (by simpa using h)];rfl
theorem qrn {F:List Int}{r m k:Nat}(hk:k<r*m):k%m*r+k / m<m*r/\(trS F r m k).set (k%m*r+k / m) (j6 F k)=trS F r m (k+1):=by
 have hm:0<m:=by
  rcases Nat.eq_zero_or_pos m with rfl|h
  ·simp at hk
  ·exact h
 have hb:k / m<r:=Nat.div_lt_of_lt_mul (by rw[Nat.mul_comm];exact hk);have ha:k%m<m:=Nat.mod_lt _ hm;have hs:k%m*r+k / m<m*r:=q2x ha hb;have ox:k / m*m+k%m=k:=by rw[Nat.mul_comm];exact Nat.div_add_mod k m
 refine⟨hs,List.ext_getElem? fun t=>?_⟩;rw[List.getElem?_set,qh0];by_cases ht:k%m*r+k / m=t
 ·subst ht;rw[if_pos rfl,if_pos hs];unfold trS;rw[List.getElem?_map,List.getElem?_range hs];have e1:(k%m*r+k / m)%r=k / m:=by rw[Nat.mul_comm,Nat.mul_add_mod,Nat.mod_eq_of_lt hb]
  have e2:(k%m*r+k / m) / r=k%m:=by rw[Nat.mul_comm,Nat.mul_add_div (by omega),Nat.div_eq_of_lt hb,Nat.add_zero]
  show _=Y (if _ then _ else _);rw[e1,e2,ox,if_pos (Nat.lt_succ_self k)]
 ·rw[if_neg ht];unfold trS;rw[List.getElem?_map,List.getElem?_map];by_cases ak:t<m*r
  ·rw[List.getElem?_range ak];show Y (if _ then _ else _)=Y (if _ then _ else _);have hr:0<r:=Nat.lt_of_le_of_lt (gm _) hb;have mi:t%r<r:=Nat.mod_lt _ hr;have hQ:t / r<m:=Nat.div_lt_of_lt_mul (by rw[Nat.mul_comm];exact ak);have ah:t%r*m+t / r≠k:=fun e=>ht (by rw[<-e,show (t%r*m+t / r)%m=t / r by rw[Nat.mul_comm,Nat.mul_add_mod,Nat.mod_eq_of_lt hQ],show (t%r*m+t / r) / m=t%r by rw[Nat.mul_comm,Nat.mul_add_div hm,Nat.div_eq_of_lt hQ,Nat.add_zero],Nat.mul_comm];exact Nat.div_add_mod t r)
   by_cases h:t%r*m+t / r<k
   ·rw[if_pos h,if_pos (by omega)]
   ·rw[if_neg h,if_neg (by omega)]
  ·rw[List.getElem?_eq_none (by simpa using ak)];rfl
theorem qp9 {p:Int}{r m:Nat}{M:List (List Int)}(h:FM p r m M):trS M.flatten r m (r*m)=(trM r m M).flatten:=by
 have hT:=q8j h;refine List.ext_getElem? fun t=>?_
 by_cases ak:t<m*r
 ·have hr:0<r:=by
   rcases Nat.eq_zero_or_pos r with rfl|h
   ·simp at ak
   ·exact h
  have mi:t%r<r:=Nat.mod_lt _ hr;have hQ:t / r<m:=Nat.div_lt_of_lt_mul (by rw[Nat.mul_comm];exact ak);have ht:t / r*r+t%r=t:=by rw[Nat.mul_comm];exact Nat.div_add_mod t r
  have e1:=flat_get hT.wid (i:=t / r) (c:=t%r) (by rw[hT.len];exact hQ) mi;rw[ht]at e1;have e2:=flat_get h.wid (i:=t%r) (c:=t / r) (by rw[h.len];exact mi) hQ;rw[e1,qg4 mi hQ];unfold trS;rw[List.getElem?_map,List.getElem?_range ak];show Y (if _ then _ else _)=_;rw[if_pos (q2x mi hQ)];unfold j6 at e2 ⊢;rw[gb,e2];rfl
 ·rw[List.getElem?_eq_none (by rw[qh0];omega),List.getElem?_eq_none (by rw[hT.q1d];omega)]
theorem qdn (p:Int)(r m:Nat)(v:ε)(M:List (List Int))(w:δ)(h:Sl w 1 v (ints M.flatten))(hp:prI p=true)(hM:FM p r m M)(hr:r<=400)(hm:m<=400) :
  Calls Tryz.prog 50 #[I #[H φ p,H φ r,H φ m,v]] w fun e w'=>∃E,e=.returned (I #[H φ p,H φ m,H φ r,O (Y ⟨E,0,Z⟩) (m*r) (m*r)])/\w.heap.size<=E/\E<w'.heap.size/\IL w' E (trM r m M).flatten/\Below w.heap.size w w':=by
 obtain⟨jL,iR,eP⟩:=q3r hp;obtain⟨va,vn,vc,rfl⟩:=qg h;have mR:vn=r*m:=by have:=h.open.2.2.1;rw[xl,hM.q1d]at this;omega
 have HO:=kg h hp hM mR (q3d hp hM hr hm);clear h hM eP hp mR;go_enter Tryz.func50,Tryz.ntmps50;go_wp2_with fail;obtain⟨W0,aB⟩:=x4 ((w.alloc (.cells #[p,r,m,O va vn vc] 30)).alloc (.cells #[H φ 0,H φ 0,H φ 0,O Z 0 0] 30));have fe:Below w w W0:=by rw[aB];exact((q9).alloc (nlr _) _).alloc (by simp) _
 have dg:W0.heap.size=w+2:=by rw[aB];simp
 have p0:W0 w=p:=by rw[aB];exact qk (xz w _ _ 0 rfl) _
 have p1:W0 ⟨w,1,Z⟩=r:=by rw[aB];exact qk (xz w _ _ 1 rfl) _
 have p2:W0 ⟨w,2,Z⟩=m:=by rw[aB];exact qk (xz w _ _ 2 rfl) _
 have p3:W0 ⟨w,3,Z⟩=O va vn vc:=by rw[aB];exact qk (xz w _ _ 3 rfl) _
 have q0:W0 (w+1:Nat)=H φ 0:=by rw[aB];exact zx w _ _ _ 0 rfl
 have q1:W0 ⟨w+1,1,Z⟩=H φ 0:=by rw[aB];exact zx w _ _ _ 1 rfl
 have q2:W0 ⟨w+1,2,Z⟩=H φ 0:=by rw[aB];exact zx w _ _ _ 2 rfl
 have q3:W0 ⟨w+1,3,Z⟩=O Z 0 0:=by rw[aB];exact zx w _ _ _ 3 rfl
 have qz:∀i,W0.frozen? ⟨w+1,i,Z⟩=false:=fun i=>by rw[aB];exact vo w _ _ _ i
 rw[<-aB];have H0:=qb4 fe dg q0 q1 q2 q3 qz p0 p1 p2 p3;clear aB fe dg q0 q1 q2 q3 qz;refine(q8x p r m (O va vn vc) M.flatten W0 (HO.out.1.keep H0.out.1)).mono ?_;rintro e w2 ⟨rfl,aj⟩;rw[HO.b4];have H2:=lhd aj
 replace p0:=J aj p0
 replace p1:=J aj p1
 replace p2:=J aj p2
 clear aj p3;go_wp2_with fail;refine(qid p m r HO.a1 hm hr _).mono ?_;rintro e w3 ⟨E,rfl,dr,dN,hI,aw⟩;obtain⟨K,hK⟩:=x4 (m*r);rw[<-hK]at hI ⊢;have H3:=kg aw dr dN hI hK;have JF:∀o,(w3.alloc o) ⟨w,3,Z⟩=O va vn vc:=fun o=>qk (J aw (J H2.out H0.b10)) o
 clear aw dr dN hI hK p0 p1 p2;go_wp2_with fail;obtain⟨B5,aS⟩:=x4 w3.heap.size;rw[<-aS];obtain⟨W,hW⟩:=x4 (w3.alloc (.cells #[p,m,r,O E K K] 30));rw[<-hW];have b0:W B5=p:=by rw[hW,aS];exact xz w3 _ _ 0 rfl
 have b1:W ⟨B5,1,Z⟩=m:=by rw[hW,aS];exact xz w3 _ _ 1 rfl
 have b2:W ⟨B5,2,Z⟩=r:=by rw[hW,aS];exact xz w3 _ _ 2 rfl
 have b3:W ⟨B5,3,Z⟩=O E K K:=by rw[hW,aS];exact xz w3 _ _ 3 rfl
 have aJ:Below W0 W0 w3:=(btr H2.out H3.out.1);have aw:Below w3 w3 W:=by rw[hW];exact(q9).alloc (nlr _) _
 have bV:Below W0 W0 W:=(btr aJ aw);have jC:W=B5+1:=by rw[hW,aS];simp
 have si:E<B5/\W0<=E/\w+2<=E:=by have h1:=H2.out.size;have h2:=H0.a1;have h3:=H3.a1;have h4:=H3.a2;omega
 have pt:IL W E (trS M.flatten r m 0):=by rw[qp8,<-H3.b4];exact H3.a3.keep aw H3.a2
 have t1:W ⟨w,1,Z⟩=r:=J bV H0.a8;have t2:W ⟨w,2,Z⟩=m:=J bV H0.a9;have HW:=q93 b0 b1 b2 b3 t1 t2 pt si jC bV;have HK:Hid (K=m*r):=H3.b4;clear JF hW aS b0 b1 b2 b3 t1 t2 aJ bV aw jC si pt;go_loopw [20] (fun x wr=>∃k:Nat,x=k/\k<=vn/\Hid (Bk E W wr)/\Hid (IL wr E (trS M.flatten r m k))) (fun x _=>vn-(vI x).toNat)
 case atStart=>exact⟨0,rfl,gm _,(lhd (Bk.refl _ _)),(lhd HW.a6)⟩
 case round =>
  obtain⟨k,rfl,hk,HB,HI⟩:=hrel;by_cases BO:k<vn
  ·have cV:(k:Int)<vn:=by omega
   obtain⟨ad,n,rfl,hn,d0⟩:=q00 HO.out.1 BO;have bZ:j6 M.flatten k=n:=by unfold j6;rw[gb,hn];rfl
   obtain⟨hs,fo⟩:=qrn (F:=M.flatten) (r:=r) (m:=m) (k:=k) (by rw[<-HO.a3];exact BO);have dL:0<m:=by
    rcases Nat.eq_zero_or_pos m with h0|h0
    ·have h1:=HO.a3;rw[h0]at h1;omega
    ·exact h0
   have sq:vn<=160000:=by rw[HO.a3];exact gd (Nat.mul_le_mul hr hm) (by decide)
   have BM:K<=160000:=by rw[HK.out];exact gd (Nat.mul_le_mul hm hr) (by decide)
   have DG:(ad.add k).block≠E:=by have h1:=World.block_lt_of_cell? _ _ d0;have h4:=HW.a7.2;omega
   replace d0:=HB.out.cell DG (J HW.b9 (J H0.out.1 d0))
   have jD:B5≠E/\w≠E:=by have:=HW.a7;omega
   have c3:=HB.out.cell (p:=⟨B5,3,Z⟩) jD.1 HW.a3;have t1:=HB.out.cell (p:=⟨w,1,Z⟩) jD.2 HW.a4;have t2:=HB.out.cell (p:=⟨w,2,Z⟩) jD.2 HW.a5;obtain⟨a1,oW⟩:=x4 (k%m);obtain⟨b1,ae⟩:=x4 (k / m);have Ky:a1<m:=by rw[oW];exact Nat.mod_lt _ dL
   have Kz:b1<=k:=by rw[ae];exact Nat.div_le_self k m
   have D4:((k:Int)).tmod (m:Int)=(a1:Int):=by rw[Int.tmod_eq_emod_of_nonneg (by omega),oW];simp
   have Th:IntKind.i64.wrap (((k:Int)).tdiv (m:Int))=(b1:Int):=by rw[Int.tdiv_eq_ediv_of_nonneg (by omega),<-Int.natCast_ediv,<-ae];exact IntWalk.i64_in _ (by omega)
   have iG:(m:Int)≠0:=by omega
   rw[<-oW,<-ae]at hs fo;rw[<-HK.out]at hs;have DF:IntKind.i64.wrap ((a1:Int)*(r:Int))=((a1*r:Nat):Int):=kd (by omega) (by omega);have zY:IntKind.i64.wrap (((a1*r:Nat):Int)+(b1:Int))=((a1*r+b1:Nat):Int):=by rw[<-Int.natCast_add];exact IntWalk.i64_in _ (by omega)
   obtain⟨x1,eZ⟩:=x4 (a1*r);rw[<-eZ]at DF zY hs fo;obtain⟨x2,rU⟩:=x4 (x1+b1);rw[<-rU]at zY hs fo;have hlen:x2<(trS M.flatten r m k).length:=by rw[qh0,<-HK.out];exact hs
   obtain⟨od,xG⟩:∃od,(trS M.flatten r m k)[x2]? =Y od:=⟨_,gg hlen⟩
   obtain⟨s1,s2⟩:=HI.out _ _ xG;have xF:(⟨E,x2,Z⟩ : Addr)=⟨E,0+x2,Z⟩:=by rw[Nat.zero_add]
   rw[xF]at s1 s2;rw[bZ]at fo;have HX:=jg fo hlen;clear hn bZ fo dL BM DG jD oW ae Ky Kz eZ rU hlen xF xG;go_wp2_with fail;refine qp4 fun KO cD=>?_
   go_cut [25]from 26 to 40 (fun _ wx=>wx=wr.drew.setCell ⟨E,0+x2,Z⟩ n)
   case first =>
    rename_i At K2 hJ aQ;refine yg (by kernel_rfl) (VF [Y (σ (Y ⟨B5,3,Z⟩)),Y (O E K K),Y (k:Int),Y (σ (Y ⟨w,2,Z⟩)),Y (m:Int),Y (a1:Int),Y (σ (Y ⟨w,1,Z⟩)),Y (r:Int),Y (x1:Int),Y (k:Int),Y (σ (Y ⟨w,2,Z⟩)),Y (m:Int),Y (b1:Int),Y (x2:Int),Y n,Y (σ (Y ⟨E,0+x2,Z⟩)),Z]) [] (fun _ w2=>w2=wr.drew) 16 20 43 rfl (by kernel_rfl) (by kernel_rfl) (by decide) (by kernel_rfl) (by kernel_rfl) (by kernel_rfl) (by decide) (by decide) (fun a w2=>K2 a w2) ?start ?pure ?eff ?last ?done
    case start=>exact rfl
    case pure =>
     intro i o ho hL hE a w' vs hT ai hd ab hsz;obtain rfl:w'=wr.drew:=hT
     match i,ho,hL,hE,ai,hd with
     |0,rfl,_,_,_,_ =>exact yb rfl (zr qu ab 3) (jv _ _ _ (by decide)) (gone rfl)
     |1,rfl,_,_,_,hd =>exact jm rfl (j8 hd 0) (yy _ _ _ _ _ (c3)) (gone rfl)
     |2,rfl,_,_,_,_ =>exact jo (.inl rfl) ⟨_,rfl,fun _ h=>(zr qu ab 4).trans (osi h),rfl⟩
     |3,rfl,_,_,_,_ =>exact yb rfl (zr qu ab 1) (jv _ _ _ (by decide)) (gone rfl)
     |4,rfl,_,_,_,hd =>exact jm rfl (j8 hd 3) (qe0 _ _ _ (t2)) (gone rfl)
     |5,rfl,_,_,_,hd =>exact q0n rfl (j8 hd 2) (j8 hd 4) rfl (qjl iG D4 _) (gone rfl)
     |6,rfl,_,_,_,_ =>exact yb rfl (zr qu ab 1) (jv _ _ _ (by decide)) (gone rfl)
     |7,rfl,_,_,_,hd =>exact jm rfl (j8 hd 6) (qe0 _ _ _ (t1)) (gone rfl)
     |8,rfl,_,_,_,hd =>exact q0n rfl (j8 hd 5) (j8 hd 7) rfl (q2d DF _) (gone rfl)
     |9,rfl,_,_,_,_ =>exact jo (.inl rfl) ⟨_,rfl,fun _ h=>(zr qu ab 4).trans (osi h),rfl⟩
     |10,rfl,_,_,_,_ =>exact yb rfl (zr qu ab 1) (jv _ _ _ (by decide)) (gone rfl)
     |11,rfl,_,_,_,hd =>exact jm rfl (j8 hd 10) (qe0 _ _ _ (t2)) (gone rfl)
     |12,rfl,_,_,_,hd =>exact q0n rfl (j8 hd 9) (j8 hd 11) rfl (qjm iG Th _) (gone rfl)
     |13,rfl,_,_,_,hd =>exact q0n rfl (j8 hd 8) (j8 hd 12) rfl (q1u zY _) (gone rfl)
     |14,rfl,_,_,_,_ =>exact jo (.inl rfl) ⟨_,rfl,fun _ h=>(zr qu ab 5).trans (osi h),rfl⟩
     |15,rfl,_,_,_,hd =>exact q4r rfl (j8 hd 1) (j8 hd 13) (q3o _ _ _ _ _ _ hs) (gone rfl)
     |16,ho,hL,hE,ai,hd =>exact absurd rfl hL
     |i+17,ho,hL,hE,ai,hd =>have:i+17<17:=(gh.1 ho).1;omega
    case eff =>
     intro s i o hs ho a w' vs hl hT hd hr ab hsz
     match s,hs,hr,hl with
     |s+0,hs,hr,hl=>cases hs
    case last =>intro o ho a w' vs hsz aO hl hT hf hr ab;obtain rfl:=osi ho;obtain rfl:=gl hl;obtain rfl:w'=wr.drew:=hT;have g0:a 40 V=σ (Y ⟨E,0+x2,Z⟩):=hf 15 _ _ rfl rfl (by kernel_rfl) (by decide) _ rfl;have g1:a 39 V=n:=hf 14 _ _ rfl rfl (by kernel_rfl) (by decide) _ rfl;refine⟨rfl,ju _ _ _ rfl _ _ g0 g1 (q6j _ _ _ _ s1 s2) ?_⟩;refine aQ _ _ (Met.intro (hJ _ _ ⟨a 25 V,a 26 V,a 27 V,a 28 V,a 29 V,a 30 V,a 31 V,a 32 V,a 33 V,a 34 V,a 35 V,a 36 V,a 37 V,a 38 V,a 39 V,a 40 V,rfl,(q8z hsz aO ab).trans ?_⟩));kernel_rfl
    case done=>exact fun _ _ h=>h
   case rest =>
    subst hcut;refine cD _ _ ?_;go_wp2;go_roundw
    case measure=>simp[vI];omega
    case rel =>refine⟨k+1,qh (by omega),by omega,(lhd ((HB.out.below (qb (Below.refl _ wr) 1)).set _ _)),(show Hid _ from ?_)⟩;have h5:=(show IL wr.drew E (trS M.flatten r m k)from HI.out).put (k:=x2) HX.out.2 n;rw[HX.out.1]at h5;exact h5
  ·have aM:k=r*m:=by have:=HO.a3;omega
   rw[aM,qp9 HO.a2]at HI;have bT:B5≠E/\w+1≠E:=by have:=HW.a7;omega
   have x0:=HB.out.cell (p:=B5) bT.1 HW.out.1;have x1:=HB.out.cell (p:=⟨B5,1,Z⟩) bT.1 HW.a1;have x2:=HB.out.cell (p:=⟨B5,2,Z⟩) bT.1 HW.a2;have x3:=HB.out.cell (p:=⟨B5,3,Z⟩) bT.1 HW.a3;have bV:=HW.b9;have r0:=HB.out.cell (p:=(w+1:Nat)) bT.2 (J bV H0.a2);have r1:=HB.out.cell (p:=⟨w+1,1,Z⟩) bT.2 (J bV H0.a3);have r2:=HB.out.cell (p:=⟨w+1,2,Z⟩) bT.2 (J bV H0.a4);have r3:=HB.out.cell (p:=⟨w+1,3,Z⟩) bT.2 (J bV H0.a5);have ak:w.heap.size+1<W0:=by have:=H0.a1;omega
   have cL:∀i,wr.frozen? ⟨w+1,i,Z⟩=false:=fun i=>HB.out.q5d bT.2 (gz ak bV.size) (xf bV (by exact ak) (H0.a6 i))
   have z0:=cL 0;have z1:=cL 1;have z2:=cL 2;have z3:=cL 3;clear aM bT bV cL ak;go_wp2_with fail;obtain⟨e0,e1,e2,e3⟩:=q1f r0 r1 r2 r3;have BN:=HW.a7;have lD:=HW.a8;have aT:Below w w wr:=HB.out.lower (H0.out.1.trans (HW.b9.mono (by have:=H0.a1;omega))) (by omega) (by omega);rw[<-HK.out];refine bodyPost_ret (v:=I #[H φ p,H φ m,H φ r,O (Y ⟨E,0,Z⟩) K K]) (by simp[results,Tryz.results50,go_sem,e0,e1,e2,e3]) rfl ⟨E,rfl,by omega,?_,?_,jj aT (by omega) _ _ _ _⟩
   ·have:=HB.out.size;simp[World.setCell];omega
   ·exact(((HI.out.set _ _ (by show w.heap.size+1≠E;omega)).set _ _ (by show w.heap.size+1≠E;omega)).set _ _ (by show w.heap.size+1≠E;omega)).set _ _ (by show w.heap.size+1≠E;omega)
theorem qpa (v:ε)(L:List Int)(x:Int)(w:δ)(h:Sl w 1 v (ints L))(hL:L.length<=1000000) :
  Calls Tryz.prog 149 #[v,x] w fun e w'=>∃i:Int,e=.returned i/\((i=-1/\x ∉ L)\/∃k:Nat,i=k/\L[k]? =Y x)/\Below w w w':=by
 obtain⟨a,len,cap,rfl⟩:=qg h;have hl:L.length=len:=by have:=h.open.2.2.1;rw[xl,gK]at this;exact this
 have HH:=jg h hl;have hlen:len<=1000000:=by omega
 clear h hl hL;go_enter Tryz.func149,Tryz.ntmps149;go_wp2;go_loopw [8] (fun i wr=>∃k:Nat,i=k/\k<=len/\Hid (x ∉ L.take k)/\Hid (Below w w wr)) (fun i _=>len-(vI i).toNat)
 case atStart=>exact⟨0,rfl,gm _,(lhd (fun hu=>by simp at hu)),(lhd q9)⟩
 case round =>
  obtain⟨k,rfl,hk,HN,HB⟩:=hrel;by_cases aZ:k<len
  ·have cV:(k:Int)<len:=by omega
   obtain⟨ad,y,rfl,hy,d0⟩:=q00 HH.out.1 aZ
   replace d0:=J HB.out d0
   have HY:=lhd hy;clear hy;by_cases hxy:x=y
   ·have Oa:=lhd hxy;subst hxy;go_wp2;go_ret;exact⟨k,rfl,.inr ⟨k,rfl,HY.out⟩,HB.out⟩
   ·have xB:(x == y)=false:=by simpa using hxy
    have Oa:=lhd hxy;go_wp2;go_roundw
    case measure=>simp[vI];omega
    case rel =>
     refine⟨k+1,qh (by omega),by omega,(lhd (fun hu=>?_)),HB⟩;rw[gC,HY.out]at hu;rcases gO.1 hu with hu|hu
     ·exact HN.out hu
     ·simp at hu;exact Oa.out hu
  ·have aM:k=len:=by omega
   have HE:Hid (x ∉ L):=(lhd (by have:=HN.out;rw[gr (by rw[HH.out.2,aM];exact nlr _)]at this;exact this))
   clear aM;go_wp2;go_ret;exact⟨-1,rfl,.inl ⟨rfl,HE.out⟩,HB.out⟩
theorem qij (v:ε)(L:List Int)(x:Int)(w:δ)(h:Sl w 1 v (ints L))(hL:L.length<=1000000) :
  Calls Tryz.prog 122 #[v,x] w fun e w'=>e=.returned (τ (L.contains x))/\Below w w w':=by
 have HC:=lhd (qpa v L x w h hL);clear h hL;go_enter Tryz.func122,Tryz.ntmps122;go_wp2_with fail;refine HC.out.mono ?_;rintro e w1 ⟨i,rfl,hi,hb⟩;rcases hi with ⟨rfl,hn⟩|⟨k,rfl,hk⟩
 ·have hc:L.contains x=false:=by simpa using hn
  have HD:=lhd hc;clear hn hc;go_wp2;go_ret;exact⟨by rw[HD.out];rfl,hb⟩
 ·have hc:L.contains x=true:=by simpa using gi hk
  have rA:(0:Int)<=(k:Int):=by omega
  have HD:=lhd hc;clear hk hc;go_wp2;go_ret;exact⟨by rw[HD.out];rfl,hb⟩
theorem qro (p:Int)(r m:Nat)(v:ε)(M:List (List Int))(w:δ)(h:Sl w 1 v (ints M.flatten))(hp:prI p=true)(hM:FM p r m M)(hr:r<=400)(hm:m<=400) :
  Calls Tryz.prog 86 #[I #[H φ p,H φ r,H φ m,v]] w fun e w'=>∃E f,f=(q2n m (jk p m M).2).length/\e=.returned (I #[H φ p,H φ m,H φ (f:Nat),O (Y ⟨E,0,Z⟩) (m*f) (m*f)])/\w.heap.size<=E/\E<w'.heap.size/\IL w' E (q37 p m M).flatten/\Below w.heap.size w w':=by
 obtain⟨jL,iR,eP⟩:=q3r hp;obtain⟨va,vn,vc,rfl⟩:=qg h;have mR:vn=r*m:=by have:=h.open.2.2.1;rw[xl,hM.q1d]at this;omega
 obtain⟨xH,tw,jP,jY⟩:=q0s (show 0<p by omega) hM;have HO:=kg h hp hM mR jP;obtain⟨L,hL⟩:=x4 ((jk p m M).2.length);rw[<-hL]at tw;have Ti:L<=m:=by have h1:=q9d jY m;rw[List.filter_eq_self.2 (fun x hx=>by simpa using jP x hx),<-hL]at h1;omega
 obtain⟨f,hf⟩:=x4 ((q2n m (jk p m M).2).length);have K0:f=m-L:=by rw[hf,hL];exact qi4 jY jP
 have HF:=jg hf xH;have wf:IntKind.i64.wrap ((m:Int)-(L:Int))=(f:Int):=by rw[IntWalk.i64_in _ (by omega)];omega
 have HL:=jg hL jY;clear h hM eP hp mR jP hL jY hf xH;go_enter Tryz.func86,Tryz.ntmps86;go_wp2_with fail;obtain⟨W0,aB⟩:=x4 ((w.alloc (.cells #[p,r,m,O va vn vc] 30)).alloc (.cells #[H φ 0,H φ 0,H φ 0,O Z 0 0] 30));have fe:Below w w W0:=by rw[aB];exact((q9).alloc (nlr _) _).alloc (by simp) _
 have dg:W0.heap.size=w+2:=by rw[aB];simp
 have p0:W0 w=p:=by rw[aB];exact qk (xz w _ _ 0 rfl) _
 have p1:W0 ⟨w,1,Z⟩=r:=by rw[aB];exact qk (xz w _ _ 1 rfl) _
 have p2:W0 ⟨w,2,Z⟩=m:=by rw[aB];exact qk (xz w _ _ 2 rfl) _
 have p3:W0 ⟨w,3,Z⟩=O va vn vc:=by rw[aB];exact qk (xz w _ _ 3 rfl) _
 have q0:W0 (w+1:Nat)=H φ 0:=by rw[aB];exact zx w _ _ _ 0 rfl
 have q1:W0 ⟨w+1,1,Z⟩=H φ 0:=by rw[aB];exact zx w _ _ _ 1 rfl
 have q2:W0 ⟨w+1,2,Z⟩=H φ 0:=by rw[aB];exact zx w _ _ _ 2 rfl
 have q3:W0 ⟨w+1,3,Z⟩=O Z 0 0:=by rw[aB];exact zx w _ _ _ 3 rfl
 have qz:∀i,W0.frozen? ⟨w+1,i,Z⟩=false:=fun i=>by rw[aB];exact vo w _ _ _ i
 rw[<-aB];have H0:=qb4 fe dg q0 q1 q2 q3 qz p0 p1 p2 p3;clear aB fe dg q0 q1 q2 q3 qz;refine(q9t p r m (O va vn vc) M W0 (HO.out.1.keep H0.out.1) HO.a1 HO.a2 hr hm).mono ?_;rintro e w2 ⟨sv,u,rfl,hR,hO,aj⟩;obtain⟨sa,sc,dI⟩:=hR.shape;obtain⟨N,hN⟩:=x4 (r*m);rw[<-hN]at dI;subst dI;rw[<-HL.out.1]at hO;obtain⟨ua,uc,hu⟩:=qj hO;subst hu;have DE:=Sl.qc hO;have H2:=yh DE aj hN
 replace p0:=J aj p0
 replace p1:=J aj p1
 have Tj:=lhd hR;have JA:∀o,(w2.alloc o) ⟨w,2,Z⟩=m:=fun o=>qk (J aj p2) o
 clear hR hO aj DE hN p2 p3;have Kv:∀o,(w2.alloc o) w=p:=fun o=>qk p0 o
 have CU:∀o,(w2.alloc o) ⟨w,1,Z⟩=r:=fun o=>qk p1 o
 have zV:¬(p=0):=by omega
 have zW:(p == 0)=false:=by simpa using zV
 go_wp2_with fail;rw[<-K0];have Tk:f<=400:=by omega
 have N2:=jg K0 Ti;clear K0 wf;refine(qid p m f HO.a1 hm (by omega) _).mono ?_;rintro e w3 ⟨E,rfl,dr,dN,hI,aw⟩;obtain⟨K,hK⟩:=x4 (m*f);rw[<-hK]at hI ⊢;have sh:Below w2 w2 w3:=(bal w2 _).trans (aw.mono (by simp));rw[World.size_alloc]at dr;have e3:w3 ⟨w2,3,Z⟩=O sa N sc:=J aw (xz w2 _ _ 3 rfl);have H3:=kp sh dr dN hI hK e3;clear aw dr dN hI hK sh p0 p1 Kv CU JA e3;have CX:∀o,(w3.alloc o) ⟨w,2,Z⟩=m:=fun o=>qk (J H3.out.1 (J H2.a1 H0.a9)) o
 go_wp2_with fail;obtain⟨B5,aS⟩:=x4 w3.heap.size;rw[<-aS];obtain⟨W,hW⟩:=x4 (w3.alloc (.cells #[p,m,f,O E K K] 30));rw[<-hW];have b0:W B5=p:=by rw[hW,aS];exact xz w3 _ _ 0 rfl
 have b1:W ⟨B5,1,Z⟩=m:=by rw[hW,aS];exact xz w3 _ _ 1 rfl
 have b2:W ⟨B5,2,Z⟩=f:=by rw[hW,aS];exact xz w3 _ _ 2 rfl
 have b3:W ⟨B5,3,Z⟩=O E K K:=by rw[hW,aS];exact xz w3 _ _ 3 rfl
 have aJ:Below W0 W0 w3:=(btr H2.a1 H3.out.1);have aw:Below w3 w3 W:=by rw[hW];exact(q9).alloc (nlr _) _
 have bV:Below W0 W0 W:=(btr aJ aw);have uN:Below w2 w2 W:=(btr H3.out.1 aw);have jC:W=B5+1:=by rw[hW,aS];simp
 have si:E<B5/\w2<E/\w+2<E:=by have h1:=H2.a1.size;have h2:=H0.a1;have h3:=H3.a1;have h4:=H3.a2;omega
 have pt:IL W E (pS (q37 p m M).flatten K fun _=>false):=by rw[qkz];exact H3.a3.keep aw H3.a2
 have t0:W w=p:=J bV H0.a7;have t2:W ⟨w,2,Z⟩=m:=J bV H0.a9;have t3:W ⟨w2,3,Z⟩=O sa N sc:=J aw H3.b5;have HW:=qnt b0 b1 b2 b3 t0 t2 t3 pt si jC bV uN;have HK:Hid (K=m*f):=H3.a4;clear CX hW aS b0 b1 b2 b3 t0 t2 t3 aJ bV uN aw jC si pt;go_loopw [6,31] (fun y x wr=>∃j:Nat,x=H φ j/\y=H φ (q3w (jk p m M).2 j:Nat)/\j<=m/\Hid (Bk E W wr)/\Hid (IL wr E (pS (q37 p m M).flatten K fun t=>decide (t%f<q3w (jk p m M).2 j)))) (fun _ x _=>m-(vI x).toNat)
 case atStart=>exact⟨0,rfl,rfl,gm _,(lhd (Bk.refl _ _)),(lhd (by have h7:=HW.a7;rw[qcv (D':=fun t=>decide (t%f<q3w (jk p m M).2 0)) (fun t _=>.inl (by rw[qcn];simp))]at h7;exact h7))⟩
 case round =>
  obtain⟨j,rfl,rfl,hj,HB,HI⟩:=hrel;obtain⟨wo,eE⟩:=x4 wr;subst eE;by_cases cj:j<m
  ·have pk:(j:Int)<m:=by omega
   have hS:Sl wo 1 (O ua L uc) (ints (nI (jk p m M).2)):=H2.out.1.mono fun q u hq=>HB.out.cell (by have h1:=World.block_lt_of_cell? _ _ hq;have h2:=HW.a8;omega) (J HW.b11 hq)
   have HS:=lhd hS;obtain⟨c,hc⟩:=x4 (q3w (jk p m M).2 j);rw[<-hc]at HI ⊢;have HC:=lhd hc;clear hS hc;go_wp2_with fail;refine(qij (O ua L uc) (nI (jk p m M).2) j wo HS.out (by rw[qjk,<-HL.out.1];omega)).mono ?_;rintro e w5 ⟨rfl,aC⟩;have DH:(nI (jk p m M).2).contains (j:Int)=(jk p m M).2.contains j:=by
    unfold nI;rw[Bool.eq_iff_iff];simp only [List.contains_iff_mem,List.mem_map];exact⟨fun ⟨a,ha,e⟩=>(by
      have:a=j:=by omega
      exact this ▸ ha),fun h=>⟨j,h,rfl⟩⟩
   rw[DH];have H5:=lhd aC;clear aC DH;cases hcj:(jk p m M).2.contains j with
   |true =>
    have fx:q3w (jk p m M).2 (j+1)=c:=by rw[q6f,hcj,HC.out];rfl
    have Tl:=lhd fx;clear fx hcj;go_wp2;go_roundw
    case measure=>simp[vI];omega
    case rel =>refine⟨j+1,qh (by omega),?_⟩;rw[Tl.out];exact⟨rfl,by omega,(lhd (HB.out.below H5.out)),(lhd (HI.out.keep H5.out (by have h1:=HB.out.size;have h2:=HW.a8;have h3:=HW.a9;omega)))⟩
   |false =>
    have ly:j ∉ (jk p m M).2:=fun h=>by
     have:(jk p m M).2.contains j=true:=by simpa using h
     rw[hcj]at this;cases this
    have BP:=qoa cj ly;rw[<-HC.out]at BP;have pf:c<f:=by rw[HF.out.1];exact(gk.1 BP).1
    have jX:j*f+c<K:=by rw[HK.out];exact q2x cj pf
    have BM:K<=160000:=by rw[HK.out];exact gd (Nat.mul_le_mul hm Tk) (by decide)
    have wX:IntKind.i64.wrap ((j:Int)*(f:Int))=((j*f:Nat):Int):=kd (by omega) (by omega);have Ob:IntKind.i64.wrap (((j*f:Nat):Int)+(c:Int))=((j*f+c:Nat):Int):=by rw[<-Int.natCast_add];exact IntWalk.i64_in _ (by omega)
    have aS:Bk E W w5:=HB.out.below H5.out;have qJ:E<wo/\B5≠E/\w≠E/\w2≠E:=by have h1:=HB.out.size;have h2:=HW.a8;have h3:=HW.a9;omega
    have c3:=aS.cell (p:=⟨B5,3,Z⟩) qJ.2.1 HW.a3;have c2:=aS.cell (p:=⟨B5,2,Z⟩) qJ.2.1 HW.a2;have uD:=HI.out.keep H5.out qJ.1;have pA:=q4u (F:=(q37 p m M).flatten) (D:=fun t=>decide (t%f<c)) jX;obtain⟨s1,s2⟩:=uD _ _ pA;obtain⟨x1,eZ⟩:=x4 (j*f);rw[<-eZ]at wX Ob jX s1 s2;obtain⟨x2,rU⟩:=x4 (x1+c);rw[<-rU]at Ob jX s1 s2;obtain⟨od,xG⟩:=x4 ((if decide (x2%f<c)=true then j6 (q37 p m M).flatten x2 else 0):Int);rw[<-xG]at s1;have kE:(x2:Int)<K:=by omega
    have HX:=qan eZ rU jX ly BP pf aS qJ uD;clear eZ rU xG ly BP pf aS qJ uD pA hcj jX;go_wp2_with fail;obtain⟨wS,Hj⟩:=x4 (w5.setCell ⟨E,x2,Z⟩ (H φ 1));rw[<-Hj];have Oc:IL wS E (pS (q37 p m M).flatten K (q9h (jk p m M).2 f c j 0)):=by have h5:=HX.b8.put (k:=x2) (by rw[q38];exact HX.a2) 1;have h6:=qog (show 1<p by omega) HF.out.1 HX.a4 cj HX.a3;rw[<-HX.out.1,<-HX.a1]at h6;have h7:=qje (F:=(q37 p m M).flatten) (K:=K) (jk p m M).2 (j:=j) HX.a5 (by rw[<-HX.out.1,<-HX.a1];exact HX.a2);rw[<-HX.out.1,<-HX.a1,h6]at h7;rw[h7,<-Hj]at h5;exact h5
    have Od:Bk E W wS:=by rw[Hj];exact HX.a6.set _ _
    have Tn:=lhd Oc;have To:=lhd Od;clear Oc Od Hj c2 c3 s1 s2 HI HB;go_loopw [48] (fun x wq=>∃k:Nat,x=k/\k<=L/\Hid (Bk E W wq)/\Hid (IL wq E (pS (q37 p m M).flatten K (q9h (jk p m M).2 f c j k)))) (fun x _=>L-(vI x).toNat)
    case atStart=>exact⟨0,rfl,gm _,To,(lhd Tn.out)⟩
    case round =>
     obtain⟨k,rfl,hk,aR,uO⟩:=hrel;by_cases aZ:k<L
     ·have Kw:(k:Int)<L:=by omega
      obtain⟨ad,q,K1,hq,d0⟩:=q00 H2.out.1 aZ;subst K1;obtain⟨qn,hqn,rfl⟩:∃qn:Nat,(jk p m M).2[k]? =Y qn/\q=(qn:Int):=by
       unfold nI at hq;rw[List.getElem?_map]at hq;cases hz:(jk p m M).2[k]? with
       |none=>rw[hz]at hq;cases hq
       |some z=>rw[hz]at hq;exact⟨z,rfl,(osi hq).symm⟩
      have oC:qn<m:=HO.b4 _ (gi hqn);have cO:k<r:=by omega
      have DI:qn*f+c<K:=by rw[HK.out];exact q2x oC HX.a5
      have iz:k*m+j<N:=by rw[H2.b2];exact q2x cO cj
      obtain⟨zX,n,K3,hn,d1⟩:=q00 Tj.out.sl iz;subst K3;have bZ:n=j6 (zm (jk p m M).1 k) j:=by rw[flat_get HF.out.2.wid (by rw[HF.out.2.len];exact cO) cj]at hn;exact(osi hn).symm
      have Hk:0<=n/\n<p:=by rw[bZ];exact HF.out.2.at cO cj
      have Tp:N<=160000:=by rw[H2.b2];exact gd (Nat.mul_le_mul hr hm) (by decide)
      have kP:IntKind.i64.wrap (p-n)=p-n:=IntWalk.i64_in _ (by omega);obtain⟨vs,nh⟩:=x4 (p-n);have Tq:IntKind.i64.wrap (p-n)=vs:=by rw[nh];exact kP
      obtain⟨vv,K6⟩:=x4 ((p-n)%p);have Tr:vs.tmod p=vv:=by rw[nh,K6];exact q4g (by omega)
      have iU:vv=j6 (q37 p m M).flatten (qn*f+c):=by rw[K6,bZ,qre (show 1<p by omega) HF.out.1 HX.a4 HL.out.2 hqn oC]
      have Hr:IntKind.i64.wrap ((qn:Int)*(f:Int))=((qn*f:Nat):Int):=kd (by omega) (by omega);have K7:IntKind.i64.wrap (((qn*f:Nat):Int)+(c:Int))=((qn*f+c:Nat):Int):=by rw[<-Int.natCast_add];exact IntWalk.i64_in _ (by omega)
      have xE:IntKind.i64.wrap ((k:Int)*(m:Int))=((k*m:Nat):Int):=kd (by omega) (by omega);have sr:IntKind.i64.wrap (((k*m:Nat):Int)+(j:Int))=((k*m+j:Nat):Int):=by rw[<-Int.natCast_add];exact IntWalk.i64_in _ (by omega)
      have qJ:=HX.a7;have c3:=aR.out.cell (p:=⟨B5,3,Z⟩) qJ.2.1 HW.a3;have c2:=aR.out.cell (p:=⟨B5,2,Z⟩) qJ.2.1 HW.a2;have t0:=aR.out.cell (p:=w) qJ.2.2.1 HW.a4;have t2:=aR.out.cell (p:=⟨w,2,Z⟩) qJ.2.2.1 HW.a5;have t3:=aR.out.cell (p:=⟨w2,3,Z⟩) qJ.2.2.2 HW.a6;have pA:=q4u (F:=(q37 p m M).flatten) (D:=q9h (jk p m M).2 f c j k) DI;obtain⟨s1,s2⟩:=uO.out _ _ pA;have bR:(ad.add k).block≠E/\(zX.add (k*m+j)).block≠E:=by have h1:=World.block_lt_of_cell? _ _ d0;have h2:=World.block_lt_of_cell? _ _ d1;have h4:=HW.a8;omega
      have uN:=HW.b11
      replace d0:=aR.out.cell bR.1 (J uN d0)
      replace d1:=aR.out.cell bR.2 (J uN d1)
      have cp:p≠0:=by omega
      have DJ:=DI;obtain⟨g1,fp⟩:=x4 (qn*f);obtain⟨y1,fQ⟩:=x4 (k*m);rw[<-fp]at Hr K7 DI s1 s2;rw[<-fQ]at xE sr iz d1;obtain⟨g2,fY⟩:=x4 (g1+c);obtain⟨y2,pB⟩:=x4 (y1+j);rw[<-fY]at K7 DI s1 s2;rw[<-pB]at sr iz d1;have xF:(⟨E,g2,Z⟩ : Addr)=⟨E,0+g2,Z⟩:=by rw[Nat.zero_add]
      rw[xF]at s1 s2;obtain⟨od,xG⟩:=x4 ((if q9h (jk p m M).2 f c j k g2=true then j6 (q37 p m M).flatten g2 else 0):Int);have Ts:wr ⟨E,0+g2,Z⟩=od:=by rw[s1,xG]
      have HG:=kg fp fY iU DJ hqn;clear hq hqn oC hn bZ Hk Tp kP nh K6 iU pA bR fp fY fQ pB xF uN s1 xG qJ DJ;go_wp2_with fail;refine qp4 fun KO cD=>?_
      go_cut [53]from 54 to 77 (fun _ wx=>wx=wr.drew.setCell ⟨E,0+g2,Z⟩ vv)
      case first =>
       rename_i At K2 hJ aQ;refine yg (by kernel_rfl) (VF [Y (σ (Y ⟨B5,3,Z⟩)),Y (O E K K),Y (qn:Int),Y (σ (Y ⟨B5,2,Z⟩)),Y (f:Int),Y (g1:Int),Y (c:Int),Y (g2:Int),Y (σ w),Y p,Y (σ (Y ⟨w2,3,Z⟩)),Y (O (Y zX) N sc),Y (k:Int),Y (σ (Y ⟨w,2,Z⟩)),Y (m:Int),Y (y1:Int),Y (j:Int),Y (y2:Int),Y (σ (Y (zX.add y2))),Y n,Y vs,Y (σ w),Y p,Y vv,Y (σ (Y ⟨E,0+g2,Z⟩)),Z]) [] (fun _ w2=>w2=wr.drew) 25 20 83 rfl (by kernel_rfl) (by kernel_rfl) (by decide) (by kernel_rfl) (by kernel_rfl) (by kernel_rfl) (by decide) (by decide) (fun a w2=>K2 a w2) ?start ?pure ?eff ?last ?done
       case start=>exact rfl
       case pure =>
        intro i o ho hL hE a w' vs hT ai hd ab hsz;obtain rfl:w'=wr.drew:=hT
        match i,ho,hL,hE,ai,hd with
        |0,rfl,_,_,_,_ =>exact yb rfl (zr qu ab 5) (jv _ _ _ (by decide)) (gone rfl)
        |1,rfl,_,_,_,hd =>exact jm rfl (j8 hd 0) (yy _ _ _ _ _ (c3)) (gone rfl)
        |2,rfl,_,_,_,_ =>exact jo (.inl rfl) ⟨_,rfl,fun _ h=>(zr qu ab 9).trans (osi h),rfl⟩
        |3,rfl,_,_,_,_ =>exact yb rfl (zr qu ab 5) (jv _ _ _ (by decide)) (gone rfl)
        |4,rfl,_,_,_,hd =>exact jm rfl (j8 hd 3) (qe0 _ _ _ (c2)) (gone rfl)
        |5,rfl,_,_,_,hd =>exact q0n rfl (j8 hd 2) (j8 hd 4) rfl (q2d Hr _) (gone rfl)
        |6,rfl,_,_,_,_ =>exact jo (.inl rfl) ⟨_,rfl,fun _ h=>(zr qu ab 6).trans (osi h),rfl⟩
        |7,rfl,_,_,_,hd =>exact q0n rfl (j8 hd 5) (j8 hd 6) rfl (q1u K7 _) (gone rfl)
        |8,rfl,_,_,_,_ =>exact yb rfl (zr qu ab 1) (jv _ _ _ (by decide)) (gone rfl)
        |9,rfl,_,_,_,hd =>exact jm rfl (j8 hd 8) (qe0 _ _ _ (t0)) (gone rfl)
        |10,rfl,_,_,_,_ =>exact yb rfl (zr qu ab 3) (jv _ _ _ (by decide)) (gone rfl)
        |11,rfl,_,_,_,hd =>exact jm rfl (j8 hd 10) (yy _ _ _ _ _ (t3)) (gone rfl)
        |12,rfl,_,_,_,_ =>exact jo (.inl rfl) ⟨_,rfl,fun _ h=>(zr qu ab 8).trans (osi h),rfl⟩
        |13,rfl,_,_,_,_ =>exact yb rfl (zr qu ab 1) (jv _ _ _ (by decide)) (gone rfl)
        |14,rfl,_,_,_,hd =>exact jm rfl (j8 hd 13) (qe0 _ _ _ (t2)) (gone rfl)
        |15,rfl,_,_,_,hd =>exact q0n rfl (j8 hd 12) (j8 hd 14) rfl (q2d xE _) (gone rfl)
        |16,rfl,_,_,_,_ =>exact jo (.inl rfl) ⟨_,rfl,fun _ h=>(zr qu ab 7).trans (osi h),rfl⟩
        |17,rfl,_,_,_,hd =>exact q0n rfl (j8 hd 15) (j8 hd 16) rfl (q1u sr _) (gone rfl)
        |18,rfl,_,_,_,hd =>exact q4r rfl (j8 hd 11) (j8 hd 17) (q0w _ _ _ _ _ iz) (gone rfl)
        |19,rfl,_,_,_,hd =>exact jm rfl (j8 hd 18) (qe0 _ _ _ (d1)) (gone rfl)
        |20,rfl,_,_,_,hd =>exact q0n rfl (j8 hd 9) (j8 hd 19) rfl (q91 Tq _) (gone rfl)
        |21,rfl,_,_,_,_ =>exact yb rfl (zr qu ab 1) (jv _ _ _ (by decide)) (gone rfl)
        |22,rfl,_,_,_,hd =>exact jm rfl (j8 hd 21) (qe0 _ _ _ (t0)) (gone rfl)
        |23,rfl,_,_,_,hd =>exact q0n rfl (j8 hd 20) (j8 hd 22) rfl (qjl cp Tr _) (gone rfl)
        |24,rfl,_,_,_,hd =>exact q4r rfl (j8 hd 1) (j8 hd 7) (q3o _ _ _ _ _ _ DI) (gone rfl)
        |25,ho,hL,hE,ai,hd =>exact absurd rfl hL
        |i+26,ho,hL,hE,ai,hd =>have:i+26<26:=(gh.1 ho).1;omega
       case eff =>
        intro s i o hs ho a w' vs hl hT hd hr ab hsz
        match s,hs,hr,hl with
        |s+0,hs,hr,hl=>cases hs
       case last =>intro o ho a w' vs hsz aO hl hT hf hr ab;obtain rfl:=osi ho;obtain rfl:=gl hl;obtain rfl:w'=wr.drew:=hT;have g0:a 77 V=σ (Y ⟨E,0+g2,Z⟩):=hf 24 _ _ rfl rfl (by kernel_rfl) (by decide) _ rfl;have uP:a 76 V=vv:=hf 23 _ _ rfl rfl (by kernel_rfl) (by decide) _ rfl;refine⟨rfl,ju _ _ _ rfl _ _ g0 uP (q6j _ _ _ _ Ts s2) ?_⟩;refine aQ _ _ (Met.intro (hJ _ _ ⟨a 53 V,a 54 V,a 55 V,a 56 V,a 57 V,a 58 V,a 59 V,a 60 V,a 61 V,a 62 V,a 63 V,a 64 V,a 65 V,a 66 V,a 67 V,a 68 V,a 69 V,a 70 V,a 71 V,a 72 V,a 73 V,a 74 V,a 75 V,a 76 V,a 77 V,rfl,(q8z hsz aO ab).trans ?_⟩));kernel_rfl
       case done=>exact fun _ _ h=>h
      case rest =>
       subst hcut;refine cD _ _ ?_;go_wp2;go_roundw
       case measure=>simp[vI];omega
       case rel =>refine⟨k+1,qh (by omega),by omega,(lhd ((aR.out.below (qb (Below.refl _ wr) 1)).set _ _)),(show Hid _ from ?_)⟩;have h5:=(show IL wr.drew E (pS (q37 p m M).flatten K (q9h (jk p m M).2 f c j k))from uO.out).put (k:=qn*f+c) (by rw[q38];exact HG.a3) vv;rw[HG.a2,qmb HX.a5 HG.a3 HG.b4]at h5;rw[HG.a2,HG.a1,HG.out.1];exact h5
     ·have aM:k=L:=by omega
      have eS:pS (q37 p m M).flatten K (q9h (jk p m M).2 f c j k)=pS (q37 p m M).flatten K (fun t=>decide (t%f<q3w (jk p m M).2 (j+1))):=by
       have h1:=qof (show 1<p by omega) HF.out.1 HX.a4;have h2:q3w (jk p m M).2 (j+1)=c+1:=by
        rw[q6f,<-HC.out];have:(jk p m M).2.contains j=false:=by simpa using HX.a3
        rw[this];rfl
       rw[h2,aM,HL.out.1,HK.out];exact h1
      rw[eS]at uO;have GC:q3w (jk p m M).2 (j+1)=c+1:=by
       rw[q6f,<-HC.out];have:(jk p m M).2.contains j=false:=by simpa using HX.a3
       rw[this];rfl
      have Tt:c<f:=HX.a5;have Oe:=lhd GC;clear aM eS GC;go_wp2;go_roundw
      case measure=>simp[vI];omega
      case rel =>refine⟨j+1,qh (by omega),?_⟩;rw[Oe.out];exact⟨qh (by omega),by omega,aR,by rw[<-Oe.out];exact uO⟩
  ·have sf:j=m:=by omega
   have iA:pS (q37 p m M).flatten K (fun t=>decide (t%f<q3w (jk p m M).2 j))=(q37 p m M).flatten:=by
    have aZ:(q37 p m M).flatten.length=K:=by rw[(qcj (show 1<p by omega) (m:=m) (M:=M)).q1d,HK.out,HF.out.1]
    refine ql1 aZ fun t ht=>.inl (decide_eq_true ?_)
    rw[sf,qau,<-HF.out.1];refine Nat.mod_lt _ ?_;rcases Nat.eq_zero_or_pos f with h0|h0
    ·rw[HK.out,h0]at ht;omega
    ·exact h0
   rw[iA]at HI;have bT:B5≠E/\w+1≠E:=by have:=HW.a8;omega
   have x0:=HB.out.cell (p:=B5) bT.1 HW.out.1;have x1:=HB.out.cell (p:=⟨B5,1,Z⟩) bT.1 HW.a1;have x2:=HB.out.cell (p:=⟨B5,2,Z⟩) bT.1 HW.a2;have x3:=HB.out.cell (p:=⟨B5,3,Z⟩) bT.1 HW.a3;have bV:=HW.a10;have r0:=HB.out.cell (p:=(w+1:Nat)) bT.2 (J bV H0.a2);have r1:=HB.out.cell (p:=⟨w+1,1,Z⟩) bT.2 (J bV H0.a3);have r2:=HB.out.cell (p:=⟨w+1,2,Z⟩) bT.2 (J bV H0.a4);have r3:=HB.out.cell (p:=⟨w+1,3,Z⟩) bT.2 (J bV H0.a5);have ak:w.heap.size+1<W0:=by have:=H0.a1;omega
   have cL:∀i,wo.frozen? ⟨w+1,i,Z⟩=false:=fun i=>HB.out.q5d bT.2 (gz ak bV.size) (xf bV (by exact ak) (H0.a6 i))
   have z0:=cL 0;have z1:=cL 1;have z2:=cL 2;have z3:=cL 3;clear sf iA bT bV cL ak;go_wp2_with fail;obtain⟨e0,e1,e2,e3⟩:=q1f r0 r1 r2 r3;have BN:=HW.a8;have lD:=HW.a9;have aT:Below w w wo:=HB.out.lower (H0.out.1.trans (HW.a10.mono (by have:=H0.a1;omega))) (by omega) (by omega);refine bodyPost_ret (v:=I #[p,m,f,O E K K]) (by simp[results,Tryz.results86,go_sem,e0,e1,e2,e3]) rfl ⟨E,f,HF.out.1,by rw[HK.out],by omega,?_,?_,jj aT (by omega) _ _ _ _⟩
   ·have:=HB.out.size;simp[World.setCell];omega
   ·exact(((HI.out.set _ _ (by show w+1≠E;omega)).set _ _ (by show w+1≠E;omega)).set _ _ (by show w+1≠E;omega)).set _ _ (by show w+1≠E;omega)
