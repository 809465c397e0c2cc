/- Steps towards MorseMaps. Conditions: none. -/
import Derived.Test.YtlhicnfeajejhaaGreatDoorHMk
set_option maxRecDepth 1000000
set_option maxHeartbeats 16000000
namespace Go.Proofs.YtlhicnfeajejhaaGreatDoor
open Go.RowKit Go.Cx
attribute [local go_sem ↓] Go.wp_at_zero Go.wp_at_succ
theorem q7p (l:List Ce) (k:Nat) (x:Ce) (hx:l[k]? = some x):zk (l.take (k+1))=zk (l.take k)++x.s.map (fun y=>(x.id,y)):=by
 rw[gq,hx,q0l];simp[zk]
theorem q76 (l:List Ce) (k:Nat) (x:Ce) (hx:l[k]? = some x):(zk (l.take k)).length+x.s.length<=(zk l).length:=by
 have e3:zk l=zk (l.take (k+1))++zk (l.drop (k+1)):=by rw[<-q0l,gr]
 have:=congrArg List.length e3;rw[q7p l k x hx,gc,gc,gn] at this;omega
theorem qf9 {S N:Nat} {M L:List (Int×Int)} (hL:Cn L) (he:∀ c,co L c=co M c) (hM:∀ p∈M,nb p.2<=S) (hn:M.length<=N):∀ p∈L,nb p.2<=S+N:=fun p hp=>by
 have h1:=q0y S M hM p.1;rw[<-he,zl hL.1 hp] at h1;omega
theorem qc2 (v:Value) (l:List Ce) (u:Value) (t:List Tm) (S:Nat) (w:World) (h:SlC w v l) (hok:COk l) (k:Sl w 3 u (tv t)) (hS:TOk S t) (hb:S+t.length+(zk l).length<=1099511627700) :
  Calls Tryz.prog 49 #[.agg #[v],u] w fun e w'=>∃ r,e = .returned r/\qbv w w' r (co (bdL (co (prs t)) (zk l))) (zk l).length:=by
 obtain⟨a,len,cap,rfl⟩:=qg h.1;obtain⟨a2,n2,dD,rfl⟩:=qg k;have hlen:l.length=len:=by
  obtain⟨_,_,h3,_⟩:=h.1.open;rw[qt Ce.qp] at h3;omega
 have eJ:len<=maxLen:=by obtain⟨h1,h2,_⟩:=h.1.open;omega
 unfold maxLen at eJ;have HH:=lhd h;have jG:=lhd hok;have HK:=lhd k;have HL:=lhd hlen;have yJ:∀ c,nb (co (prs t) c)<=S+t.length:=fun c=>by
  have:=q0y S (prs t) (q19 hS) c
  rwa [kq] at this
 have lk:=lhd yJ;have HS:=lhd hS;clear h hok k hlen yJ hS;obtain⟨N,hN⟩ : ∃ N,N=(zk l).length:=⟨_,rfl⟩
 rw[<-hN] at hb ⊢;have HN:=lhd hN;clear hN;go_enter Tryz.func49,Tryz.ntmps49;go_wp2;obtain⟨W,hW⟩ : ∃ W:World,W=w.alloc (.cells #[.slice a len cap] 26):=⟨_,rfl⟩
 rw[<-hW];have q0:W.cell? ⟨w.heap.size,0,none⟩=some (.slice a len cap):=by rw[hW];exact qd w #[.slice a len cap] 26 (0,0) 0
 have hw:Below w.heap.size w W:=by rw[hW];exact(Below.refl _ _).alloc (nlr _) _
 have hz:W.heap.size=w.heap.size+1:=by rw[hW];simp
 clear hW;go_loopw [5,6] (fun o i wr=>∃ (k:Nat) (L:List (Int×Int)),i = .int .i64 k/\k<=len/\Cn L/\Hid (∀ c,co L c=co (bdL (co (prs t)) (zk (l.take k))) c)/\Hid (L.length<=(zk (l.take k)).length)/\wr.ownsRow W.heap.size 71 3 o L.length (tv (ctm L))/\Below W.heap.size W wr) (fun _ i _=>len - (vI i).toNat)
 case atStart=>exact⟨0,[],rfl,gp _,Cn.nil,(show Hid _ from fun c=>rfl),(show Hid _ from nlr _),World.ownsRow_nil _ _ _ _,Below.refl _ _⟩
 case round =>
  obtain⟨k,L,rfl,hk,hL,lC,vZ,ag,hB⟩:=hrel;have aM:Below w.heap.size w wr:=hw.trans (hB.mono (by omega));have c0:wr.cell? ⟨w.heap.size,0,none⟩=some (.slice a len cap):=q1n hB (by omega) q0;by_cases hlt:k < len
  ·obtain⟨x,hx⟩ : ∃ x,l[k]? = some x:=⟨_,g8 (by rw[HL.out];exact hlt)⟩
   obtain⟨h2,h3,h4,h5,h6⟩:=HH.out.1.open;obtain⟨ad,rfl⟩ : ∃ ad,a=some ad:=by
    cases a with
    | none=>have:=h5 rfl;omega
    | some ad=>exact⟨ad,rfl⟩
   obtain⟨e0,e1,e2⟩:=zh l k x hx;have w0:=h6 ad rfl _ _ e0;have w2:w.cell? ⟨(ad.add (k*3)).block,(ad.add (k*3)).off+2,none⟩=some (.slice x.a x.n x.c):=by rw[qi _ _ _ (by omega)];exact h6 ad rfl _ _ e2
   have d0:wr.cell? (ad.add (k*3))=some (.int .i64 x.id):=q8 aM w0;have fe:=gh hx;have iT:=HH.out.2 x fe;obtain⟨⟨oJ,-⟩,-,iU⟩:=jG.out x fe;obtain⟨g2,g3,g4,g5,g6⟩:=iT.open;unfold maxLen at g3;have aW:x.s.length=x.n:=by rw[qt Sd.qp] at g4;omega
   have G2:=lhd g2;have fZ:x.n<=9223372036854775807:=gl g2 g3;have cW:=lhd (aiq (q7p l k x hx) (q76 l k x hx));have sW:=lhd iU;have G5:=lhd g5;have G6:=lhd g6;have fR:=lhd aW;have W0:=lhd w0;have W2:=lhd w2;have cw:=HK.out.q8 aM;have Ke:=lhd cw;have ij:S+t.length<=1099511627775:=by omega
   clear h2 h3 h4 h5 h6 e0 e1 e2 hx fe iT iU g2 g4 g5 g6 aW w0 w2 cw;obtain⟨wo,dB⟩ : ∃ wo:World,wo=wr:=⟨_,rfl⟩
   subst dB;go_wp2_with fail;refine(qh0 _ t x.id S _ Ke.out HS.out ij).mono ?_;rintro e w1 ⟨rfl,aj⟩;obtain⟨y,hy⟩ : ∃ y,y=co (prs t) x.id:=⟨_,rfl⟩
   rw[<-hy];have uY:nb y<=S+t.length:=by rw[hy];exact lk.out _
   have HY:=lhd hy;clear hy;go_wp2;obtain⟨V,hV⟩ : ∃ V:World,V=w1.alloc (.cells #[.bool (decide (y < 0)),.string (mg y)] 38):=⟨_,rfl⟩
   rw[<-hV];have Bw:=qd w1 #[.bool (decide (y < 0)),.string (mg y)] 38 (0,0) 0;have ib:=qd w1 #[.bool (decide (y < 0)),.string (mg y)] 38 (0,0) 1;have zD:Below wo.heap.size wo V:=by rw[hV];exact aj.alloc aj.size _
   have cj:V.heap.size=w1.heap.size+1:=by rw[hV];simp
   have jD:=aj.size;have aK:Below w.heap.size w V:=aM.trans (zD.mono aM.size);have v0:V.cell? ⟨w1.heap.size,0,none⟩=some (.bool (decide (y < 0))):=by rw[hV];exact Bw
   have v1:V.cell? ⟨w1.heap.size,1,none⟩=some (.string (mg y)):=by rw[hV];exact ib
   have v2:V.cell? ⟨w.heap.size,0,none⟩=some (.slice (some ad) len cap):=q8 zD c0;have v3:V.cell? ⟨(ad.add (k*3)).block,(ad.add (k*3)).off+2,none⟩=some (.slice x.a x.n x.c):=q8 aK W2.out;have wa:=qa ag zD;have dT:Below W.heap.size W V:=hB.trans (zD.mono hB.size);clear hV Bw ib ag aj c0 d0;go_loopw [5,8] (fun o i wr=>∃ (j:Nat) (L:List (Int×Int)),i = .int .i64 j/\j<=x.n/\Cn L/\Hid (∀ c,co L c=co (bdL (co (prs t)) (zk (l.take k)++(x.s.take j).map (fun s=>(x.id,s)))) c)/\Hid (L.length<=(zk (l.take k)).length+j)/\wr.ownsRow W.heap.size 71 3 o L.length (tv (ctm L))/\Below V.heap.size V wr) (fun _ i _=>x.n - (vI i).toNat)
   case atStart=>exact⟨0,L,rfl,gp _,hL,(show Hid _ from fun c=>by rw[lC.out];simp),(show Hid _ from vZ.out),wa,Below.refl _ _⟩
   case round =>
    clear wa hL lC vZ;obtain⟨j,L,rfl,hj,hL,lC,vZ,ag,dF⟩:=hrel;have TR:Below W.heap.size W wr:=dT.trans (dF.mono dT.size);have u0:wr.cell? ⟨w1.heap.size,0,none⟩=some (.bool (decide (y < 0))):=q8 dF v0;have u1:wr.cell? ⟨w1.heap.size,1,none⟩=some (.string (mg y)):=q8 dF v1;have u2:wr.cell? ⟨w.heap.size,0,none⟩=some (.slice (some ad) len cap):=q8 dF v2;have u3:=q8 dF v3;by_cases fE:j < x.n
    ·obtain⟨s,hs⟩ : ∃ s,x.s[j]? = some s:=⟨_,g8 (by rw[fR.out];exact fE)⟩
     obtain⟨bd,ew⟩ : ∃ ad,x.a=some ad:=by
      cases hxa:x.a with
      | none=>have:=G5.out hxa;have:=G2.out;omega
      | some ad=>exact⟨ad,rfl⟩
     obtain⟨f0,f1⟩:=zw x.s j s hs;have Dp:Below w.heap.size w wr:=aK.trans (dF.mono aK.size);have z0:wr.cell? (bd.add (j*2))=some (.int .i64 s.c):=q8 Dp (G6.out bd ew _ _ f0);have z1:wr.cell? ⟨(bd.add (j*2)).block,(bd.add (j*2)).off+1,none⟩=some (.int .i64 s.g):=by rw[qi _ _ _ (by omega)];exact q8 Dp (G6.out bd ew _ _ f1)
     rw[ew] at u3;obtain⟨⟨r1,r2⟩,r3,r4⟩:=sW.out s (gh hs);have OF:∀ p∈bdL (co (prs t)) (zk (l.take k)++(x.s.take j).map (fun s=>(x.id,s))),nb p.2<=S+t.length+8:=fun p hp=>by
      obtain⟨q,hq,rfl⟩:=go.1 hp;have h1:=q39 (co (prs t) q.1) q.2.g;have h2:=lk.out q.1;have h3:nb q.2.g<=8:=by
       have:I64 q.2.g:=by
        rcases gH.1 hq with hq | hq
        ·obtain⟨e,he,hq⟩:=List.mem_flatMap.1 hq;obtain⟨s,hs,rfl⟩:=go.1 hq;exact((jG.out e (gK he)).2.2 s hs).2
        ·obtain⟨s,hs,rfl⟩:=go.1 hq;exact(sW.out s (gK hs)).2
       exact q48 _ this.1 this.2
      show nb (co (prs t) q.1*q.2.g)<=_;omega
     have qW:∀ p∈L,nb p.2<=S+t.length+8+N:=qf9 hL lC.out OF (by
      rw[q5c,gc,gn,gd,HN.out];have:=cW.out.2;omega)
     have yK:=lhd qW;clear qW OF;have By:=lhd hs;have cr:nb s.g<=8:=q48 _ r3 r4;have SZ:=q39 y s.g;have og:L.length<=1099511627776:=by
      have h1:=vZ.out;have h2:=cW.out.2;have h3:=fR.out;have h4:=HN.out;omega
     clear f0 f1 hs;go_wp2_with fail
     go_region_held3 (fun w'=>w'.cell? ⟨w.heap.size,0,none⟩=some (.slice (some ad) len cap)/\w'.cell? ⟨(ad.add (k*3)).block,(ad.add (k*3)).off+2,none⟩=some (.slice (some bd) x.n x.c)/\w'.cell? (bd.add (j*2))=some (.int .i64 s.c)/\w'.cell? ⟨(bd.add (j*2)).block,(bd.add (j*2)).off+1,none⟩=some (.int .i64 s.g)/\w'.cell? ⟨w1.heap.size,0,none⟩=some (.bool (decide (y < 0)))/\w'.cell? ⟨w1.heap.size,1,none⟩=some (.string (mg y)))
      (first | exact⟨by assumption,by assumption,by assumption,by assumption,by assumption,by assumption⟩ | fail)
      (first
       |(go_at_call 29;refine(q58 _ _ r3 r4).mono ?_;rintro e w2 ⟨rfl,ao⟩;have ar:Below wr.heap.size wr w2:=xt (ao.mono (by simp));have a1:=q8 ar u2;have a2:=q8 ar u3;have a3:=q8 ar z0;have a4:=q8 ar z1;have a5:=q8 ar u0;have a6:=q8 ar u1;have aN:=qa ag ar)
       |(go_at_call 34;refine(qmz _ _ _ _ _ (by rw[j5];omega) (by rw[j5];omega)).mono ?_;rintro e w3 ⟨rfl,aO⟩;rw[q0i,q0i];have aA:Below wr.heap.size wr w3:=ar.trans (aO.mono ar.size);have GI:=q8 aO a1;have TS:=q8 aO a2;have TT:=q8 aO a3;have Dq:=q8 aO a4;have TU:=q8 aO a5;have TV:=q8 aO a6;have iA:=qa aN aO)
       |(go_at_call 113;refine(qmj _ L s.c _ _ (S+t.length+8+N) _ (Sl.qc iA) hL yK.out (by rw[j5];omega) (by omega) (by omega)).mono ?_;rintro e w4 ⟨r,rfl,L',bL,fl,aT⟩;rw[q0i] at bL;have aF:Below wr.heap.size wr w4:=aA.trans (aT.mono aA.size);have b1:=q8 aT GI;have b2:=q8 aT TS;have b3:=q8 aT TT;have b4:=q8 aT Dq;have b5:=q8 aT TU;have b6:=q8 aT TV))
     have aB:V.heap.size<=wr.heap.size:=dF.size;have Kf:W.heap.size<=V.heap.size:=dT.size;go_wp2;go_roundw
     case measure=>simp[vI];omega
     case rel =>
      refine⟨j+1,L',qh (by omega),by omega,bL.cn,(show Hid _ from fun c=>?_),(show Hid _ from gl bL.len (by have:=vZ.out;omega)),qf fl (gl (gl Kf aB) aA.size),dF.trans (aF.mono aB)⟩;rw[bL.co,lC.out,gq,By.out];simp only [Option.toList_some,bm,gP,List.map_nil,<-gE];rw[q5x,q5a,HY.out]
    ·have dC:j=x.n:=by omega
     have Gw:=lhd dC;clear dC;have dx:x.s.take j=x.s:=gm (by rw[fR.out];omega);rw[dx,<-cW.out.1] at lC;go_wp2;go_roundw
     case measure=>simp[vI];omega
     case rel=>exact⟨k+1,L,qh (by omega),by omega,hL,lC,(show Hid _ from by show _<=_;rw[cW.out.1,gc,gn,fR.out,<-Gw.out];exact vZ.out),ag,TR⟩
  ·have bG:k=len:=by omega
   have eG:=lhd bG;clear bG;have dx:l.take k=l:=gm (by rw[HL.out];omega);rw[dx] at lC vZ;go_wp2;go_ret;exact⟨_,rfl,⟨L,hL,lC.out,by rw[HN.out];exact vZ.out,qf ag (by omega)⟩,aM⟩
end Go.Proofs.YtlhicnfeajejhaaGreatDoor
