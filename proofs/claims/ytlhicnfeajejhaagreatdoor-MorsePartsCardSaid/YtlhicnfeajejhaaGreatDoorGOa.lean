/- Steps towards MorseParts. Conditions: none. -/
import Derived.Test.YtlhicnfeajejhaaGreatDoorGMk
set_option maxRecDepth 1000000
set_option maxHeartbeats 16000000
namespace Go.Proofs.YtlhicnfeajejhaaGreatDoor
open Go.RowKit Go.Cx
attribute [local go_sem ↓] Go.wp_at_zero Go.wp_at_succ
theorem q7p (l:List Ce) (k:Nat) (x:Ce) (hx:l[k]? = some x):zk (l.take (k+1))=zk (l.take k)++x.s.map (fun y=>(x.id,y)):=by rw[gq,hx,q0l];simp[zk]
theorem q76 (l:List Ce) (k:Nat) (x:Ce) (hx:l[k]? = some x):(zk (l.take k)).length+x.s.length<=(zk l).length:=by
 have e3:zk l=zk (l.take (k+1))++zk (l.drop (k+1)):=by rw[<-q0l,gu]
 have:=congrArg List.length e3;rw[q7p l k x hx,gc,gc,gn] at this;omega
theorem qf9 {S N:Nat} {M L:List (Int×Int)} (hL:Cn L) (he:∀ c,co L c=co M c) (hM:∀ p∈M,nb p.2<=S) (hn:M.length<=N):∀ p∈L,nb p.2<=S+N:=fun p hp=>by have h1:=q0y S M hM p.1;rw[<-he,zl hL.1 hp] at h1;omega
theorem qc2 (v:Value) (l:List Ce) (u:Value) (t:List Tm) (S:Nat) (w:World) (h:SlC w v l) (hok:COk l) (k:Sl w 3 u (tv t)) (hS:TOk S t) (hb:S+t.length+(zk l).length<=1099511627700) :
  Calls Tryz.prog 49 #[.agg #[v],u] w fun e w'=>∃ r,e = .returned r/\qbv w w' r (co (bdL (co (prs t)) (zk l))) (zk l).length:=by
 obtain⟨a,len,cap,rfl⟩:=qg h.1;obtain⟨a2,n2,dN,rfl⟩:=qg k;have hlen:l.length=len:=by obtain⟨_,_,h3,_⟩:=h.1.open;rw[qt Ce.qp] at h3;omega
 have iK:len<=maxLen:=by obtain⟨h1,h2,_⟩:=h.1.open;omega
 unfold maxLen at iK;have HH:=lhd h;have kU:=lhd hok;have HK:=lhd k;have HL:=lhd hlen;have zZ:∀ c,nb (co (prs t) c)<=S+t.length:=fun c=>by
  have:=q0y S (prs t) (q19 hS) c
  rwa [kq] at this
 have mq:=lhd zZ;have HS:=lhd hS;clear h hok k hlen zZ hS;obtain⟨N,hN⟩ : ∃ N,N=(zk l).length:=⟨_,rfl⟩
 rw[<-hN] at hb ⊢;have HN:=lhd hN;clear hN;go_enter Tryz.func49,Tryz.ntmps49;go_wp2;obtain⟨W,hW⟩ : ∃ W:World,W=w.alloc (.cells #[.slice a len cap] 26):=⟨_,rfl⟩
 rw[<-hW];have q0:W.cell? ⟨w.heap.size,0,none⟩=some (.slice a len cap):=by rw[hW];exact qd w #[.slice a len cap] 26 (0,0) 0
 have hw:BwQ w W:=by rw[hW];exact bal _ _
 have hz:W.heap.size=w.heap.size+1:=by rw[hW];simp
 clear hW;go_loopw [5,6] (fun o i wr=>∃ (k:Nat) (L:List (Int×Int)),i = .int .i64 k/\k<=len/\Cn L/\Hid (∀ c,co L c=co (bdL (co (prs t)) (zk (l.take k))) c)/\Hid (L.length<=(zk (l.take k)).length)/\wr.ownsRow W.heap.size 71 3 o L.length (tv (ctm L))/\BwQ W wr) (fun _ i _=>len - (vI i).toNat)
 case atStart=>exact⟨0,[],rfl,go _,Cn.nil,(show Hid _ from fun c=>rfl),(show Hid _ from nlr _),World.ownsRow_nil _ _ _ _,Below.refl _ _⟩
 case round =>
  obtain⟨k,L,rfl,hk,hL,qE,xQ,ah,hB⟩:=hrel;have aP:BwQ w wr:=hw.trans (hB.mono (by omega));have c0:wr.cell? ⟨w.heap.size,0,none⟩=some (.slice a len cap):=q1n hB (by omega) q0;by_cases hlt:k < len
  ·obtain⟨x,hx⟩ : ∃ x,l[k]? = some x:=⟨_,g8 (by rw[HL.out];exact hlt)⟩
   obtain⟨h2,h3,h4,h5,h6⟩:=HH.out.1.open;obtain⟨ad,rfl⟩:=sadq h5 (by omega)
   obtain⟨e0,e1,e2⟩:=zh l k x hx;have w0:=h6 ad rfl _ _ e0;have w2:w.cell? ⟨(ad.add (k*3)).block,(ad.add (k*3)).off+2,none⟩=some (.slice x.a x.n x.c):=by rw[qi _ _ _ (by omega)];exact h6 ad rfl _ _ e2
   have d0:wr.cell? (ad.add (k*3))=some (.int .i64 x.id):=q8 aP w0;have fK:=gh hx;have kC:=HH.out.2 x fK;obtain⟨⟨qG,-⟩,-,kD⟩:=kU.out x fK;obtain⟨g2,g3,g4,g5,g6⟩:=kC.open;unfold maxLen at g3;have aK:x.s.length=x.n:=by rw[qt Sd.qp] at g4;omega
   have G2:=lhd g2;have iT:x.n<=9223372036854775807:=gl g2 g3;have cr:=lhd (aiq (q7p l k x hx) (q76 l k x hx));have uq:=lhd kD;have G5:=lhd g5;have G6:=lhd g6;have iS:=lhd aK;have W0:=lhd w0;have W2:=lhd w2;have bZ:=HK.out.q8 aP;have Kt:=lhd bZ;have iM:S+t.length<=1099511627775:=by omega
   clear h2 h3 h4 h5 h6 e0 e1 e2 hx fK kC kD g2 g4 g5 g6 aK w0 w2 bZ;obtain⟨wo,de⟩ : ∃ wo:World,wo=wr:=⟨_,rfl⟩
   subst de;go_wp2_with fail;refine(qh0 _ t x.id S _ Kt.out HS.out iM).mono ?_;rintro e w1 ⟨rfl,ai⟩;obtain⟨y,hy⟩ : ∃ y,y=co (prs t) x.id:=⟨_,rfl⟩
   rw[<-hy];have wT:nb y<=S+t.length:=by rw[hy];exact mq.out _
   have HY:=lhd hy;clear hy;go_wp2;obtain⟨V,hV⟩ : ∃ V:World,V=w1.alloc (.cells #[.bool (decide (y < 0)),.string (mg y)] 38):=⟨_,rfl⟩
   rw[<-hV];have CC:=qd w1 #[.bool (decide (y < 0)),.string (mg y)] 38 (0,0) 0;have iU:=qd w1 #[.bool (decide (y < 0)),.string (mg y)] 38 (0,0) 1;have Aw:BwQ wo V:=by rw[hV];exact ai.alloc ai.size _
   have bR:V.heap.size=w1.heap.size+1:=by rw[hV];simp
   have kI:=ai.size;have aN:BwQ w V:=(btr aP Aw);have v0:V.cell? ⟨w1.heap.size,0,none⟩=some (.bool (decide (y < 0))):=by rw[hV];exact CC
   have v1:V.cell? ⟨w1.heap.size,1,none⟩=some (.string (mg y)):=by rw[hV];exact iU
   have v2:V.cell? ⟨w.heap.size,0,none⟩=some (.slice (some ad) len cap):=q8 Aw c0;have v3:V.cell? ⟨(ad.add (k*3)).block,(ad.add (k*3)).off+2,none⟩=some (.slice x.a x.n x.c):=q8 aN W2.out;have xR:=qa ah Aw;have ei:BwQ W V:=(btr hB Aw);clear hV CC iU ah ai c0 d0;go_loopw [5,8] (fun o i wr=>∃ (j:Nat) (L:List (Int×Int)),i = .int .i64 j/\j<=x.n/\Cn L/\Hid (∀ c,co L c=co (bdL (co (prs t)) (zk (l.take k)++(x.s.take j).map (fun s=>(x.id,s)))) c)/\Hid (L.length<=(zk (l.take k)).length+j)/\wr.ownsRow W.heap.size 71 3 o L.length (tv (ctm L))/\BwQ V wr) (fun _ i _=>x.n - (vI i).toNat)
   case atStart=>exact⟨0,L,rfl,go _,hL,(show Hid _ from fun c=>by rw[qE.out];simp),(show Hid _ from xQ.out),xR,Below.refl _ _⟩
   case round =>
    clear xR hL qE xQ;obtain⟨j,L,rfl,hj,hL,qE,xQ,ah,dP⟩:=hrel;have TW:BwQ W wr:=(btr ei dP);have u0:wr.cell? ⟨w1.heap.size,0,none⟩=some (.bool (decide (y < 0))):=q8 dP v0;have u1:wr.cell? ⟨w1.heap.size,1,none⟩=some (.string (mg y)):=q8 dP v1;have u2:wr.cell? ⟨w.heap.size,0,none⟩=some (.slice (some ad) len cap):=q8 dP v2;have u3:=q8 dP v3;by_cases ij:j < x.n
    ·obtain⟨s,hs⟩ : ∃ s,x.s[j]? = some s:=⟨_,g8 (by rw[iS.out];exact ij)⟩
     obtain⟨bd,dI⟩ : ∃ ad,x.a=some ad:=by
      cases hxa:x.a with
      | none=>have:=G5.out hxa;have:=G2.out;omega
      | some ad=>exact⟨ad,rfl⟩
     obtain⟨f0,f1⟩:=zw x.s j s hs;have Ee:BwQ w wr:=(btr aN dP);have z0:wr.cell? (bd.add (j*2))=some (.int .i64 s.c):=q8 Ee (G6.out bd dI _ _ f0);have z1:wr.cell? ⟨(bd.add (j*2)).block,(bd.add (j*2)).off+1,none⟩=some (.int .i64 s.g):=by rw[qi _ _ _ (by omega)];exact q8 Ee (G6.out bd dI _ _ f1)
     rw[dI] at u3;obtain⟨⟨r1,r2⟩,r3,r4⟩:=uq.out s (gh hs);have OP:∀ p∈bdL (co (prs t)) (zk (l.take k)++(x.s.take j).map (fun s=>(x.id,s))),nb p.2<=S+t.length+8:=fun p hp=>by
      obtain⟨q,hq,rfl⟩:=gr.1 hp;have h1:=q39 (co (prs t) q.1) q.2.g;have h2:=mq.out q.1;have h3:nb q.2.g<=8:=by
       have:I64 q.2.g:=by
        rcases gF.1 hq with hq | hq
        ·obtain⟨e,he,hq⟩:=List.mem_flatMap.1 hq;obtain⟨s,hs,rfl⟩:=gr.1 hq;exact((kU.out e (gI he)).2.2 s hs).2
        ·obtain⟨s,hs,rfl⟩:=gr.1 hq;exact(uq.out s (gI hs)).2
       exact q48 _ this.1 this.2
      show nb (co (prs t) q.1*q.2.g)<=_;omega
     have Dz:∀ p∈L,nb p.2<=S+t.length+8+N:=qf9 hL qE.out OP (by rw[q5c,gc,gn,gd,HN.out];have:=cr.out.2;omega)
     have J7:=lhd Dz;clear Dz OP;have CD:=lhd hs;have bX:nb s.g<=8:=q48 _ r3 r4;have Y7:=q39 y s.g;have pB:L.length<=1099511627776:=by have h1:=xQ.out;have h2:=cr.out.2;have h3:=iS.out;have h4:=HN.out;omega
     clear f0 f1 hs;go_wp2_with fail
     go_region_held3 (fun w'=>w'.cell? ⟨w.heap.size,0,none⟩=some (.slice (some ad) len cap)/\w'.cell? ⟨(ad.add (k*3)).block,(ad.add (k*3)).off+2,none⟩=some (.slice (some bd) x.n x.c)/\w'.cell? (bd.add (j*2))=some (.int .i64 s.c)/\w'.cell? ⟨(bd.add (j*2)).block,(bd.add (j*2)).off+1,none⟩=some (.int .i64 s.g)/\w'.cell? ⟨w1.heap.size,0,none⟩=some (.bool (decide (y < 0)))/\w'.cell? ⟨w1.heap.size,1,none⟩=some (.string (mg y)))
      (first | exact⟨by assumption,by assumption,by assumption,by assumption,by assumption,by assumption⟩ | fail)
      (first
       |(go_at_call 29;refine(q58 _ _ r3 r4).mono ?_;rintro e w2 ⟨rfl,aj⟩;have aw:BwQ wr w2:=xt (aj.mono (by simp));have a1:=q8 aw u2;have a2:=q8 aw u3;have a3:=q8 aw z0;have a4:=q8 aw z1;have a5:=q8 aw u0;have a6:=q8 aw u1;have aY:=qa ah aw)
       |(go_at_call 34;refine(qmz _ _ _ _ _ (by rw[j5];omega) (by rw[j5];omega)).mono ?_;rintro e w3 ⟨rfl,aQ⟩;rw[q0i,q0i];have ar:BwQ wr w3:=(btr aw aQ);have Ia:=q8 aQ a1;have TX:=q8 aQ a2;have TY:=q8 aQ a3;have Ef:=q8 aQ a4;have TZ:=q8 aQ a5;have Ua:=q8 aQ a6;have lk:=qa aY aQ)
       |(go_at_call 113;refine(qmj _ L s.c _ _ (S+t.length+8+N) _ (Sl.qc lk) hL J7.out (by rw[j5];omega) (by omega) (by omega)).mono ?_;rintro e w4 ⟨r,rfl,L',cY,nf,aM⟩;rw[q0i] at cY;have aD:BwQ wr w4:=(btr ar aM);have b1:=q8 aM Ia;have b2:=q8 aM TX;have b3:=q8 aM TY;have b4:=q8 aM Ef;have b5:=q8 aM TZ;have b6:=q8 aM Ua))
     have az:V.heap.size<=wr.heap.size:=dP.size;have Ku:W.heap.size<=V.heap.size:=ei.size;go_wp2;go_roundw
     case measure=>simp[vI];omega
     case rel =>refine⟨j+1,L',qh (by omega),by omega,cY.cn,(show Hid _ from fun c=>?_),(show Hid _ from gl cY.len (by have:=xQ.out;omega)),qf nf (gl (gl Ku az) ar.size),dP.trans (aD.mono az)⟩;rw[cY.co,qE.out,gq,CD.out];simp only [Option.toList_some,List.map_append,List.map_cons,List.map_nil,<-List.append_assoc];rw[q5x,q5a,HY.out]
    ·have dM:j=x.n:=by omega
     have GS:=lhd dM;clear dM;have cO:x.s.take j=x.s:=gm (by rw[iS.out];omega);rw[cO,<-cr.out.1] at qE;go_wp2;go_roundw
     case measure=>simp[vI];omega
     case rel=>exact⟨k+1,L,qh (by omega),by omega,hL,qE,(show Hid _ from by show _<=_;rw[cr.out.1,gc,gn,iS.out,<-GS.out];exact xQ.out),ah,TW⟩
  ·have bE:k=len:=by omega
   have eZ:=lhd bE;clear bE;have cO:l.take k=l:=gm (by rw[HL.out];omega);rw[cO] at qE xQ;go_wp2;go_ret;exact⟨_,rfl,⟨L,hL,qE.out,by rw[HN.out];exact xQ.out,qf ah (by omega)⟩,aP⟩
end Go.Proofs.YtlhicnfeajejhaaGreatDoor
