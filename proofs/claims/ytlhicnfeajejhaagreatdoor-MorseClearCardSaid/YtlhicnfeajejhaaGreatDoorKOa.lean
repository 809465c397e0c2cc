/- cocycleref07: Boundary. cocycleref07: In. cocycleref07: Coboundary. -/
import Derived.Test.YtlhicnfeajejhaaGreatDoorKMk
set_option maxRecDepth 1000000
set_option maxHeartbeats 16000000
namespace Go.Proofs.YtlhicnfeajejhaaGreatDoor
open Go.RowKit Go.Cx
attribute [local go_sem ↓] Go.wp_at_zero Go.wp_at_succ
theorem q7p (l:List Ce) (k:Nat) (x:Ce) (hx:l[k]? = some x):zk (l.take (k+1))=zk (l.take k)++x.s.map (fun y=>(x.id,y)):=by
 rw[List.take_add_one,hx,q0l];simp[zk]
theorem q76 (l:List Ce) (k:Nat) (x:Ce) (hx:l[k]? = some x):(zk (l.take k)).length+x.s.length<=(zk l).length:=by
 have e3:zk l=zk (l.take (k+1))++zk (l.drop (k+1)):=by rw[<-q0l,List.take_append_drop]
 have:=congrArg List.length e3;rw[q7p l k x hx,List.length_append,List.length_append,List.length_map] at this;omega
theorem qf9 {S N:Nat} {M L:List (Int×Int)} (hL:Cn L) (he:∀ c,co L c=co M c) (hM:∀ p∈M,nb p.2<=S) (hn:M.length<=N):∀ p∈L,nb p.2<=S+N:=fun p hp=>by
 have h1:=q0y S M hM p.1;rw[<-he,zl hL.1 hp] at h1;omega
theorem qc2 (v:Value) (l:List Ce) (u:Value) (t:List Tm) (S:Nat) (w:World) (h:SlC w v l) (hok:COk l) (k:Sl w 3 u (tv t)) (hS:TOk S t) (hb:S+t.length+(zk l).length<=1099511627700) :
  Calls Tryz.prog 49 #[.agg #[v],u] w fun e w'=>∃ r,e = .returned r/\qbv w w' r (co (bdL (co (prs t)) (zk l))) (zk l).length:=by
 obtain⟨a,len,cap,rfl⟩:=qg h.1;obtain⟨a2,n2,cap2,rfl⟩:=qg k;have hlen:l.length=len:=by
  obtain⟨_,_,h3,_⟩:=h.1.open;rw[qt Ce.qp] at h3;omega
 have hcm:len<=maxLen:=by obtain⟨h1,h2,_⟩:=h.1.open;omega
 unfold maxLen at hcm;have HH:=lhd h;have HOK:=lhd hok;have HK:=lhd k;have HL:=lhd hlen;have hfb:∀ c,nb (co (prs t) c)<=S+t.length:=fun c=>by
  have:=q0y S (prs t) (q19 hS) c
  rwa [kq] at this
 have HFB:=lhd hfb;have HS:=lhd hS;clear h hok k hlen hfb hS;obtain⟨N,hN⟩ : ∃ N,N=(zk l).length:=⟨_,rfl⟩
 rw[<-hN] at hb ⊢;have HN:=lhd hN;clear hN;go_enter Tryz.func49,Tryz.ntmps49;go_wp2;obtain⟨W,hW⟩ : ∃ W:World,W=w.alloc (.cells #[.slice a len cap] 26):=⟨_,rfl⟩
 rw[<-hW];have q0:W.cell? ⟨w.heap.size,0,none⟩=some (.slice a len cap):=by rw[hW];exact qd w #[.slice a len cap] 26 (0,0) 0
 have hw:Below w.heap.size w W:=by rw[hW];exact(Below.refl _ _).alloc (nlr _) _
 have hz:W.heap.size=w.heap.size+1:=by rw[hW];simp
 clear hW;go_loopw [5,6] (fun o i wr=>∃ (k:Nat) (L:List (Int×Int)),i = .int .i64 k/\k<=len/\Cn L/\Hid (∀ c,co L c=co (bdL (co (prs t)) (zk (l.take k))) c)/\Hid (L.length<=(zk (l.take k)).length)/\wr.ownsRow W.heap.size 71 3 o L.length (tv (ctm L))/\Below W.heap.size W wr) (fun _ i _=>len - (vI i).toNat)
 case atStart=>exact⟨0,[],rfl,Nat.zero_le _,Cn.nil,(show Hid _ from fun c=>rfl),(show Hid _ from nlr _),World.ownsRow_nil _ _ _ _,Below.refl _ _⟩
 case round =>
  obtain⟨k,L,rfl,hk,hL,HLc,HLl,hown,hB⟩:=hrel;have hBw:Below w.heap.size w wr:=hw.trans (hB.mono (by omega));have c0:wr.cell? ⟨w.heap.size,0,none⟩=some (.slice a len cap):=q1n hB (by omega) q0;by_cases hlt:k < len
  ·obtain⟨x,hx⟩ : ∃ x,l[k]? = some x:=⟨_,List.getElem?_eq_getElem (by rw[HL.out];exact hlt)⟩
   obtain⟨h2,h3,h4,h5,h6⟩:=HH.out.1.open;obtain⟨ad,rfl⟩ : ∃ ad,a=some ad:=by
    cases a with
    | none=>have:=h5 rfl;omega
    | some ad=>exact⟨ad,rfl⟩
   obtain⟨e0,e1,e2⟩:=zh l k x hx;have w0:=h6 ad rfl _ _ e0;have w2:w.cell? ⟨(ad.add (k*3)).block,(ad.add (k*3)).off+2,none⟩=some (.slice x.a x.n x.c):=by rw[qi _ _ _ (by omega)];exact h6 ad rfl _ _ e2
   have d0:wr.cell? (ad.add (k*3))=some (.int .i64 x.id):=q8 hBw w0;have hxm:=List.mem_of_getElem? hx;have hsx:=HH.out.2 x hxm;obtain⟨⟨hxi,-⟩,-,hsd⟩:=HOK.out x hxm;obtain⟨g2,g3,g4,g5,g6⟩:=hsx.open;unfold maxLen at g3;have hsl:x.s.length=x.n:=by rw[qt Sd.qp] at g4;omega
   have G2:=lhd g2;have hxn:x.n<=9223372036854775807:=Nat.le_trans g2 g3;have HTK:=lhd (aiq (q7p l k x hx) (q76 l k x hx));have HSD:=lhd hsd;have G5:=lhd g5;have G6:=lhd g6;have HSL:=lhd hsl;have W0:=lhd w0;have W2:=lhd w2;have htk:=HK.out.q8 hBw;have HTT:=lhd htk;have hs1:S+t.length<=1099511627775:=by omega
   clear h2 h3 h4 h5 h6 e0 e1 e2 hx hxm hsx hsd g2 g4 g5 g6 hsl w0 w2 htk;obtain⟨wo,hwo⟩ : ∃ wo:World,wo=wr:=⟨_,rfl⟩
   subst hwo;go_wp2_with fail;refine(qh0 _ t x.id S _ HTT.out HS.out hs1).mono ?_;rintro e w1 ⟨rfl,hb1⟩;obtain⟨y,hy⟩ : ∃ y,y=co (prs t) x.id:=⟨_,rfl⟩
   rw[<-hy];have hyb:nb y<=S+t.length:=by rw[hy];exact HFB.out _
   have HY:=lhd hy;clear hy;go_wp2;obtain⟨V,hV⟩ : ∃ V:World,V=w1.alloc (.cells #[.bool (decide (y < 0)),.string (mg y)] 38):=⟨_,rfl⟩
   rw[<-hV];have hy0:=qd w1 #[.bool (decide (y < 0)),.string (mg y)] 38 (0,0) 0;have hy1:=qd w1 #[.bool (decide (y < 0)),.string (mg y)] 38 (0,0) 1;have hoV:Below wo.heap.size wo V:=by rw[hV];exact hb1.alloc hb1.size _
   have hz1:V.heap.size=w1.heap.size+1:=by rw[hV];simp
   have hbs:=hb1.size;have hBV:Below w.heap.size w V:=hBw.trans (hoV.mono hBw.size);have v0:V.cell? ⟨w1.heap.size,0,none⟩=some (.bool (decide (y < 0))):=by rw[hV];exact hy0
   have v1:V.cell? ⟨w1.heap.size,1,none⟩=some (.string (mg y)):=by rw[hV];exact hy1
   have v2:V.cell? ⟨w.heap.size,0,none⟩=some (.slice (some ad) len cap):=q8 hoV c0;have v3:V.cell? ⟨(ad.add (k*3)).block,(ad.add (k*3)).off+2,none⟩=some (.slice x.a x.n x.c):=q8 hBV W2.out;have hownV:=qa hown hoV;have hWV:Below W.heap.size W V:=hB.trans (hoV.mono hB.size);clear hV hy0 hy1 hown hb1 c0 d0;go_loopw [5,8] (fun o i wr=>∃ (j:Nat) (L:List (Int×Int)),i = .int .i64 j/\j<=x.n/\Cn L/\Hid (∀ c,co L c=co (bdL (co (prs t)) (zk (l.take k)++(x.s.take j).map (fun s=>(x.id,s)))) c)/\Hid (L.length<=(zk (l.take k)).length+j)/\wr.ownsRow W.heap.size 71 3 o L.length (tv (ctm L))/\Below V.heap.size V wr) (fun _ i _=>x.n - (vI i).toNat)
   case atStart=>exact⟨0,L,rfl,Nat.zero_le _,hL,(show Hid _ from fun c=>by rw[HLc.out];simp),(show Hid _ from HLl.out),hownV,Below.refl _ _⟩
   case round =>
    clear hownV hL HLc HLl;obtain⟨j,L,rfl,hj,hL,HLc,HLl,hown,hBi⟩:=hrel;have hbo:Below W.heap.size W wr:=hWV.trans (hBi.mono hWV.size);have u0:wr.cell? ⟨w1.heap.size,0,none⟩=some (.bool (decide (y < 0))):=q8 hBi v0;have u1:wr.cell? ⟨w1.heap.size,1,none⟩=some (.string (mg y)):=q8 hBi v1;have u2:wr.cell? ⟨w.heap.size,0,none⟩=some (.slice (some ad) len cap):=q8 hBi v2;have u3:=q8 hBi v3;by_cases hlt2:j < x.n
    ·obtain⟨s,hs⟩ : ∃ s,x.s[j]? = some s:=⟨_,List.getElem?_eq_getElem (by rw[HSL.out];exact hlt2)⟩
     obtain⟨bd,hbd⟩ : ∃ ad,x.a=some ad:=by
      cases hxa:x.a with
      | none=>have:=G5.out hxa;have:=G2.out;omega
      | some ad=>exact⟨ad,rfl⟩
     obtain⟨f0,f1⟩:=zw x.s j s hs;have hBwr:Below w.heap.size w wr:=hBV.trans (hBi.mono hBV.size);have z0:wr.cell? (bd.add (j*2))=some (.int .i64 s.c):=q8 hBwr (G6.out bd hbd _ _ f0);have z1:wr.cell? ⟨(bd.add (j*2)).block,(bd.add (j*2)).off+1,none⟩=some (.int .i64 s.g):=by rw[qi _ _ _ (by omega)];exact q8 hBwr (G6.out bd hbd _ _ f1)
     rw[hbd] at u3;obtain⟨⟨r1,r2⟩,r3,r4⟩:=HSD.out s (List.mem_of_getElem? hs);have hMb:∀ p∈bdL (co (prs t)) (zk (l.take k)++(x.s.take j).map (fun s=>(x.id,s))),nb p.2<=S+t.length+8:=fun p hp=>by
      obtain⟨q,hq,rfl⟩:=List.mem_map.1 hp;have h1:=q39 (co (prs t) q.1) q.2.g;have h2:=HFB.out q.1;have h3:nb q.2.g<=8:=by
       have:I64 q.2.g:=by
        rcases List.mem_append.1 hq with hq | hq
        ·obtain⟨e,he,hq⟩:=List.mem_flatMap.1 hq;obtain⟨s,hs,rfl⟩:=List.mem_map.1 hq;exact((HOK.out e (List.mem_of_mem_take he)).2.2 s hs).2
        ·obtain⟨s,hs,rfl⟩:=List.mem_map.1 hq;exact(HSD.out s (List.mem_of_mem_take hs)).2
       exact q48 _ this.1 this.2
      show nb (co (prs t) q.1*q.2.g)<=_;omega
     have hLS:∀ p∈L,nb p.2<=S+t.length+8+N:=qf9 hL HLc.out hMb (by
      rw[q5c,List.length_append,List.length_map,List.length_take,HN.out];have:=HTK.out.2;omega)
     have HLS:=lhd hLS;clear hLS hMb;have HSS:=lhd hs;have hsg:nb s.g<=8:=q48 _ r3 r4;have hnp:=q39 y s.g;have hLn:L.length<=1099511627776:=by
      have h1:=HLl.out;have h2:=HTK.out.2;have h3:=HSL.out;have h4:=HN.out;omega
     clear f0 f1 hs;go_wp2_with fail
     go_region_held3 (fun w'=>w'.cell? ⟨w.heap.size,0,none⟩=some (.slice (some ad) len cap)/\w'.cell? ⟨(ad.add (k*3)).block,(ad.add (k*3)).off+2,none⟩=some (.slice (some bd) x.n x.c)/\w'.cell? (bd.add (j*2))=some (.int .i64 s.c)/\w'.cell? ⟨(bd.add (j*2)).block,(bd.add (j*2)).off+1,none⟩=some (.int .i64 s.g)/\w'.cell? ⟨w1.heap.size,0,none⟩=some (.bool (decide (y < 0)))/\w'.cell? ⟨w1.heap.size,1,none⟩=some (.string (mg y)))
      (first | exact⟨by assumption,by assumption,by assumption,by assumption,by assumption,by assumption⟩ | fail)
      (first
       |(go_at_call 29;refine(q58 _ _ r3 r4).mono ?_;rintro e w2 ⟨rfl,hb2⟩;have hB2:Below wr.heap.size wr w2:=xt (hb2.mono (by simp));have a1:=q8 hB2 u2;have a2:=q8 hB2 u3;have a3:=q8 hB2 z0;have a4:=q8 hB2 z1;have a5:=q8 hB2 u0;have a6:=q8 hB2 u1;have hown2:=qa hown hB2)
       |(go_at_call 34;refine(qmz _ _ _ _ _ (by rw[j5];omega) (by rw[j5];omega)).mono ?_;rintro e w3 ⟨rfl,hb3⟩;rw[q0i,q0i];have hB3:Below wr.heap.size wr w3:=hB2.trans (hb3.mono hB2.size);have a1':=q8 hb3 a1;have a2':=q8 hb3 a2;have a3':=q8 hb3 a3;have a4':=q8 hb3 a4;have a5':=q8 hb3 a5;have a6':=q8 hb3 a6;have hown3:=qa hown2 hb3)
       |(go_at_call 113;refine(qmj _ L s.c _ _ (S+t.length+8+N) _ (Sl.qc hown3) hL HLS.out (by rw[j5];omega) (by omega) (by omega)).mono ?_;rintro e w4 ⟨r,rfl,L',hIns,hown4,hb4⟩;rw[q0i] at hIns;have hB4:Below wr.heap.size wr w4:=hB3.trans (hb4.mono hB3.size);have b1:=q8 hb4 a1';have b2:=q8 hb4 a2';have b3:=q8 hb4 a3';have b4:=q8 hb4 a4';have b5:=q8 hb4 a5';have b6:=q8 hb4 a6'))
     have hst:V.heap.size<=wr.heap.size:=hBi.size;have hst2:W.heap.size<=V.heap.size:=hWV.size;go_wp2;go_roundw
     case measure=>simp[vI];omega
     case rel =>
      refine⟨j+1,L',qh (by omega),by omega,hIns.cn,(show Hid _ from fun c=>?_),(show Hid _ from Nat.le_trans hIns.len (by have:=HLl.out;omega)),qf hown4 (Nat.le_trans (Nat.le_trans hst2 hst) hB3.size),hBi.trans (hB4.mono hst)⟩;rw[hIns.co,HLc.out,List.take_add_one,HSS.out];simp only [Option.toList_some,List.map_append,List.map_cons,List.map_nil,<-List.append_assoc];rw[q5x,q5a,HY.out]
    ·have hje:j=x.n:=by omega
     have Hje:=lhd hje;clear hje;have hmt:x.s.take j=x.s:=List.take_of_length_le (by rw[HSL.out];omega);rw[hmt,<-HTK.out.1] at HLc;go_wp2;go_roundw
     case measure=>simp[vI];omega
     case rel=>exact⟨k+1,L,qh (by omega),by omega,hL,HLc,(show Hid _ from by show _<=_;rw[HTK.out.1,List.length_append,List.length_map,HSL.out,<-Hje.out];exact HLl.out),hown,hbo⟩
  ·have hke:k=len:=by omega
   have Hke:=lhd hke;clear hke;have hmt:l.take k=l:=List.take_of_length_le (by rw[HL.out];omega);rw[hmt] at HLc HLl;go_wp2;go_ret;exact⟨_,rfl,⟨L,hL,HLc.out,by rw[HN.out];exact HLl.out,qf hown (by omega)⟩,hBw⟩
def isC (dim c:Int) (l:List Ce):Bool:=l.any fun x=>x.id == c && x.dim == dim
theorem qhl (dim c:Int) (l:List Ce) (x:Ce):isC dim c (l++[x])=(isC dim c l || (x.id == c && x.dim == dim)):=by simp[isC]
theorem qdv (dim c:Int) (l:List Ce):isC dim c l=true↔∃ x∈l,x.id=c/\x.dim=dim:=by
 simp[isC,List.any_eq_true]
theorem qq1 (v:Value) (l:List Ce) (dim:Int) (u:Value) (t:List Tm) (S:Nat) (w:World) (h:SlC w v l) (k:Sl w 3 u (tv t)) (hS:TOk S t) (hb:S+t.length<=1099511627774) :
  Calls Tryz.prog 48 #[.agg #[v],.int .i64 dim,u] w fun e w'=>∃ q:Bool,e = .returned (.bool q)/\(q=true↔∀ c,co (prs t) c≠0->∃ x∈l,x.id=c/\x.dim=dim)/\Below w.heap.size w w':=by
 obtain⟨a,len,cap,rfl⟩:=qg h.1;obtain⟨a2,n2,cap2,rfl⟩:=qg k;have hlen:l.length=len:=by
  obtain⟨_,_,h3,_⟩:=h.1.open;rw[qt Ce.qp] at h3;omega
 have hcm:len<=maxLen:=by obtain⟨h1,h2,_⟩:=h.1.open;omega
 unfold maxLen at hcm;have HH:=lhd h.1;have HL:=lhd hlen;have hk0:=k.alloc (.cells #[.slice a len cap] 26);have HK:=lhd hk0;have HS:=lhd hS;clear h k hlen hS hk0;go_enter Tryz.func48,Tryz.ntmps48;go_wp2_with fail;obtain⟨W,hW⟩ : ∃ W:World,W=w.alloc (.cells #[.slice a len cap] 26):=⟨_,rfl⟩
 rw[<-hW];have q0:W.cell? ⟨w.heap.size,0,none⟩=some (.slice a len cap):=by rw[hW];exact qd w #[.slice a len cap] 26 (0,0) 0
 have hw:Below w.heap.size w W:=by rw[hW];exact(Below.refl _ _).alloc (nlr _) _
 have hz:W.heap.size=w.heap.size+1:=by rw[hW];simp
 rw[<-hW] at HK;clear hW;refine(qk4 _ t S _ HK.out HS.out hb).mono ?_;rintro e w1 ⟨r,rfl,⟨⟨L,hL,hLc,hLn,hr⟩,hb1⟩⟩;obtain⟨a3,cap3,rfl⟩:=qj hr;have hrs:=Sl.qc hr;have hB1:Below w.heap.size w w1:=hw.trans (hb1.mono hw.size);have q1:w1.cell? ⟨w.heap.size,0,none⟩=some (.slice a len cap):=q8 hb1 q0;obtain⟨n,hn⟩ : ∃ n,n=L.length:=⟨_,rfl⟩
 rw[<-hn] at hrs ⊢;have hnm:n<=maxLen:=by obtain⟨h1,h2,_⟩:=hrs.open;omega
 unfold maxLen at hnm;have HN:=lhd hn;have HR:=lhd hrs;have HCN:=lhd (aiq hL hLc);clear hn hrs hL hLc hLn hr hb1 q0;go_wp2;go_loopw [8] (fun i wr=>∃ k:Nat,i = .int .i64 k/\k<=n/\Hid (∀ p∈L.take k,isC dim p.1 l=true)/\Below w1.heap.size w1 wr) (fun i _=>n - (vI i).toNat)
 case atStart=>exact⟨0,rfl,Nat.zero_le _,(show Hid _ from fun p hp=>by simp at hp),Below.refl _ _⟩
 case round =>
  obtain⟨k,rfl,hk,HF,hB⟩:=hrel;have hBw:Below w.heap.size w wr:=hB1.trans (hB.mono hB1.size);have c0:wr.cell? ⟨w.heap.size,0,none⟩=some (.slice a len cap):=q8 hB q1;by_cases hlt:k < n
  ·obtain⟨p,hp⟩ : ∃ p,L[k]? = some p:=⟨_,List.getElem?_eq_getElem (by rw[<-HN.out];exact hlt)⟩
   obtain⟨h2,h3,h4,h5,h6⟩:=HR.out.open;obtain⟨ad3,rfl⟩ : ∃ ad,a3=some ad:=by
    cases a3 with
    | none=>have:=h5 rfl;omega
    | some ad=>exact⟨ad,rfl⟩
   have hpt:(ctm L)[k]? = some ⟨p.1,decide (p.2 < 0),mg p.2⟩:=by unfold ctm;rw[List.getElem?_map,hp];rfl
   have e0:=(jd (ctm L) k _ hpt).1;have d0:w1.cell? (ad3.add (k*3))=some (.int .i64 p.1):=h6 ad3 rfl _ _ e0;have HP:=lhd hp;obtain⟨c,hc⟩ : ∃ c,c=p.1:=⟨_,rfl⟩
   rw[<-hc] at d0;have D0:=lhd d0;have HC:=lhd hc;clear h2 h3 h4 h5 h6 hpt e0 hp hc d0;obtain⟨wo,hwo⟩ : ∃ wo:World,wo=wr:=⟨_,rfl⟩
   subst hwo;go_wp2;go_loopw [9,10] (fun f i wr=>∃ j:Nat,i = .int .i64 j/\j<=len/\f = .bool (isC dim c (l.take j))/\Below w1.heap.size w1 wr) (fun _ i _=>len - (vI i).toNat)
   case atStart=>exact⟨0,rfl,Nat.zero_le _,rfl,hB⟩
   case round =>
    clear c0 hBw hB;obtain⟨j,rfl,hj,rfl,hB⟩:=hrel;have hBw:Below w.heap.size w wr:=hB1.trans (hB.mono hB1.size);have c0:wr.cell? ⟨w.heap.size,0,none⟩=some (.slice a len cap):=q8 hB q1;have d0:wr.cell? (ad3.add (k*3))=some (.int .i64 c):=q8 hB D0.out;by_cases hlt2:j < len
    ·obtain⟨x,hx⟩ : ∃ x,l[j]? = some x:=⟨_,List.getElem?_eq_getElem (by rw[HL.out];exact hlt2)⟩
     obtain⟨h2,h3,h4,h5,h6⟩:=HH.out.open;obtain⟨ad,rfl⟩ : ∃ ad,a=some ad:=by
      cases a with
      | none=>have:=h5 rfl;omega
      | some ad=>exact⟨ad,rfl⟩
     obtain⟨e0,e1,e2⟩:=zh l j x hx;have d1:wr.cell? (ad.add (j*3))=some (.int .i64 x.id):=q8 hBw (h6 ad rfl _ _ e0);have d2:wr.cell? ⟨(ad.add (j*3)).block,(ad.add (j*3)).off+1,none⟩=some (.int .i64 x.dim):=by rw[qi _ _ _ (by omega)];exact q8 hBw (h6 ad rfl _ _ e1)
     have htk:isC dim c (l.take (j+1))=(isC dim c (l.take j) || (x.id == c && x.dim == dim)):=by rw[List.take_add_one,hx];exact qhl _ _ _ _
     have HTK:=lhd htk;obtain⟨q,hq⟩ : ∃ q,q=isC dim c (l.take j):=⟨_,rfl⟩
     rw[<-hq];rw[<-hq] at HTK;clear h2 h3 h4 h5 h6 e0 e1 e2 hx htk hq;by_cases hi:x.id=c
     ·have hi1:(x.id == c)=true:=by simpa using hi
      rw[hi1] at HTK;clear hi;by_cases hd:x.dim=dim
      ·have hd1:(x.dim == dim)=true:=by simpa using hd
       rw[hd1] at HTK;clear hd;go_wp2_with fail
       go_quiet (fail)
       go_wp2;go_roundw
       case measure=>simp[vI];omega
       case rel=>exact⟨j+1,qh (by omega),by omega,by rw[HTK.out];simp,qb hB nq⟩
      ·have hd1:(x.dim == dim)=false:=by simpa using hd
       rw[hd1] at HTK;clear hd;go_wp2_with fail
       go_quiet (fail)
       go_wp2;go_roundw
       case measure=>simp[vI];omega
       case rel=>exact⟨j+1,qh (by omega),by omega,by rw[HTK.out];simp,qb hB nq⟩
     ·have hi1:(x.id == c)=false:=by simpa using hi
      rw[hi1] at HTK;clear hi;go_wp2_with fail
      go_quiet (fail)
      go_wp2;go_roundw
      case measure=>simp[vI];omega
      case rel=>exact⟨j+1,qh (by omega),by omega,by rw[HTK.out];simp,qb hB nq⟩
    ·have hje:l.take j=l:=List.take_of_length_le (by rw[HL.out];omega);rw[hje];clear hje;obtain⟨q,hq⟩ : ∃ q,q=isC dim c l:=⟨_,rfl⟩
     rw[<-hq];have HQ:=lhd hq;clear hq;cases q with
     | true =>
      go_wp2;go_roundw
      case measure=>simp[vI];omega
      case rel =>
       refine⟨k+1,qh (by omega),by omega,(show Hid _ from fun p' hp'=>?_),hB⟩;rw[List.take_add_one,HP.out] at hp';rcases List.mem_append.1 hp' with h | h
       ·exact HF.out p' h
       ·simp at h;subst h;rw[<-HC.out];exact HQ.out.symm
     | false =>
      go_wp2;go_ret;refine⟨false,rfl,⟨fun h=>(by cases h),fun h=>?_⟩,hBw⟩;have hpm:p∈L:=List.mem_of_getElem? HP.out;have h1:=h p.1 (by rw[<-HCN.out.2,zl HCN.out.1.1 hpm];exact HCN.out.1.2 p hpm);rw[<-qdv,<-HC.out,<-HQ.out] at h1;exact h1
  ·have hmt:L.take k=L:=List.take_of_length_le (by rw[<-HN.out];omega);rw[hmt] at HF;clear hmt;go_wp2;go_ret;refine⟨true,rfl,⟨fun _ c hc=>?_,fun _=>rfl⟩,hBw⟩;rw[<-HCN.out.2] at hc;rcases Classical.em (∃ p∈L,p.1=c) with ⟨p,hp,rfl⟩ | hno
   ·exact(qdv _ _ _).1 (HF.out p hp)
   ·exact absurd (q0j L c fun r hr e=>hno ⟨r,hr,e⟩) hc
end Go.Proofs.YtlhicnfeajejhaaGreatDoor
