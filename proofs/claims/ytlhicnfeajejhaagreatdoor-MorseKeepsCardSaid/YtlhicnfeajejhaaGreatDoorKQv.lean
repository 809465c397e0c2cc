/- For MorseKeeps: rows whose numbers are written to; boundaries of a matching as matrices; equal complexes. Conditions: none. .. -/
import Derived.Test.YtlhicnfeajejhaaGreatDoorKQu
set_option maxRecDepth 1000000
set_option maxHeartbeats 16000000
namespace Go.Proofs.YtlhicnfeajejhaaGreatDoor
open Go.RowKit Go.Cx
def q3o (st:Nat) (w:World) (b:Nat) (v:Value):Prop:=∃ a n c,v = .slice a n c/\n<=c/\c<=maxLen/\(a=none->n=0)/\∀ ad,a=some ad->b<=ad.block/\∀ k,k < n->∃ x,w.cell? (ad.add (k*st))=some (.int .i64 x)/\w.frozen? (ad.add (k*st))=false
theorem q3o.ofT {w:World} {b B:Nat} {v:Value} (h:qox w b B v):q3o 3 w b v:=by
 obtain⟨a,n,c,h1,h2,h3,h4,h5⟩:=h;exact⟨a,n,c,h1,h2,h3,h4,fun ad had=>⟨(h5 ad had).1.1,(h5 ad had).2⟩⟩
theorem q3o.ofI {w:World} {b:Nat} {v:Value} {L:List Int} (h:w.ownsRow b 3 1 v L.length (ints L)):q3o 1 w b v:=by
 have hs:=Sl.qc h;rcases h.2 with ⟨rfl,h0⟩ | ⟨g,cap,cur,rfl,hb,hg,hn,hm,hcs,ht⟩
 ·exact⟨none,0,0,rfl,nlr _,Nat.zero_le _,fun _=>rfl,fun ad h=>by cases h⟩
 ·refine⟨some ⟨g,0,none⟩,L.length,cap,rfl,hn,hm,fun e=>(by cases e),fun ad had=>?_⟩;obtain rfl:=osi had;refine⟨hb,fun k hk=>?_⟩;obtain⟨_,_,_,_,h6⟩:=hs.open;obtain⟨p,hp⟩ : ∃ p,L[k]? = some p:=⟨_,List.getElem?_eq_getElem hk⟩
  refine⟨p,h6 _ rfl _ _ (by rw[Nat.mul_one];simp[ints,hp]),?_⟩;rw[show (⟨g,0,none⟩ : Addr).add (k*1)=⟨g,k*1,none⟩ by simp[Addr.add];intro h;omega];exact jz hg _
theorem q3o.set {st:Nat} {w:World} {b:Nat} {v:Value} (h:q3o st w b v) (p:Addr) (y z:Int) (hp:w.cell? p=some (.int .i64 z)):q3o st (w.setCell p (.int .i64 y)) b v:=by
 obtain⟨a,n,c,rfl,h1,h2,h3,h4⟩:=h;refine⟨a,n,c,rfl,h1,h2,h3,fun ad had=>⟨(h4 ad had).1,fun k hk=>?_⟩⟩;obtain⟨x,h5,h6⟩:=(h4 ad had).2 k hk;by_cases he:ad.add (k*st)=p
 ·refine⟨y,?_,by simpa [World.frozen?_setCell] using h6⟩;rw[he];exact World.cell?_setCell_same' _ _ _ (by rw[hp];rfl)
 ·exact⟨x,js h5 he,by simpa [World.frozen?_setCell] using h6⟩
theorem q3o.at {st:Nat} {w:World} {b n c:Nat} {a:Option Addr} (h:q3o st w b (.slice a n c)) {k:Nat} (hk:k < n):∃ ad,a=some ad/\b<=ad.block/\∃ x,w.cell? (ad.add (k*st))=some (.int .i64 x)/\w.frozen? (ad.add (k*st))=false:=by
 obtain⟨a',n',c',he,_,_,h3,h4⟩:=h;cases he
 cases a with
 | none=>have:=h3 rfl;omega
 | some ad=>exact⟨ad,rfl,(h4 ad rfl).1,(h4 ad rfl).2 k hk⟩
noncomputable def qd0 (K:List Cl) (m:List (Int×Int)) (d:Int):List Int:=(List.range ((yt K m (d - 1)).length*(yt K m d).length)).map fun t=>bdE (canon K) (mhi K m) (mlo K m) d (t / (yt K m d).length) (t % (yt K m d).length)
theorem qku (K:List Cl) (m:List (Int×Int)) (d:Int):(qd0 K m d).length=(yt K m (d - 1)).length*(yt K m d).length:=by unfold qd0;rw[List.length_map,List.length_range]
theorem kz {K:List Cl} (G:Cx.Good K) (m:List (Int×Int)) (d:Int):(yt K m d).length<=K.length:=by
 unfold yt;split
 ·rw[G.cells.1];exact q8j G _ _ _
 ·exact Nat.zero_le _
section
variable (v u:Value) (K:List Cl) (m:List (Int×Int)) (w:World) (h:(Mok.cx K).holds v w) (hK:KOk K) (hl:K.length<=180) (k:(Mok.prs m).holds u w) (hp:∀ p∈m,I64 p.1/\I64 p.2) (G:Cx.Good K) (hE:opE K m=0) (d:Int) (hd0 : -1000<=d) (hd1:d<=1000)
include h hK hl k hp G hE hd0 hd1
theorem qpu:Calls Tryz.prog 54 #[v,u,.int .i64 d] w fun e w'=>∃ E,e = .returned (.agg #[.int .i64 (yt K m (d - 1)).length,.int .i64 (yt K m d).length,.slice (some ⟨E,0,none⟩) ((yt K m (d - 1)).length*(yt K m d).length) ((yt K m (d - 1)).length*(yt K m d).length)])/\(∃ f,EW w' E ((yt K m (d - 1)).length*(yt K m d).length) f)/\(w.heap.size<=E/\E < w'.heap.size)/\(Mok.mat (yt K m (d - 1)).length (yt K m d).length (qd0 K m d)).holds (.agg #[.int .i64 (yt K m (d - 1)).length,.int .i64 (yt K m d).length,.slice (some ⟨E,0,none⟩) ((yt K m (d - 1)).length*(yt K m d).length) ((yt K m (d - 1)).length*(yt K m d).length)]) w'/\Below w.heap.size w w':=by
 obtain⟨x,l,rfl,h1,h2⟩:=h;have hll:l.length<=180:=by rw[<-h2,List.length_map] at hl;exact hl
 refine(qf9 x u l m w h1 (by omega) (hK.cok h2) k hp d ⟨by omega,by omega⟩).mono ?_;rintro e w' ⟨hb,hr⟩;rw[h2] at hr;rcases hr with ⟨hne,_⟩ | ⟨_,E,nr,nc,rfl,rfl,rfl,h5,hE2,hEW⟩
 ·exact absurd hE hne
 ·have n1:=kz G m (d - 1);have n2:=kz G m d;have hN:(yt K m (d - 1)).length*(yt K m d).length<=40000:=Nat.le_trans (Nat.mul_le_mul (show _<=200 by omega) (show _<=200 by omega)) (by decide);exact⟨E,rfl,⟨_,hEW⟩,⟨h5,hE2⟩,⟨_,rfl,hEW.sl (by omega)⟩,hb⟩
theorem qqs:Calls Tryz.prog 54 #[v,u,.int .i64 d] w (Gvs (.mat (yt K m (d - 1)).length (yt K m d).length (qd0 K m d)) w):=by
 refine(qpu v u K m w h hK hl k hp G hE d hd0 hd1).mono ?_;rintro e w' ⟨E,rfl,_,_,hm,hb⟩;exact⟨_,rfl,hm,hb⟩
end
theorem qmj {K:List Cl} (G:Cx.Good K) (hc:chk K=(0,0)) {m:List (Int×Int)} (hm:j8 K m=0):opE K m=0:=by unfold opE;rw[hc,if_pos rfl,G.cells.1];exact hm
theorem qqy (v u:Value) (K:List Cl) (w:World) (h:(Mok.cx K).holds v w) (k:(Mok.cx K).holds u w) (hK:KOk K) (hl:K.length<=1000):Calls Tryz.prog 71 #[v,u] w (Gvs .tt w):=by
 obtain⟨x,l,rfl,h1,h2⟩:=h;obtain⟨y,m,rfl,k1,k2⟩:=k;have hc:=hK.cok h2;have hm:=hK.cok k2;exact(qh0 x y l m w h1 k1 (h2.trans k2.symm) (by rw[<-h2,List.length_map] at hl;omega) (fun x hx=>Nat.le_trans (hc x hx).2.1 (by decide)) (fun x hx=>Nat.le_trans (hm x hx).2.1 (by decide))).mono fun e w' ⟨he,hb⟩=>⟨_,he,rfl,hb⟩
theorem qqo (v u:Value) (K:List Cl) (m:List (Int×Int)) (w:World) (h:(Mok.cx K).holds v w) (hK:KOk K) (hl:K.length<=1000) (k:(Mok.prs m).holds u w) (hp:∀ p∈m,I64 p.1/\I64 p.2) (d:Int) :
  Calls Tryz.prog 45 #[v,u,.int .i64 d] w fun e w'=>∃ r,e = .returned r/\q3o 1 w' w.heap.size r/\Below w.heap.size w w':=by
 obtain⟨x,l,rfl,h1,h2⟩:=h;have hll:l.length<=1000:=by rw[<-h2,List.length_map] at hl;exact hl
 refine(qcv x u l m w h1 (by omega) (hK.cok h2) k hp d).mono ?_;rintro e w' ⟨r,rfl,hr,hb⟩;exact⟨r,rfl,q3o.ofI hr,hb⟩
theorem qqp (v u:Value) (K:List Cl) (m:List (Int×Int)) (w:World) (h:(Mok.cx K).holds v w) (hK:KOk K) (hl:K.length<=1000) (k:(Mok.prs m).holds u w) (hp:∀ p∈m,I64 p.1/\I64 p.2) (c:Value) (L:List (Int×Int)) (hc:(Mok.ch L).holds c w) (hL:LOk 100 L) (hLl:L.length<=1000) :
  Calls Tryz.prog 51 #[v,u,c] w fun e w'=>∃ r N,e = .returned r/\Cn N/\q4t K m (co L)=co N/\q3o 3 w' w.heap.size r/\Below w.heap.size w w':=by
 obtain⟨x,l,rfl,h1,h2⟩:=h;have hll:l.length<=1000:=by rw[<-h2,List.length_map] at hl;exact hl
 refine(qm0 x u l m w h1 (by omega) (hK.cok h2) k hp c (ctm L) 100 hc hL.tok (by rw[qz];omega)).mono ?_;rintro e w' ⟨r,N,rfl,hN,hco,hr,_,_,hb⟩;rw[h2,zv] at hco;exact⟨r,N,rfl,hN,hco.symm,q3o.ofT (qox.of hr),hb⟩
end Go.Proofs.YtlhicnfeajejhaaGreatDoor
namespace Go.Proofs.YtlhicnfeajejhaaGreatDoor
open Go.RowKit Go.Cx
attribute [local go_sem ↓] Go.wp_at_zero Go.wp_at_succ
noncomputable def tcK (K:List Cl) (M L N:List (Int×Int)):List Mok:=[.tt,.tt,.cx K,.cx K,.tt,.tt,.tt,.prs M,.prs M,.tt,.tt,.tt,.ch L,.ch L,.tt,.tt,.tt,.cx K,.prs M,.ch L,.ch N,.cx K,.prs M,.ch L,.ch N,.tt,.tt,.tt,.cx K,.prs M,.mat (yt K M (1 - 1)).length (yt K M 1).length (qd0 K M 1),.cx K,.prs M,.mat (yt K M (1 - 1)).length (yt K M 1).length (qd0 K M 1),.tt,.tt,.tt]
theorem q7b:∀ args w,(callFunc 71 args).run Tryz.prog w = .ok (.enter 71 args) w:=k8 Tryz.func71 (by kernel_rfl) (by kernel_rfl)
theorem q9w:∀ args w,(callFunc 41 args).run Tryz.prog w = .ok (.enter 41 args) w:=k8 Tryz.func41 (by kernel_rfl) (by kernel_rfl)
structure Kps (w W:World) (p q:Nat) (x y u n t o:Value) (K:List Cl) (M L:List (Int×Int)):Prop where
 bv:Bv W p x
 bw:Bv W q y
 cx:(Mok.cx K).holds (.agg #[x]) W
 cy:(Mok.cx K).holds (.agg #[y]) W
 pr:(Mok.prs M).holds u W
 ps:(Mok.prs M).holds n W
 tx:(Mok.ch L).holds t W
 ty:(Mok.ch L).holds o W
 bl:Below w.heap.size w W
theorem Kps.q8 {w W V:World} {p q:Nat} {x y u n t o:Value} {K:List Cl} {M L:List (Int×Int)} (h:Kps w W p q x y u n t o K M L) (hb:Below W.heap.size W V):Kps w V p q x y u n t o K M L :=
 ⟨h.bv.q8 hb,h.bw.q8 hb,Mok.q8 h.cx hb,Mok.q8 h.cy hb,Mok.q8 h.pr hb,Mok.q8 h.ps hb,Mok.q8 h.tx hb,Mok.q8 h.ty hb,h.bl.trans (hb.mono h.bl.size)⟩
theorem qpt (v0 v1 v2:Value) (l ms:List Int) (la:List (Int×Int)) (w:World) (h0:Sl w 1 v0 (ints l)) (h1:Sl w 1 v1 (ints ms)) (h2:Sl w 2 v2 (pv la)) (r2:∀ p∈la,I64 p.1/\I64 p.2) :
  Calls Tryz.prog 14 #[v0,v1,v2] w fun e w'=>e = .returned (.bool true)/\Below w.heap.size w w':=by
 obtain⟨a0,k0,c0,rfl⟩:=qg h0;obtain⟨a1,k1,c1,rfl⟩:=qg h1;obtain⟨a2,k2,c2,rfl⟩:=qg h2;have hk1:ms.length=k1:=by
  obtain⟨_,_,h3,_⟩:=h1.open;rw[xl] at h3;omega
 obtain⟨hkc,hcm,_,_,_⟩:=h1.open;unfold maxLen at hcm;have H:=lhd (aiq h0 (aiq h1 (aiq hk1 (aiq h2 r2))));clear h0 h1 hk1 h2 r2;go_enter Tryz.func14,Tryz.ntmps14;go_wp2_with fail;refine(qj7 _).mono ?_;rintro e w1 ⟨rfl,hb1⟩;have H1:=lhd hb1;clear hb1;go_wp2_with fail;refine(qai _ l _ (H.out.1.q8 H1.out)).mono ?_;rintro e w2 ⟨r,m,rfl,hm,hR,hb2⟩;obtain⟨ua,uc,hue⟩:=qj hR.1;subst hue;have hB2:Below w.heap.size w w2:=H1.out.trans (hb2.mono H1.out.size);have HC:=lhd (aiq hm (aiq hR.slc hB2));clear hm hR hb2 hB2;go_wp2_with fail;refine(qai _ l _ (H.out.1.q8 HC.out.2.2)).mono ?_;rintro e w3 ⟨r,m2,rfl,hm2,hR2,hb3⟩;obtain⟨ub,ud,hue⟩:=qj hR2.1;subst hue;have HC2:=lhd (aiq hm2 (aiq hR2.slc hb3));clear hm2 hR2 hb3;obtain⟨K,hK⟩ : ∃ K,K=q25 l:=⟨_,rfl⟩
 have hok:=qht l;have hG:=qcx l;have hchk:=q8a l;have hm:=HC.out.1;have hm2:=HC2.out.1;rw[<-hK] at hok hG hchk hm hm2;have hml:m.length<=180:=by
  have:=congrArg List.length hm;rw[List.length_map] at this;have:=hok.2.2;omega
 have HK:=lhd (aiq hok.1 (aiq hok.2.2 (aiq hG (aiq hchk (aiq hm (aiq hm2 hml))))));clear hK hok hG hchk hm hm2 hml;go_upto_region 3 with fail;obtain⟨W0,hW0⟩ : ∃ W0,W0=(w3.alloc (.cells #[.slice ua m.length uc] 26)).alloc (.cells #[.slice ub m2.length ud] 26):=⟨_,rfl⟩
 obtain⟨q,hq⟩ : ∃ q,q=w3.heap.size:=⟨_,rfl⟩
 rw[<-hW0,<-hq];have hb0:Below w3.heap.size w3 W0:=by rw[hW0];exact((Below.refl _ _).alloc (nlr _) _).alloc (by simp) _
 have hB2z:=HC.out.2.2;have hBW:Below w.heap.size w W0:=hB2z.trans ((HC2.out.2.2.mono hB2z.size).trans (hb0.mono (Nat.le_trans hB2z.size HC2.out.2.2.size)));have bq:Bv W0 q (.slice ua m.length uc):=by rw[hW0,hq];exact(Bv.new w3 _ _).alloc _
 have bq2:Bv W0 (q+1) (.slice ub m2.length ud):=by
  rw[hW0,hq];have:=Bv.new (w3.alloc (.cells #[.slice ua m.length uc] 26)) (.slice ub m2.length ud) 26;rw[World.size_alloc] at this;exact this
 have hca:SlC W0 (.slice ua m.length uc) m:=(HC.out.2.1.q8 HC2.out.2.2).q8 hb0;have hcb:SlC W0 (.slice ub m2.length ud) m2:=HC2.out.2.1.q8 hb0;have cq:=bq.1;have hms:∀ x∈m,x.s.length<=1099511627776:=fun x hx=>by
  have hx2:x.cl∈K:=by rw[<-HK.out.2.2.2.2.1];exact List.mem_map_of_mem hx
  exact Nat.le_trans (HK.out.1 x.cl hx2).2.1 (by decide)
 obtain⟨n3,hn3⟩ : ∃ n3,n3=min k1 30:=⟨_,rfl⟩
 have hmin:min (k1:Int) 30=(n3:Int):=by rw[hn3];omega
 have hn3c:(n3:Int)<=c1:=by omega
 have hn30:n3<=30:=by omega
 have hsome:∀ U,Below W0.heap.size W0 U->Calls Tryz.prog 44 #[.agg #[.slice ua m.length uc],.slice a1 n3 c1] U fun e w'=>∃ r M,e = .returned r/\M.length<=30/\j8 K M=0/\w'.ownsRow U.heap.size 50 2 r M.length (pv M)/\Below U.heap.size U w':=fun U hU=>by
  have hs:Sl U 1 (.slice a1 n3 c1) (ints (ms.take n3)):=by
   have:=((H.out.2.1.q8 hBW).q8 hU).take (k:=n3) (by omega);rw[Nat.mul_one,<-q49] at this;exact this
  refine(qor _ _ m (ms.take n3) U (hca.q8 hU) (by have:=HK.out.2.2.2.2.2.2;omega) hms (by rw[HK.out.2.2.2.2.1];exact HK.out.2.2.1) (by rw[HK.out.2.2.2.2.1];exact HK.out.2.2.2.1) hs (by rw[List.length_take];omega)).mono ?_;rintro e w' ⟨r,M,rfl,h1,h2,h3,h4⟩;rw[HK.out.2.2.2.2.1] at h2;exact⟨r,M,rfl,by rw[List.length_take] at h1;omega,h2,h3,h4⟩
 have H0:=lhd (aiq hBW (aiq bq (aiq bq2 (aiq hca (aiq hcb hsome)))));have B8:Below W0.heap.size W0 W0.drew:=qb (Below.refl _ W0) 1;clear hW0 hq hb0 hB2z hBW bq bq2 hca hcb hms hn3 hsome
 go_region_held_law (fun U=>U.cell? ⟨q,0,none⟩=some (.slice ua m.length uc)) (first | exact Cx.q8 B8 cq | exact Cx.q8 B9 cq | fail)
  (first | (go_at_call 44;refine(H0.out.2.2.2.2.2 _ B8).mono ?_;rintro e w5 ⟨r5,M,rfl,hM30,hM0,hr5,hb5⟩;have B9:Below W0.heap.size W0 w5:=B8.trans (hb5.mono B8.size)))
 obtain⟨a5,c5,hre5⟩:=qj hr5;subst hre5;obtain⟨nM,hnM⟩ : ∃ nM,nM=M.length:=⟨_,rfl⟩
 have hs5:=Sl.qc hr5;rw[<-hnM] at hs5 ⊢;have hnM30:nM<=30:=by omega
 have hI:=qjt HK.out.2.2.1 HK.out.1 hM0;have hpv:(pv M).length=nM*2:=by rw[yq,hnM]
 have H5:=lhd (aiq hs5 (aiq hI (aiq hM0 (aiq B9 (aiq hnM hpv)))));clear hr5 hs5 hI hM0 B9 B8 hb5 hnM hM30 hpv cq;go_upto_region 4 with fail;have hsP:Sl (w5.alloc (.cells #[] 50)) 2 (.slice a5 nM c5) (pv M):=H5.out.1.alloc _;go_wp2_with (at_builtin;refine qm (W:=w5) rfl _ _ 48 rfl w5.heap.size 50 jw Tryz.underlying48 rfl (by decide) (by decide) _ _ _ rfl (zj w5 50 2) _ nM (pv M) rfl hsP H5.out.2.2.2.2.2 (q5i _) ?kpA (((Below.refl _ w5).alloc (nlr _) _)) ?kpB ?_)
 case kpA=>omega
 case kpB=>simp
 intro v6 w6 hr6 _ hB6;obtain⟨a6,c6,he6⟩:=qj hr6;subst he6;have hs6:Sl w6 2 (.slice a6 nM c6) (pv M):=by simpa using Sl.qc hr6
 have hBw6:Below W0.heap.size W0 w6:=H5.out.2.2.2.1.trans (hB6.mono H5.out.2.2.2.1.size);have H6:=lhd (aiq hs6 (aiq hB6 (aiq hBw6 (H0.out.1.trans (hBw6.mono H0.out.1.size)))));clear hr6 hB6 hsP hs6 hBw6;go_wp2_with fail;refine(qbr _ la w6.heap.size _ (H.out.2.2.2.1.q8 H6.out.2.2.2) H.out.2.2.2.2 (nlr _)).mono ?_;rintro e w7 ⟨v7,rfl,hx,hb7⟩;have H7:=lhd (aiq hx hb7);clear hx hb7;go_wp2_with fail;refine(qbr _ la w6.heap.size _ (H.out.2.2.2.1.q8 (H6.out.2.2.2.trans (H7.out.2.mono H6.out.2.2.2.size))) H.out.2.2.2.2 H7.out.2.size).mono ?_;rintro e w8 ⟨v8,rfl,hy,hb8⟩;obtain⟨L,hL⟩ : ∃ L,L=la.take 30:=⟨_,rfl⟩
 have q1:LOk 8 L:=hL ▸ qqw H.out.2.2.2.2;have hL30:L.length<=30:=by rw[hL];simp;omega
 have hx:=H7.out.1;rw[<-hL] at hx hy;have hB68:Below w6.heap.size w6 w8:=H7.out.2.trans (hb8.mono H7.out.2.size);have hB08:Below W0.heap.size W0 w8:=H6.out.2.2.1.trans (hB68.mono H6.out.2.2.1.size);have E8:Hid (Kps w w8 q (q+1) (.slice ua m.length uc) (.slice ub m2.length ud) (.slice a5 nM c5) (.slice a6 nM c6) v7 v8 K M L) :=
  ⟨H0.out.2.1.q8 hB08,H0.out.2.2.1.q8 hB08,⟨_,m,rfl,H0.out.2.2.2.1.q8 hB08,HK.out.2.2.2.2.1⟩,⟨_,m2,rfl,H0.out.2.2.2.2.1.q8 hB08,HK.out.2.2.2.2.2.1⟩,
   (H5.out.1.q8 H6.out.2.1).q8 hB68,H6.out.1.q8 hB68,(Sl.qc hx.2).q8 hb8,Sl.qc hy.2,H6.out.2.2.2.trans (hB68.mono H6.out.2.2.2.size)⟩
 have HL:=lhd (aiq q1 (aiq hL30 (aiq H5.out.2.1 H5.out.2.2.1)));obtain⟨a7,n7,c7,hs7⟩:=qg (Sl.qc hx.2);subst hs7;obtain⟨a8,n8,c8,hs8⟩:=qg (Sl.qc hy.2);subst hs8;clear hL q1 hL30 hx hy hB68 hB08 hb8;have b8:=E8.out.bv.1;go_wp2_with fail;refine(qqo _ _ K M w8 E8.out.cx HK.out.1 (by have:=HK.out.2.1;omega) E8.out.pr HL.out.2.2.1 1).mono ?_;rintro e w9 ⟨r9,rfl,hr9,hb9⟩;have hsh9:=hr9;obtain⟨a9,n9,c9,rfl,hnc9,hcm9,_⟩:=hsh9;unfold maxLen at hcm9;have H9:=lhd (aiq hr9 hb9);clear hr9 hb9 b8;go_wp2_with fail;go_loopg [44] n9 (fun g i wx=>∃ k:Nat,k+g=n9/\i = .int .i64 k/\Hid (q3o 1 wx w8.heap.size (.slice a9 n9 c9)/\Below w8.heap.size w8 wx))
 case atStart=>exact⟨0,by omega,rfl,H9.out⟩
 case round =>
  obtain⟨k,hkg,rfl,HI⟩:=hrel;cases gk with
  | succ g =>
   have hkn:k < n9:=by omega
   obtain⟨ad,had,hbl,x,hx,hf⟩:=HI.out.1.at hkn;subst had;rw[Nat.mul_one] at hx hf;have HX:=lhd (aiq hx hbl);clear hbl;go_wp2;go_roundg g
   case measure=>omega
   case rel=>exact⟨k+1,by omega,qh (by omega),(show Hid _ from⟨HI.out.1.set _ _ x HX.out.1,HI.out.2.setCell (by rw[qh1];exact HX.out.2) _⟩)⟩
  | zero =>
   have hkn:¬ ((k:Int) < (n9:Int)):=by omega
   obtain⟨wa,hwa⟩ : ∃ wa,wa=wr:=⟨_,rfl⟩
   subst hwa;have EA:=lhd (E8.out.q8 HI.out.2);have ba:=EA.out.bv.1;go_wp2_with fail;refine(qqp _ _ K M _ EA.out.cx HK.out.1 (by have:=HK.out.2.1;omega) EA.out.pr HL.out.2.2.1 _ L EA.out.tx (fun p hp=>⟨(HL.out.1 p hp).1,Nat.le_trans (HL.out.1 p hp).2 (by omega)⟩) (by have:=HL.out.2.1;omega)).mono ?_;rintro e w10 ⟨r10,N,rfl,hN,hf,hr10,hb10⟩;have hsh10:=hr10;obtain⟨a10,n10,c10,rfl,hnc10,hcm10,_⟩:=hsh10;unfold maxLen at hcm10;have HN:=lhd (aiq hN hf);have H10:=lhd (aiq hr10 hb10);clear hr10 hb10 ba hN hf hkn;go_wp2_with fail;go_loopg [57] n10 (fun g i wx=>∃ k:Nat,k+g=n10/\i = .int .i64 k/\Hid (q3o 3 wx wa.heap.size (.slice a10 n10 c10)/\Below wa.heap.size wa wx))
   case atStart=>exact⟨0,by omega,rfl,H10.out⟩
   case round =>
    obtain⟨k,hkg,rfl,HI⟩:=hrel;cases gk with
    | succ g =>
     have hkn:k < n10:=by omega
     obtain⟨ad,had,hbl,x,hx,hf⟩:=HI.out.1.at hkn;subst had;have HX:=lhd (aiq hx hbl);clear hbl;go_wp2;go_roundg g
     case measure=>omega
     case rel=>exact⟨k+1,by omega,qh (by omega),(show Hid _ from⟨HI.out.1.set _ _ x HX.out.1,HI.out.2.setCell (by rw[qh1];exact HX.out.2) _⟩)⟩
    | zero =>
     have hkn:¬ ((k:Int) < (n10:Int)):=by omega
     obtain⟨wb,hwb⟩ : ∃ wb,wb=wr:=⟨_,rfl⟩
     subst hwb;have EB:=lhd (EA.out.q8 HI.out.2);have bb:=EB.out.bv.1;go_wp2_with fail;have hE:=qmj HK.out.2.2.1 HK.out.2.2.2.1 HL.out.2.2.2;refine(qpu _ _ K M _ EB.out.cx HK.out.1 HK.out.2.1 EB.out.pr HL.out.2.2.1 HK.out.2.2.1 hE 1 (by omega) (by omega)).mono ?_;rintro e w11 ⟨E,rfl,⟨f0,hf0⟩,hE11,_,hb11⟩;obtain⟨nr,hnr⟩ : ∃ nr,nr=(yt K M (1 - 1)).length:=⟨_,rfl⟩
     obtain⟨nc,hnc⟩ : ∃ nc,nc=(yt K M 1).length:=⟨_,rfl⟩
     have n1:=kz HK.out.2.2.1 M (1 - 1);have n2:=kz HK.out.2.2.1 M 1;rw[<-hnr] at hf0 n1 ⊢;rw[<-hnc] at hf0 n2 ⊢;obtain⟨nn,hnn⟩ : ∃ nn,nn=nr*nc:=⟨_,rfl⟩
     have hN:nn<=40000:=by rw[hnn];exact Nat.le_trans (Nat.mul_le_mul (show _<=200 by have:=HK.out.2.1;omega) (show _<=200 by have:=HK.out.2.1;omega)) (by decide)
     rw[<-hnn] at hf0 ⊢;have H11:=lhd (aiq hf0 (aiq hE11 (aiq hb11 hE)));clear hnr hnc n1 n2 hnn hf0 hE11 hb11 hE bb hkn;obtain⟨V,hV⟩ : ∃ V,V=w11.alloc (.cells #[.int .i64 nr,.int .i64 nc,.slice (some ⟨E,0,none⟩) nn nn] 44):=⟨_,rfl⟩
     obtain⟨pm,hpm⟩ : ∃ pm,pm=w11.heap.size:=⟨_,rfl⟩
     have hBV:Below wb.heap.size wb V:=by rw[hV];exact H11.out.2.2.1.alloc H11.out.2.2.1.size _
     have hpm2:V.cell? ⟨pm,2,none⟩=some (.slice (some ⟨E,0,none⟩) nn nn):=by rw[hV,hpm];exact qd w11 _ _ (0,0) 2
     have hEV:EW V E nn f0:=by rw[hV];exact H11.out.1.q8 ((Below.refl _ _).alloc (nlr _) _) H11.out.2.1.2
     have HV:=lhd (aiq hEV (aiq hpm2 (aiq hBV (show E < pm by rw[hpm];exact H11.out.2.1.2))));have HVe:=lhd (aiq hV hpm);clear hV hpm hBV hpm2 hEV;go_upto_region 19 with fail;rw[<-HVe.out.2,<-HVe.out.1];have hpm2:=HV.out.2.1;go_wp2_with fail;go_loopg [71] nn (fun g i wx=>∃ k:Nat,k+g=nn/\i = .int .i64 k/\Hid ((∃ f,EW wx E nn f)/\wx.cell? ⟨pm,2,none⟩=some (.slice (some ⟨E,0,none⟩) nn nn)/\Below wb.heap.size wb wx))
     case atStart=>exact⟨0,by omega,rfl,⟨_,HV.out.1⟩,HV.out.2.1,HV.out.2.2.1⟩
     case round =>
      obtain⟨k,hkg,rfl,HI⟩:=hrel;cases gk with
      | succ g =>
       have hkn:k < nn:=by omega
       obtain⟨f,hf⟩:=HI.out.1;obtain⟨p0,p1,p2,p3⟩:=hf k hkn;have m2:=HI.out.2.1;have HF:=lhd hf;have hEpm:=HV.out.2.2.2;clear hf hpm2;have hEw:E < wr.heap.size:=World.block_lt_of_cell? wr _ p0;go_wp2_with fail
       go_region_with (go_at_call 29;refine(q58 77 _ (by decide) (by decide)).mono ?_;rintro e w12 ⟨rfl,hb12⟩;rw[show wv 77 = .agg #[.bool (decide ((77:Int) < 0)),.string (mg 77)] from rfl];have hB12:Below wr.heap.size wr w12:=xt (hb12.mono (by simp));obtain⟨t0,t1,t2,t3⟩:=HF.out.q8 hB12 hEw k hkn;have m3:=Cx.q8 hB12 m2)
       all_goals
        go_wp2;go_roundg g
        case measure=>omega
        case rel =>
         refine⟨k+1,by omega,qh (by omega),(show Hid _ from⟨⟨_,EW.put (HF.out.q8 hB12 hEw) k 77⟩,js (js m3 ?_) ?_,?_⟩)⟩
         ·exact fun e=>by have e:pm=E:=congrArg Addr.block e;omega
         ·exact fun e=>by have e:pm=E:=congrArg Addr.block e;omega
         ·exact((HI.out.2.2.trans (hB12.mono HI.out.2.2.size)).setCell (p:=⟨E,k*2,none⟩) H11.out.2.1.1 _).setCell (p:=⟨E,k*2+1,none⟩) H11.out.2.1.1 _
      | zero =>
       have hkn:¬ ((k:Int) < (nn:Int)):=by omega
       obtain⟨wd,hwd⟩ : ∃ wd,wd=wr:=⟨_,rfl⟩
       subst hwd;have ED:=lhd (EB.out.q8 HI.out.2.2);have bd:=ED.out.bv.1;clear hpm2;go_wp2_with fail;refine(qj1 _ K _ ED.out.cx HK.out.1 (by have:=HK.out.2.1;omega) _ rfl).mono ?_;rintro e w12 ⟨r12,rfl,_,hb12⟩;have EE:=lhd (ED.out.q8 hb12);clear bd hb12 hkn;go_wp2_with fail;rename_i KK hKK;obtain⟨hbv,hbw,hcx,hcy,hpr,hps,htx,hty,hbl⟩:=EE.out;have hK:=HK.out.1;have hKl:=HK.out.2.1;have hG:=HK.out.2.2.1;have hI:=HL.out.2.2.1;have hE:=H11.out.2.2.2;have hLk:LOk 100 L:=fun p hp=>⟨(HL.out.1 p hp).1,Nat.le_trans (HL.out.1 p hp).2 (by omega)⟩
       have hLl:=HL.out.2.1;have hN:=HN.out.1;have hf:=HN.out.2;have hn1:=Nat.le_trans (kz hG M (1 - 1)) (Nat.le_trans hKl (show 180<=200 by omega));have hn2:=Nat.le_trans (kz hG M 1) (Nat.le_trans hKl (show 180<=200 by omega));have hML:=qku K M 1;refine q1a rfl (fun i v w=>((tcK K M L N).getD i .any).holds v w) 118 rfl (by kernel_rfl) (by kernel_rfl) (fun i v w w' h hb=>Mok.q8 h hb) ?step ?done
       case step =>
        intro i o ho a w' hw hd hbase hsz
        match i,ho,hd with
        | 0,ho,hd =>
         obtain rfl:=osi ho;exact⟨rfl,jf _ (.inl rfl) (hbase 7 (qu (by kernel_rfl)))⟩
        | 1,ho,hd =>
         obtain rfl:=osi ho;have f0:((.tt:Mok)).holds (a.tmps.getD 82 undef) w':=hd 0 _ _ rfl rfl (by kernel_rfl);exact⟨rfl,jf _ (.inl rfl) f0⟩
        | 2,ho,hd =>
         obtain rfl:=osi ho;have fg:a.tmps.getD 83 undef = .bool true:=hd 1 _ _ rfl rfl (by kernel_rfl);exact⟨qn 1 83 rfl rfl (by rw[hsz];decide) fg,zr _ _ rfl _ (hbase 8 (qu (by kernel_rfl))) _ (ldK (hbv.q8 hw)) (Mok.q8 (k:=.cx K) hcx hw)⟩
        | 3,ho,hd =>
         obtain rfl:=osi ho;have fg:a.tmps.getD 83 undef = .bool true:=hd 1 _ _ rfl rfl (by kernel_rfl);exact⟨qn 1 83 rfl rfl (by rw[hsz];decide) fg,zr _ _ rfl _ (hbase 9 (qu (by kernel_rfl))) _ (ldK (hbw.q8 hw)) (Mok.q8 (k:=.cx K) hcy hw)⟩
        | 4,ho,hd =>
         obtain rfl:=osi ho;have fg:a.tmps.getD 83 undef = .bool true:=hd 1 _ _ rfl rfl (by kernel_rfl);have f0:((.cx K:Mok)).holds (a.tmps.getD 84 undef) w':=hd 2 _ _ rfl rfl (by kernel_rfl);have f1:((.cx K:Mok)).holds (a.tmps.getD 85 undef) w':=hd 3 _ _ rfl rfl (by kernel_rfl);exact⟨qn 1 83 rfl rfl (by rw[hsz];decide) fg,xz _ _ _ rfl q7b #[a.tmps.getD 84 undef,a.tmps.getD 85 undef] (by simp[Act.eval]) (qqy _ _ K _ f0 f1 hK (by omega))⟩
        | 5,ho,hd =>
         obtain rfl:=osi ho;have f0:((.tt:Mok)).holds (a.tmps.getD 83 undef) w':=hd 1 _ _ rfl rfl (by kernel_rfl);have f1:((.tt:Mok)).holds (a.tmps.getD 86 undef) w':=hd 4 _ _ rfl rfl (by kernel_rfl);exact⟨rfl,jx _ _ _ rfl f0 f1⟩
        | 6,ho,hd =>
         obtain rfl:=osi ho;have f0:((.tt:Mok)).holds (a.tmps.getD 87 undef) w':=hd 5 _ _ rfl rfl (by kernel_rfl);exact⟨rfl,jf _ (.inl rfl) f0⟩
        | 7,ho,hd =>
         obtain rfl:=osi ho;have fg:a.tmps.getD 88 undef = .bool true:=hd 6 _ _ rfl rfl (by kernel_rfl);exact⟨qn 6 88 rfl rfl (by rw[hsz];decide) fg,jf _ (.inl rfl) (by show ((.prs M:Mok)).holds (a.tmps.getD 10 undef) w';rw[hbase 10 (qu (by kernel_rfl))];exact Mok.q8 (k:=.prs M) hpr hw)⟩
        | 8,ho,hd =>
         obtain rfl:=osi ho;have fg:a.tmps.getD 88 undef = .bool true:=hd 6 _ _ rfl rfl (by kernel_rfl);exact⟨qn 6 88 rfl rfl (by rw[hsz];decide) fg,jf _ (.inl rfl) (by show ((.prs M:Mok)).holds (a.tmps.getD 11 undef) w';rw[hbase 11 (qu (by kernel_rfl))];exact Mok.q8 (k:=.prs M) hps hw)⟩
        | 9,ho,hd =>
         obtain rfl:=osi ho;have fg:a.tmps.getD 88 undef = .bool true:=hd 6 _ _ rfl rfl (by kernel_rfl);have f0:((.prs M:Mok)).holds (a.tmps.getD 89 undef) w':=hd 7 _ _ rfl rfl (by kernel_rfl);have f1:((.prs M:Mok)).holds (a.tmps.getD 90 undef) w':=hd 8 _ _ rfl rfl (by kernel_rfl);exact⟨qn 6 88 rfl rfl (by rw[hsz];decide) fg,xz _ _ _ rfl q9w #[a.tmps.getD 89 undef,a.tmps.getD 90 undef] (by simp[Act.eval]) (qj3 _ _ M _ f0 f1)⟩
        | 10,ho,hd =>
         obtain rfl:=osi ho;have f0:((.tt:Mok)).holds (a.tmps.getD 88 undef) w':=hd 6 _ _ rfl rfl (by kernel_rfl);have f1:((.tt:Mok)).holds (a.tmps.getD 91 undef) w':=hd 9 _ _ rfl rfl (by kernel_rfl);exact⟨rfl,jx _ _ _ rfl f0 f1⟩
        | 11,ho,hd =>
         obtain rfl:=osi ho;have f0:((.tt:Mok)).holds (a.tmps.getD 92 undef) w':=hd 10 _ _ rfl rfl (by kernel_rfl);exact⟨rfl,jf _ (.inl rfl) f0⟩
        | 12,ho,hd =>
         obtain rfl:=osi ho;have fg:a.tmps.getD 93 undef = .bool true:=hd 11 _ _ rfl rfl (by kernel_rfl);exact⟨qn 11 93 rfl rfl (by rw[hsz];decide) fg,jf _ (.inl rfl) (by show ((.ch L:Mok)).holds (a.tmps.getD 12 undef) w';rw[hbase 12 (qu (by kernel_rfl))];exact Mok.q8 (k:=.ch L) htx hw)⟩
        | 13,ho,hd =>
         obtain rfl:=osi ho;have fg:a.tmps.getD 93 undef = .bool true:=hd 11 _ _ rfl rfl (by kernel_rfl);exact⟨qn 11 93 rfl rfl (by rw[hsz];decide) fg,jf _ (.inl rfl) (by show ((.ch L:Mok)).holds (a.tmps.getD 13 undef) w';rw[hbase 13 (qu (by kernel_rfl))];exact Mok.q8 (k:=.ch L) hty hw)⟩
        | 14,ho,hd =>
         obtain rfl:=osi ho;have fg:a.tmps.getD 93 undef = .bool true:=hd 11 _ _ rfl rfl (by kernel_rfl);have f0:((.ch L:Mok)).holds (a.tmps.getD 94 undef) w':=hd 12 _ _ rfl rfl (by kernel_rfl);have f1:((.ch L:Mok)).holds (a.tmps.getD 95 undef) w':=hd 13 _ _ rfl rfl (by kernel_rfl);exact⟨qn 11 93 rfl rfl (by rw[hsz];decide) fg,xz _ _ _ rfl q0u #[a.tmps.getD 94 undef,a.tmps.getD 95 undef] (by simp[Act.eval]) (qj2 _ _ L _ f0 f1)⟩
        | 15,ho,hd =>
         obtain rfl:=osi ho;have f0:((.tt:Mok)).holds (a.tmps.getD 93 undef) w':=hd 11 _ _ rfl rfl (by kernel_rfl);have f1:((.tt:Mok)).holds (a.tmps.getD 96 undef) w':=hd 14 _ _ rfl rfl (by kernel_rfl);exact⟨rfl,jx _ _ _ rfl f0 f1⟩
        | 16,ho,hd =>
         obtain rfl:=osi ho;have f0:((.tt:Mok)).holds (a.tmps.getD 97 undef) w':=hd 15 _ _ rfl rfl (by kernel_rfl);exact⟨rfl,jf _ (.inl rfl) f0⟩
        | 17,ho,hd =>
         obtain rfl:=osi ho;have fg:a.tmps.getD 98 undef = .bool true:=hd 16 _ _ rfl rfl (by kernel_rfl);exact⟨qn 16 98 rfl rfl (by rw[hsz];decide) fg,zr _ _ rfl _ (hbase 8 (qu (by kernel_rfl))) _ (ldK (hbv.q8 hw)) (Mok.q8 (k:=.cx K) hcx hw)⟩
        | 18,ho,hd =>
         obtain rfl:=osi ho;have fg:a.tmps.getD 98 undef = .bool true:=hd 16 _ _ rfl rfl (by kernel_rfl);exact⟨qn 16 98 rfl rfl (by rw[hsz];decide) fg,jf _ (.inl rfl) (by show ((.prs M:Mok)).holds (a.tmps.getD 10 undef) w';rw[hbase 10 (qu (by kernel_rfl))];exact Mok.q8 (k:=.prs M) hpr hw)⟩
        | 19,ho,hd =>
         obtain rfl:=osi ho;have fg:a.tmps.getD 98 undef = .bool true:=hd 16 _ _ rfl rfl (by kernel_rfl);exact⟨qn 16 98 rfl rfl (by rw[hsz];decide) fg,jf _ (.inl rfl) (by show ((.ch L:Mok)).holds (a.tmps.getD 12 undef) w';rw[hbase 12 (qu (by kernel_rfl))];exact Mok.q8 (k:=.ch L) htx hw)⟩
        | 20,ho,hd =>
         obtain rfl:=osi ho;have fg:a.tmps.getD 98 undef = .bool true:=hd 16 _ _ rfl rfl (by kernel_rfl);have f0:((.cx K:Mok)).holds (a.tmps.getD 99 undef) w':=hd 17 _ _ rfl rfl (by kernel_rfl);have f1:((.prs M:Mok)).holds (a.tmps.getD 100 undef) w':=hd 18 _ _ rfl rfl (by kernel_rfl);have f2:((.ch L:Mok)).holds (a.tmps.getD 101 undef) w':=hd 19 _ _ rfl rfl (by kernel_rfl);exact⟨qn 16 98 rfl rfl (by rw[hsz];decide) fg,xz _ _ _ rfl q36 #[a.tmps.getD 99 undef,a.tmps.getD 100 undef,a.tmps.getD 101 undef] (by simp[Act.eval]) (qmo _ _ K M _ f0 hK (by omega) f1 hI _ L N f2 hLk (by omega) hN hf)⟩
        | 21,ho,hd =>
         obtain rfl:=osi ho;have fg:a.tmps.getD 98 undef = .bool true:=hd 16 _ _ rfl rfl (by kernel_rfl);exact⟨qn 16 98 rfl rfl (by rw[hsz];decide) fg,zr _ _ rfl _ (hbase 9 (qu (by kernel_rfl))) _ (ldK (hbw.q8 hw)) (Mok.q8 (k:=.cx K) hcy hw)⟩
        | 22,ho,hd =>
         obtain rfl:=osi ho;have fg:a.tmps.getD 98 undef = .bool true:=hd 16 _ _ rfl rfl (by kernel_rfl);exact⟨qn 16 98 rfl rfl (by rw[hsz];decide) fg,jf _ (.inl rfl) (by show ((.prs M:Mok)).holds (a.tmps.getD 11 undef) w';rw[hbase 11 (qu (by kernel_rfl))];exact Mok.q8 (k:=.prs M) hps hw)⟩
        | 23,ho,hd =>
         obtain rfl:=osi ho;have fg:a.tmps.getD 98 undef = .bool true:=hd 16 _ _ rfl rfl (by kernel_rfl);exact⟨qn 16 98 rfl rfl (by rw[hsz];decide) fg,jf _ (.inl rfl) (by show ((.ch L:Mok)).holds (a.tmps.getD 13 undef) w';rw[hbase 13 (qu (by kernel_rfl))];exact Mok.q8 (k:=.ch L) hty hw)⟩
        | 24,ho,hd =>
         obtain rfl:=osi ho;have fg:a.tmps.getD 98 undef = .bool true:=hd 16 _ _ rfl rfl (by kernel_rfl);have f0:((.cx K:Mok)).holds (a.tmps.getD 103 undef) w':=hd 21 _ _ rfl rfl (by kernel_rfl);have f1:((.prs M:Mok)).holds (a.tmps.getD 104 undef) w':=hd 22 _ _ rfl rfl (by kernel_rfl);have f2:((.ch L:Mok)).holds (a.tmps.getD 105 undef) w':=hd 23 _ _ rfl rfl (by kernel_rfl);exact⟨qn 16 98 rfl rfl (by rw[hsz];decide) fg,xz _ _ _ rfl q36 #[a.tmps.getD 103 undef,a.tmps.getD 104 undef,a.tmps.getD 105 undef] (by simp[Act.eval]) (qmo _ _ K M _ f0 hK (by omega) f1 hI _ L N f2 hLk (by omega) hN hf)⟩
        | 25,ho,hd =>
         obtain rfl:=osi ho;have fg:a.tmps.getD 98 undef = .bool true:=hd 16 _ _ rfl rfl (by kernel_rfl);have f0:((.ch N:Mok)).holds (a.tmps.getD 102 undef) w':=hd 20 _ _ rfl rfl (by kernel_rfl);have f1:((.ch N:Mok)).holds (a.tmps.getD 106 undef) w':=hd 24 _ _ rfl rfl (by kernel_rfl);exact⟨qn 16 98 rfl rfl (by rw[hsz];decide) fg,xz _ _ _ rfl q0u #[a.tmps.getD 102 undef,a.tmps.getD 106 undef] (by simp[Act.eval]) (qj2 _ _ N _ f0 f1)⟩
        | 26,ho,hd =>
         obtain rfl:=osi ho;have f0:((.tt:Mok)).holds (a.tmps.getD 98 undef) w':=hd 16 _ _ rfl rfl (by kernel_rfl);have f1:((.tt:Mok)).holds (a.tmps.getD 107 undef) w':=hd 25 _ _ rfl rfl (by kernel_rfl);exact⟨rfl,jx _ _ _ rfl f0 f1⟩
        | 27,ho,hd =>
         obtain rfl:=osi ho;have f0:((.tt:Mok)).holds (a.tmps.getD 108 undef) w':=hd 26 _ _ rfl rfl (by kernel_rfl);exact⟨rfl,jf _ (.inl rfl) f0⟩
        | 28,ho,hd =>
         obtain rfl:=osi ho;have fg:a.tmps.getD 109 undef = .bool true:=hd 27 _ _ rfl rfl (by kernel_rfl);exact⟨qn 27 109 rfl rfl (by rw[hsz];decide) fg,zr _ _ rfl _ (hbase 8 (qu (by kernel_rfl))) _ (ldK (hbv.q8 hw)) (Mok.q8 (k:=.cx K) hcx hw)⟩
        | 29,ho,hd =>
         obtain rfl:=osi ho;have fg:a.tmps.getD 109 undef = .bool true:=hd 27 _ _ rfl rfl (by kernel_rfl);exact⟨qn 27 109 rfl rfl (by rw[hsz];decide) fg,jf _ (.inl rfl) (by show ((.prs M:Mok)).holds (a.tmps.getD 10 undef) w';rw[hbase 10 (qu (by kernel_rfl))];exact Mok.q8 (k:=.prs M) hpr hw)⟩
        | 30,ho,hd =>
         obtain rfl:=osi ho;have fg:a.tmps.getD 109 undef = .bool true:=hd 27 _ _ rfl rfl (by kernel_rfl);have f0:((.cx K:Mok)).holds (a.tmps.getD 110 undef) w':=hd 28 _ _ rfl rfl (by kernel_rfl);have f1:((.prs M:Mok)).holds (a.tmps.getD 111 undef) w':=hd 29 _ _ rfl rfl (by kernel_rfl);exact⟨qn 27 109 rfl rfl (by rw[hsz];decide) fg,xz _ _ _ rfl q1v #[a.tmps.getD 110 undef,a.tmps.getD 111 undef,.int .i64 1] (by simp[Act.eval]) (qqs _ _ K M _ f0 hK hKl f1 hI hG hE 1 (by omega) (by omega))⟩
        | 31,ho,hd =>
         obtain rfl:=osi ho;have fg:a.tmps.getD 109 undef = .bool true:=hd 27 _ _ rfl rfl (by kernel_rfl);exact⟨qn 27 109 rfl rfl (by rw[hsz];decide) fg,zr _ _ rfl _ (hbase 9 (qu (by kernel_rfl))) _ (ldK (hbw.q8 hw)) (Mok.q8 (k:=.cx K) hcy hw)⟩
        | 32,ho,hd =>
         obtain rfl:=osi ho;have fg:a.tmps.getD 109 undef = .bool true:=hd 27 _ _ rfl rfl (by kernel_rfl);exact⟨qn 27 109 rfl rfl (by rw[hsz];decide) fg,jf _ (.inl rfl) (by show ((.prs M:Mok)).holds (a.tmps.getD 11 undef) w';rw[hbase 11 (qu (by kernel_rfl))];exact Mok.q8 (k:=.prs M) hps hw)⟩
        | 33,ho,hd =>
         obtain rfl:=osi ho;have fg:a.tmps.getD 109 undef = .bool true:=hd 27 _ _ rfl rfl (by kernel_rfl);have f0:((.cx K:Mok)).holds (a.tmps.getD 113 undef) w':=hd 31 _ _ rfl rfl (by kernel_rfl);have f1:((.prs M:Mok)).holds (a.tmps.getD 114 undef) w':=hd 32 _ _ rfl rfl (by kernel_rfl);exact⟨qn 27 109 rfl rfl (by rw[hsz];decide) fg,xz _ _ _ rfl q1v #[a.tmps.getD 113 undef,a.tmps.getD 114 undef,.int .i64 1] (by simp[Act.eval]) (qqs _ _ K M _ f0 hK hKl f1 hI hG hE 1 (by omega) (by omega))⟩
        | 34,ho,hd =>
         obtain rfl:=osi ho;have fg:a.tmps.getD 109 undef = .bool true:=hd 27 _ _ rfl rfl (by kernel_rfl);have f0:((.mat (yt K M (1 - 1)).length (yt K M 1).length (qd0 K M 1):Mok)).holds (a.tmps.getD 112 undef) w':=hd 30 _ _ rfl rfl (by kernel_rfl);have f1:((.mat (yt K M (1 - 1)).length (yt K M 1).length (qd0 K M 1):Mok)).holds (a.tmps.getD 115 undef) w':=hd 33 _ _ rfl rfl (by kernel_rfl);exact⟨qn 27 109 rfl rfl (by rw[hsz];decide) fg,xz _ _ _ rfl q9l #[a.tmps.getD 112 undef,a.tmps.getD 115 undef] (by simp[Act.eval]) (kEq _ _ _ _ _ _ f0 f1 hn1 hn2 hML)⟩
        | 35,ho,hd =>
         obtain rfl:=osi ho;have f0:((.tt:Mok)).holds (a.tmps.getD 109 undef) w':=hd 27 _ _ rfl rfl (by kernel_rfl);have f1:((.tt:Mok)).holds (a.tmps.getD 116 undef) w':=hd 34 _ _ rfl rfl (by kernel_rfl);exact⟨rfl,jx _ _ _ rfl f0 f1⟩
        | 36,ho,hd =>
         obtain rfl:=osi ho;have f0:((.tt:Mok)).holds (a.tmps.getD 117 undef) w':=hd 35 _ _ rfl rfl (by kernel_rfl);exact⟨rfl,jf _ (.inr rfl) f0⟩
        | i+37,ho,hd =>
         have:i+37 < 37:=(Array.getElem?_eq_some_iff.1 ho).1;omega
       case done =>
        intro a wz hsz hdf hf hbase hw;have ht:a.tmps.getD 6 undef = .bool true:=hf 36 _ _ rfl rfl;refine hKK _ _ ?_;have hBf:=hbl.trans (hw.mono hbl.size);clear hbase hf;refine wp_ret ?_;show bodyPost Tryz.prog Tryz.f14 (fun e w'=>e = .returned (.bool true)/\Below w.heap.size w w') .ret a wz;refine bodyPost_ret (v:=.bool true) ?_ hdf ⟨rfl,hBf⟩;rw[Array.getD_eq_getD_getElem?] at ht;simp[results,Tryz.results14,go_sem,ht]
end Go.Proofs.YtlhicnfeajejhaaGreatDoor
