/- Steps towards MorseParts. Conditions: none. -/
import Derived.Test.YtlhicnfeajejhaaGreatDoorGQx
set_option maxRecDepth 1000000
set_option maxHeartbeats 16000000
namespace Go.Cx
open Go.Proofs.YtlhicnfeajejhaaGreatDoor
theorem qrf {α:Type} (q:α->Bool) (l:List α) (j:Nat) (x:α) (h:l[j]? = some x):(l.take (j+1)).filter q=(l.take j).filter q++if q x=true then [x] else []:=by rw[gq,h];show (l.take j++[x]).filter q=_;rw[bm,List.filter_cons];split <;> rfl
theorem qr7 {K:List Cl} (G:Good K) (hc:chk K=(0,0)) (m:List (Int×Int)):opE K m=j8 K m:=by unfold opE;rw[hc,if_pos rfl,G.cells.1]
end Go.Cx
namespace Go.Proofs.YtlhicnfeajejhaaGreatDoor
open Go.RowKit Go.Cx
attribute [local go_sem ↓] Go.wp_at_zero Go.wp_at_succ
theorem qro {K:List Cl} (G:Cx.Good K) {ps:List (Int×Int)} {hi lo:Int->Int} (aC:xk K zz zz ps=some (hi,lo)) (v:Value) (id:Int) (w:World) (h:Sl w 2 v (pv ps)) (hl:ps.length<=1000000) :
  Calls Tryz.prog 107 #[v,.int .i64 id] w fun e w'=>e = .returned (.bool (pdB hi lo id))/\Below w.heap.size w w':=by
 refine(qja v ps id w h hl).mono ?_;rintro e w' ⟨q,rfl,hq,hb⟩;exact⟨by rw[show q=pdB hi lo id from Bool.eq_iff_iff.2 (hq.trans (qol G aC id).symm)],hb⟩
theorem qrg (v pvv:Value) (l:List Ce) (ps:List (Int×Int)) (d:Int) (w:World) (h:SlC w v l) (hl:l.length<=4000) (aK:∀ x∈l,x.s.length<=1099511627776) (G:Cx.Good (l.map Ce.cl)) (hc:chk (l.map Ce.cl)=(0,0)) (hp:Sl w 2 pvv (pv ps)) (cm:ps.length<=1000000) :
  Calls Tryz.prog 55 #[.agg #[v],pvv,.int .i64 d] w fun e w'=>∃ r,e = .returned r/\w'.ownsRow w.heap.size 3 1 r (yt (l.map Ce.cl) ps d).length (ints (yt (l.map Ce.cl) ps d))/\Below w.heap.size w w':=by
 obtain⟨a,n,cap,rfl⟩:=qg h.1;obtain⟨pa,pn,pc,rfl⟩:=qg hp;obtain⟨W,hW⟩ : ∃ W:World,W=w.alloc (.cells #[.slice a n cap] 26):=⟨_,rfl⟩
 have hB:Below w.heap.size w W:=by rw[hW];exact bal w _
 have b0:W.cell? ⟨w.heap.size,0,none⟩=some (.slice a n cap):=by rw[hW];exact qd w _ _ (0,0) 0
 have ll:=qmb _ _ l ps W (h.q8 hB) hl aK G hc (hp.q8 hB) cm;have rm:∀ U,Below W.heap.size W U->Calls Tryz.prog 19 #[.agg #[.slice a n cap],.int .i64 d] U fun e w'=>∃ r,e = .returned r/\w'.ownsRow U.heap.size 3 1 r (qrd (l.map Ce.cl) d).length (ints (qrd (l.map Ce.cl) d))/\Below U.heap.size U w':=fun U hU=>qth _ l d U ((h.q8 hB).q8 hU) (by omega) aK
 obtain⟨K,hK⟩ : ∃ K,K=l.map Ce.cl:=⟨_,rfl⟩
 rw[<-hK] at ll rm ⊢;have ed:(qrd K d).length<=4000:=by rw[qrw (by rw[hK];exact G.asc),gn];refine gl (gQ _ _) ?_;rw[hK,gn];exact hl
 have bK:=qr7 G hc ps;rw[<-hK] at bK;have HH:=lhd (aiq ll (aiq rm (aiq (hp.q8 hB) (aiq hB (aiq cm (aiq ed bK))))));have HG:=lhd (aiq (show Cx.Good K from hK ▸ G) (show chk K=(0,0) from hK ▸ hc));have ly:=lhd hW;clear h aK G hc hp hB ll rm ed bK hl hK hW cm;obtain⟨E,hE⟩ : ∃ E,E=j8 K ps:=⟨_,rfl⟩
 have HE:=lhd hE;have cJ:=HH.out.1;rw[<-hE] at cJ;have HC:=lhd cJ;clear hE cJ;go_enter Tryz.func55,Tryz.ntmps55;go_wp2_with fail;rw[<-ly.out];refine HC.out.mono ?_;rintro e w1 ⟨rfl,ai⟩;have H1:=lhd ai;by_cases mK:E=0
 case neg =>
  have hb:(E != 0)=true:=by simpa using mK
  have HN:=lhd mK;clear mK ai;go_wp2_with fail;go_ret;refine⟨_,rfl,?_,(btr HH.out.2.2.2.1 H1.out)⟩;unfold yt;rw[HH.out.2.2.2.2.2.2,<-HE.out,if_neg HN.out];exact World.ownsRow_nil _ _ _ _
 subst mK;obtain⟨hi,lo,aC,_,_,_,_,Je,_,_⟩:=qqy HG.out.1 HG.out.2 HE.out.symm d;have GH:q27 K hi lo d=(qrd K d).filter fun c=>!pdB hi lo c:=by unfold q27;rw[qsz HG.out.1]
 rw[GH] at Je;obtain⟨I,hI⟩ : ∃ I,I=qrd K d:=⟨_,rfl⟩
 rw[<-hI] at Je;have Xy:=lhd Je;have b1:=Cx.q8 ai b0;have HI:=lhd hI;have HP:=lhd aC;clear aC Je GH hI ai;go_wp2_with fail;refine(HH.out.2.1 _ H1.out).mono ?_;rintro e w2 ⟨r,rfl,hr,aj⟩;rw[<-HI.out] at hr;obtain⟨ia,ic,hie⟩:=qj hr;subst hie;have oL:=Sl.qc hr;obtain⟨Np,Nq,_⟩:=oL.open;unfold maxLen at Nq;obtain⟨m,hm⟩ : ∃ m,m=I.length:=⟨_,rfl⟩
 have dx:m<=4000:=by rw[hm,HI.out];exact HH.out.2.2.2.2.2.1
 rw[<-hm] at oL Np ⊢;have bR:W.heap.size<=w2.heap.size:=gl H1.out.size aj.size;have HS:=lhd (aiq oL (aiq hm ((btr H1.out aj))));clear hr oL hm aj b1;go_wp2_with fail;go_loopw [8,9] (fun o i wr=>∃ j:Nat,i = .int .i64 j/\j<=m/\Hid (wr.ownsRow w2.heap.size 3 1 o ((I.take j).filter fun c=>!pdB hi lo c).length (ints ((I.take j).filter fun c=>!pdB hi lo c)))/\Hid (Below w2.heap.size w2 wr)) (fun _ i _=>m - (vI i).toNat)
 case atStart=>exact⟨0,rfl,go _,(show Hid _ from World.ownsRow_nil _ _ _ _),(show Hid _ from Below.refl _ _)⟩
 case round =>
  obtain⟨j,rfl,hj,HO,HB⟩:=hrel;obtain⟨oa,oc,ng⟩:=qj HO.out;subst ng;by_cases hlt:j < m
  ·obtain⟨x,hx⟩ : ∃ x,I[j]? = some x:=⟨_,g8 (by rw[<-HS.out.2.1];exact hlt)⟩
   obtain⟨_,_,h4,h5,h6⟩:=HS.out.1.open;obtain⟨ad,aT⟩:=sadq h5 (by omega)
   subst aT;have d0:wr.cell? (ad.add j)=some (.int .i64 x):=Cx.q8 HB.out (h6 ad rfl _ _ (by simp[ints,hx]));have rn:=qro HG.out.1 HP.out (.slice pa pn pc) x wr ((HH.out.2.2.1.q8 HS.out.2.2).q8 HB.out) HH.out.2.2.2.2.1;have bZ:=qrf (fun c=>!pdB hi lo c) I j x hx;have lK:((I.take j).filter fun c=>!pdB hi lo c).length<=j:=gl (gQ _ _) (by rw[gd];omega);obtain⟨L,hL⟩ : ∃ L,L=(I.take j).filter fun c=>!pdB hi lo c:=⟨_,rfl⟩
   rw[<-hL] at bZ lK HO ⊢;obtain⟨pd,oX⟩ : ∃ pd,pd=pdB hi lo x:=⟨_,rfl⟩
   have bZ:(I.take (j+1)).filter (fun c=>!pdB hi lo c)=L++if (!pd)=true then [x] else []:=by rw[bZ,oX]
   rw[<-oX] at rn;obtain⟨nl,iY⟩ : ∃ nl,nl=L.length:=⟨_,rfl⟩
   rw[<-iY] at lK HO ⊢;have oJ:=lhd iY;have cr:=lhd bZ;have BB:=lhd rn;clear bZ rn oX hL iY hx h4 h5 h6;have cE:(j:Int) < m:=by omega
   go_wp2_with fail;refine BB.out.mono ?_;rintro e w3 ⟨rfl,aQ⟩;have fC:=lhd ((btr HB.out aQ));have Si:=lhd (qa HO.out aQ);have d1:=Cx.q8 aQ d0;clear aQ d0;have bV:w2.heap.size<=w3.heap.size:=fC.out.size;have ar:=fC.out;have Sj:=Si.out;cases pd with
   | true =>
    rw[if_neg (by simp),gH] at cr;clear ar Sj;go_wp2_with fail;go_roundw
    case measure=>simp[vI];omega
    case rel=>exact⟨j+1,qh (by omega),by omega,(show Hid _ from by rw[cr.out,<-oJ.out];exact Si.out),fC⟩
   | false =>
    rw[if_pos (by simp)] at cr;go_wp2_with (at_builtin;go_loud (refine qo (W:=w2) rfl _ _ 22 rfl w2.heap.size 3 Tryz.xg Tryz.underlying22 rfl (by decide) (by decide) _ _ _ rfl Sj [.int .i64 x] rfl rfl (q5v _) (by omega) ar bV ?_));intro v5 w5 aZ _ aB;have F5:=lhd (aiq aZ aB);clear aZ aB;go_wp2;go_roundw
    case measure=>simp[vI];omega
    case rel =>refine⟨j+1,qh (by omega),by omega,(show Hid _ from ?_),(show Hid _ from F5.out.2)⟩;rw[cr.out,gc,<-oJ.out,j3];exact F5.out.1
  ·have cO:I.take j=I:=gm (by rw[<-HS.out.2.1];omega);rw[cO] at HO ⊢;have cE:¬ (j:Int) < m:=by omega
   clear cO;go_wp2;go_ret;rw[Xy.out];refine⟨_,rfl,qf HO.out (gl HH.out.2.2.2.1.size bR),HH.out.2.2.2.1.trans (((btr HS.out.2.2 HB.out)).mono HH.out.2.2.2.1.size)⟩
end Go.Proofs.YtlhicnfeajejhaaGreatDoor
namespace Go.Cx
open Go.Proofs.YtlhicnfeajejhaaGreatDoor
theorem qt1 {α:Type} {l:List α} {j:Nat} {x:α} {P:α->Prop} (h:∀ q∈l.take j,P q) (hx:l[j]? = some x) (hp:P x):∀ q∈l.take (j+1),P q:=fun q hq=>by
 rw[gq,hx] at hq;rcases gF.1 hq with h1 | h1
 ·exact h q h1
 ·have:q=x:=by simpa using h1
  rw[this];exact hp
end Go.Cx
namespace Go.Proofs.YtlhicnfeajejhaaGreatDoor
open Go.RowKit Go.Cx
attribute [local go_sem ↓] Go.wp_at_zero Go.wp_at_succ
theorem qsk {K:List Cl} (G:Cx.Good K) {ps:List (Int×Int)} {hi lo:Int->Int} (aC:xk K zz zz ps=some (hi,lo)) (v:Value) (id:Int) (w:World) (h:Sl w 2 v (pv ps)) (hl:ps.length<=1000000) :
  Calls Tryz.prog 159 #[v,.int .i64 0,.int .i64 id] w fun e w'=>∃ z:Int,e = .returned (.int .i64 z)/\((z = -1/\hi id=0)\/∃ i:Nat,z=i/\ps[i]? = some (id,hi id)/\hi id≠0)/\Below w.heap.size w w':=by
 refine(qj9 v ps 0 id w h hl (by decide)).mono ?_;rintro e w' ⟨z,rfl,hz,hb⟩;refine⟨z,rfl,?_,hb⟩;rcases hz with ⟨rfl,hn⟩ | ⟨i,p,rfl,hi2,ha,_⟩
 ·refine .inl ⟨rfl,?_⟩;apply be;intro al;rcases q0e ps _ _ _ aC id al with h1 | ⟨p,hp,he⟩
  ·exact h1 rfl
  ·exact hn p hp he
 ·have ha:p.1=id:=ha;obtain⟨h1,h2⟩:=(yl G ps _ _ _ aC).2 p (gh hi2);have h1:hi p.1=p.2:=h1;refine .inr ⟨i,rfl,?_,?_⟩
  ·rw[hi2,<-ha,h1]
  ·rw[<-ha,h1];exact h2
theorem qs3 (w:World) (ad:Addr) (n c i:Nat) (hi:i < n):(Instr.indexAt 32 (.slice (some ad) n c) (.int .i64 i)).run Tryz.prog w = .ok (.pointer (some (ad.add (i*3)))) w:=by
 have h1:(0:Int)<=i:=by omega
 have h2:(i:Int) < n:=by omega
 simp[go_sem,h1,h2]
theorem qs4 (w:World) (q:Addr):(Instr.fieldAt 71 (.pointer (some q)) 1).run Tryz.prog w = .ok (.pointer (some ⟨q.block,q.off+1,none⟩)) w:=by simp[go_sem]
theorem qtp {w:World} {q:Addr} {x:Int} (h0:w.cell? ⟨q.block,q.off+1,none⟩=some (.bool (decide (x < 0)))) (h1:w.cell? ⟨q.block,q.off+2,none⟩=some (.string (mg x))):(Instr.loadAt 38 (.pointer (some ⟨q.block,q.off+1,none⟩))).run Tryz.prog w = .ok (wv x) w:=by show _=Result.ok (Value.agg #[.bool (decide (x < 0)),.string (mg x)]) w;simp[go_sem,h0,h1]
theorem qss {w:World} {q:Nat} {v:Value} (h:w.cell? ⟨q,0,none⟩=some v):(Instr.loadAt 26 (.pointer (some ⟨q,0,none⟩))).run Tryz.prog w = .ok (.agg #[v]) w:=by simp[go_sem,h]
theorem qrl:∀ args w,(callFunc 114 args).run Tryz.prog w = .ok (.enter 114 args) w:=q7b Tryz.func114 (by kernel_rfl) (by kernel_rfl)
structure Cs2 (w0:World) (K:List Cl) (hi:Int->Int) (Wt:Int->Nat) (B:Nat) (f' h':Int->Int) (k:Nat) (va vh:Value) (wr:World):Prop where
 ex:∃ (La Lh:List (Int×Int)),Clr K hi k (co La) (co Lh) f' h'/\Cn La/\Cn Lh/\Sl wr 3 va (tv (ctm La))/\Sl wr 3 vh (tv (ctm Lh))/\In0 K (co La)/\In0 K (co Lh)/\Ph (K.map Cl.id) Wt (co La)+Ph (K.map Cl.id) (fun _=>1) (co Lh)<=B
 below:Below w0.heap.size w0 wr
theorem qsl (v pvv u:Value) (l:List Ce) (ps:List (Int×Int)) (w:World) (h:SlC w v l) (hl:l.length<=4000) (aK:∀ x∈l,x.s.length<=1099511627776) (cH:COk l) (G:Cx.Good (l.map Ce.cl)) {hi lo f' h':Int->Int} (aC:xk (l.map Ce.cl) zz zz ps=some (hi,lo)) {Wt:Int->Nat} (hW:Wgt (l.map Ce.cl) hi Wt) (hp:Sl w 2 pvv (pv ps)) (cm:ps.length<=1000000)
  (L:List (Int×Int)) (hu:Sl w 3 u (tv (ctm L))) (iG:Cn L) (hIn:In0 (l.map Ce.cl) (co L)) (S:Nat) (hS:∀ d,nb (co L d)<=S) (mG:S<=1000000000) (N:Nat) (hC:Clr (l.map Ce.cl) hi N (co L) zz f' h') :
  Calls Tryz.prog 120 #[.agg #[v],pvv,u] w fun e w'=>∃ r1 r2 L1 L2,e = .returned (.tuple #[r1,r2])/\Sl w' 3 r1 (tv (ctm L1))/\Cn L1/\co L1=f'/\Sl w' 3 r2 (tv (ctm L2))/\Cn L2/\co L2=h'/\In0 (l.map Ce.cl) f'/\In0 (l.map Ce.cl) h'/\(∀ d,nb (f' d)<=S+4003/\nb (h' d)<=S+4003)/\Below w.heap.size w w':=by
 obtain⟨a,n,cap,rfl⟩:=qg h.1;obtain⟨pa,pn,pc,rfl⟩:=qg hp;obtain⟨ua,un,uc,rfl⟩:=qg hu;obtain⟨W,Jf⟩ : ∃ W:World,W=w.alloc (.cells #[.slice a n cap] 26):=⟨_,rfl⟩
 have hB:Below w.heap.size w W:=by rw[Jf];exact bal w _
 have b0:W.cell? ⟨w.heap.size,0,none⟩=some (.slice a n cap):=by rw[Jf];exact qd w _ _ (0,0) 0
 have Ch:∀ U,Below W.heap.size W U->∀ y z:Int,Calls Tryz.prog 114 #[.agg #[.slice a n cap],.int .i64 y,.int .i64 z] U fun e w'=>e = .returned (.int .i64 (sgn (l.map Ce.cl) z y))/\Below U.heap.size U w':=fun U hU y z=>qjb _ l y z U ((h.q8 hB).q8 hU) (by omega) aK G
 have iw:ps.length=pn:=by obtain⟨_,_,h3,_⟩:=hp.open;rw[yq] at h3;omega
 obtain⟨oD,nk,_⟩:=hp.open;unfold maxLen at nk;have fs:(zk l).length<=256000:=by rw[q2q];exact q6v G
 obtain⟨K,hK⟩ : ∃ K,K=l.map Ce.cl:=⟨_,rfl⟩
 have nK:∀ U,Below W.heap.size W U->∀ (v:Value) (t:List Tm) (T:Nat),Sl U 3 v (tv t)->TOk T t->T+t.length<=1000000000000->Calls Tryz.prog 49 #[.agg #[.slice a n cap],v] U fun e w'=>∃ r,e = .returned r/\qbv U w' r (co (bdL (co (prs t)) (z8 K))) (zk l).length:=fun U hU v t T k kT hb=>by rw[hK,<-q2q];exact qc2 _ l v t T U ((h.q8 hB).q8 hU) cH k kT (by omega)
 rw[<-hK] at Ch G aC hW hIn hC ⊢;have hM:=q6q G ps _ _ _ (q6p K) aC;have cw:=qoa hW hS (by have:=G.len;omega);have hlen:=G.len;obtain⟨B,vH⟩ : ∃ B,B=Ph (K.map Cl.id) Wt (co L):=⟨_,rfl⟩
 rw[<-vH] at cw;have bound:∀ (La Lh:List (Int×Int)),In0 K (co La)->In0 K (co Lh)->Ph (K.map Cl.id) Wt (co La)+Ph (K.map Cl.id) (fun _=>1) (co Lh)<=B->(∀ d,nb (co La d)<=S+4003)/\∀ d,nb (co Lh d)<=S+4003:=fun La Lh i1 i2 hb=>⟨fun d=>gl (qb9 hW.pos i1 (gl (Nat.le_add_right _ _) hb) cw d) (by omega),fun d=>gl (qb9 (W:=fun _=>1) (fun _=>by omega) i2 (gl (Nat.le_add_left _ _) hb) cw d) (by omega)⟩
 have H0:=lhd (aiq (hu.q8 hB) (aiq iG (aiq hIn (aiq hC vH))));have HP:=lhd (aiq G (aiq aC (aiq hM (aiq hW (aiq cw (aiq cH hK))))));have HQ:=lhd (aiq hB (aiq (hp.q8 hB) (aiq cm (aiq iw (aiq oD nk)))));have Bh:=lhd Ch;have Xz:=lhd nK;have zA:=lhd bound;have Ig:=lhd Jf;have E4:=lhd fs;have CT:=lhd hlen;clear h hl aK cH G aC hW hp cm hu iG hIn hS hC hB Jf Ch iw oD nk hK nK hM cw vH bound fs hlen;go_enter Tryz.func120,Tryz.ntmps120;go_wp2_with fail;rw[<-Ig.out];go_loopw [2,8] (fun va vh wr=>∃ k,Cs2 W K hi Wt B f' h' k va vh wr) (fun va vh wr=>least (fun k=>Cs2 W K hi Wt B f' h' k va vh wr))
 case atStart =>obtain⟨h1,h2,h3,h4,h5⟩:=H0.out;exact⟨N,⟨L,[],h4,h2,Cn.nil,h1,Sl.nil _ _,h3,fun d hd=>absurd rfl hd,by rw[h5];exact Nat.le_of_eq (by rw[show co ([] : List (Int×Int))=zz from rfl,qlw,Nat.add_zero])⟩,Below.refl _ _⟩
 case round =>
  obtain⟨wo,de⟩ : ∃ wo,wo=wr:=⟨_,rfl⟩
  subst de;have az:=(q6t hrel).1;obtain⟨kk,px⟩ : ∃ kk,kk=least (fun k=>Cs2 W K hi Wt B f' h' k u2 u8 wo):=⟨_,rfl⟩
  rw[<-px] at az;obtain⟨⟨La,Lh,h1,h2,h3,h4,h5,h6,h7,h8⟩,aR⟩:=az;have oO:=lhd px;clear px hrel;obtain⟨oQ,eU,oR,rfl⟩:=qg h4;obtain⟨WE,QU,QV,rfl⟩:=qg h5;have uy:La.length=eU:=by obtain⟨_,_,h3,_⟩:=h4.open;rw[z6,qz] at h3;omega
  obtain⟨X0,wJ,_⟩:=h4.open;unfold maxLen at wJ;have Sm:=lhd uy;have kG:=lhd (aiq h1 (aiq h2 (aiq h3 (aiq h4 (aiq h5 (aiq h6 (aiq h7 (aiq h8 aR))))))));clear h1 h2 h3 h4 h5 h6 h7 h8 aR uy;go_wp2_with fail;go_loopw [9,10] (fun at' k w3=>∃ j:Nat,k = .int .i64 j/\j<=eU/\Hid (Below wo.heap.size wo w3)/\Hid ((at' = .int .i64 (-1)/\∀ q∈La.take j,hi q.1=0)\/∃ (i:Nat) (p:Int×Int),at' = .int .i64 i/\i < eU/\La[i]? = some p/\hi p.1≠0/\∀ q∈La.take i,hi q.1=0)) (fun _ k _=>eU - (vI k).toNat)
  case atStart=>exact⟨0,rfl,go _,(show Hid _ from Below.refl _ _),(show Hid _ from .inl ⟨rfl,fun q hq=>by simp at hq⟩)⟩
  case round =>
   obtain⟨j,rfl,hj,ub,HA⟩:=hrel;rcases HA.out with ⟨rfl,et⟩ | ⟨i,p,rfl,hi1,hip,iw,fO⟩
   ·have yO:=lhd et;clear et HA;by_cases hlt:j < eU
    ·obtain⟨⟨c,x⟩,hx⟩ : ∃ p,La[j]? = some p:=⟨_,g8 (by rw[Sm.out];exact hlt)⟩
     obtain⟨_,_,_,h5,h6⟩:=kG.out.2.2.2.1.open;obtain⟨ad,aT⟩:=sadq h5 (by omega)
     subst aT;obtain⟨e0,_,_⟩:=jd (ctm La) j ⟨c,decide (x < 0),mg x⟩ (by unfold ctm;rw[List.getElem?_map,hx];rfl);have d0:=Cx.q8 ub.out (h6 ad rfl _ _ e0);have fF:=qsk HP.out.1 HP.out.2.1 (.slice pa pn pc) c wr (((HQ.out.2.1.q8 kG.out.2.2.2.2.2.2.2.2)).q8 ub.out) HQ.out.2.2.1;have C7:=lhd fF;have HX:=lhd hx;have cE:(j:Int) < eU:=by omega
     clear h5 h6 e0 fF hx;go_wp2_with fail;refine C7.out.mono ?_;rintro e w4 ⟨z,rfl,hz,aM⟩;have pN:=lhd ((btr ub.out aM));clear aM d0;rcases hz with ⟨rfl,aF⟩ | ⟨i,rfl,bR,bV⟩
     ·have HZ:=lhd aF;clear aF;go_wp2_with fail;go_roundw
      case measure=>simp[vI];omega
      case rel=>exact⟨j+1,qh (by omega),by omega,pN,(show Hid _ from .inl ⟨rfl,qt1 yO.out HX.out HZ.out⟩)⟩
     ·have HZ:=lhd (aiq bR bV);have hi0:(0:Int)<=i:=by omega
      clear bR bV;go_wp2_with fail;go_roundw
      case measure=>simp[vI];omega
      case rel=>exact⟨j+1,qh (by omega),by omega,pN,(show Hid _ from .inr ⟨j,(c,x),rfl,hlt,HX.out,HZ.out.2,yO.out⟩)⟩
    ·have cE:¬ (j:Int) < eU:=by omega
     go_wp2_with fail;go_ret2;obtain⟨h1,h2,h3,h4,h5,h6,h7,h8,aR⟩:=kG.out;obtain⟨e1,e2⟩:=qlp h1 fun q hq=>yO.out q (by rw[gm (by rw[Sm.out];omega)];exact hq)
     obtain⟨b1,b2⟩:=zA.out La Lh h6 h7 h8;exact⟨_,_,rfl,La,h4.q8 ub.out,h2,e1.symm,Lh,h5.q8 ub.out,h3,e2.symm,e1 ▸ h6,e2 ▸ h7,fun d=>by rw[e1,e2];exact⟨b1 d,b2 d⟩,HQ.out.1.trans (((btr aR ub.out)).mono HQ.out.1.size)⟩
   ·obtain⟨c0,x0⟩:=p;have iw:hi c0≠0:=iw;obtain⟨h1,h2,h3,h4,h5,h6,h7,h8,aR⟩:=kG.out;obtain⟨m,hm,fl⟩:=qfv h1 h2 hip iw fO;have bK:co La c0=x0:=zl h2.1 (gh hip);have jD:co La c0≠0:=by rw[bK];exact h2.2 _ (gh hip)
    have Bq:=h6 c0 jD;have fp:I64 c0:=q4s HP.out.2.2.2.2.2.2.symm HP.out.2.2.2.2.2.1 Bq;have l6:=HP.out.2.2.1.sg c0 iw;have hh:=q92 l6;obtain⟨hv,iZ⟩ : ∃ hv,hv=hi c0:=⟨_,rfl⟩
    have lu:I64 hv:=by
     rw[iZ];obtain⟨y,hy,he⟩:=List.any_eq_true.1 hh;have he:y.id=hi c0:=by simpa using he
     rw[<-he];exact q4s HP.out.2.2.2.2.2.2.symm HP.out.2.2.2.2.2.1 (gG hy)
    obtain⟨sg,bX⟩ : ∃ sg,sg=sgn K hv c0:=⟨_,rfl⟩
    have fq:sg=1\/sg = -1:=by rw[bX,iZ];exact HP.out.1.q2v l6
    obtain⟨g2,g3,_,g4,g5⟩:=h4.open;obtain⟨ad,rfl⟩:=sadq g4 (by omega)
    obtain⟨e0,e1,e2⟩:=jd (ctm La) i ⟨c0,decide (x0 < 0),mg x0⟩ (by unfold ctm;rw[List.getElem?_map,hip];rfl);have da:∀ U,Below wo.heap.size wo U->U.cell? (ad.add (i*3))=some (.int .i64 c0)/\U.cell? ⟨(ad.add (i*3)).block,(ad.add (i*3)).off+1,none⟩=some (.bool (decide (x0 < 0)))/\U.cell? ⟨(ad.add (i*3)).block,(ad.add (i*3)).off+2,none⟩=some (.string (mg x0)):=fun U hU=>by
     refine⟨Cx.q8 hU (g5 ad rfl _ _ e0),?_,?_⟩
     ·rw[qi _ _ _ (by omega)];exact Cx.q8 hU (g5 ad rfl _ _ e1)
     ·rw[qi _ _ _ (by omega)];exact Cx.q8 hU (g5 ad rfl _ _ e2)
    have dJ:=lhd da;have HX:=lhd (aiq hm (aiq fl (aiq bK (aiq iZ (aiq bX (aiq fq (aiq lu (aiq fp (aiq iw jD)))))))));have fF:=qsk HP.out.1 HP.out.2.1 (.slice pa pn pc) c0 wr (((HQ.out.2.1.q8 aR)).q8 ub.out) HQ.out.2.2.1;rw[<-iZ] at fF;have C7:=lhd fF;have d0:=(da _ ub.out).1;have cP:(i:Int) < eU:=by omega
    have X1:¬ (i:Int) < 0:=by omega
    have X2:(0:Int)<=i:=by omega
    clear h1 h2 h3 h4 h5 h6 h7 h8 aR hm fl bK jD Bq fp l6 hh iZ lu bX fq g2 g3 g4 g5 e0 e1 e2 da fF hip fO iw HA;go_upto_region 4 with fail
    go_cut [21] from 14 to 20 (fun x wx=>x = .bool false/\wx=wr)
    case first =>
     by_cases hlt:(j:Int) < eU
     ·go_wp2_with fail
      go_meet
      exact⟨rfl,rfl⟩
     ·go_wp2_with fail
      go_meet
      exact⟨rfl,rfl⟩
    case rest =>
     obtain⟨rfl,rfl⟩:=hcut;go_wp2_with fail;refine C7.out.mono ?_;rintro e w4 ⟨z,rfl,hz,aM⟩;rcases hz with ⟨rfl,aF⟩ | ⟨i2,rfl,bR,bV⟩
     ·exact absurd (HX.out.2.2.2.1.symm.trans aF) HX.out.2.2.2.2.2.2.2.2.1
     have hi2:i2 < pn:=by have:=(ge.1 bR).1;rw[HQ.out.2.2.2.1] at this;exact this
     obtain⟨_,_,_,q4,q5⟩:=HQ.out.2.1.open;obtain⟨ad2,rfl⟩:=sadq q4 (by omega)
     have sU:Below wo.heap.size wo w4:=(btr ub.out aM);have wM:Below W.heap.size W w4:=(btr kG.out.2.2.2.2.2.2.2.2 sU);obtain⟨f0,f1⟩:=kv ps i2 _ bR;have k0:=Cx.q8 wM (q5 ad2 rfl _ _ f0);have k1:w4.cell? ⟨(ad2.add (i2*2)).block,(ad2.add (i2*2)).off+1,none⟩=some (.int .i64 hv):=by rw[qi _ _ _ (by omega)];exact Cx.q8 wM (q5 ad2 rfl _ _ f1)
     have C6:(i2:Int) < pn:=by omega
     have Dl:(0:Int)<=i2:=by omega
     have H4:=lhd (aiq sU wM);clear bR bV q4 q5 aM sU wM f0 f1 d0 C7;go_upto_region 11 with fail;obtain⟨tO,Ci⟩ : ∃ p,p=w4.heap.size:=⟨_,rfl⟩
     obtain⟨W5,rP⟩ : ∃ W5,W5=w4.alloc (.cells #[.int .i64 c0,.int .i64 hv] 50):=⟨_,rfl⟩
     have aB:Below w4.heap.size w4 W5:=by rw[rP];exact bal w4 _
     have uI:W5.cell? ⟨tO,0,none⟩=some (.int .i64 c0)/\W5.cell? ⟨tO,1,none⟩=some (.int .i64 hv):=by rw[rP,Ci];exact⟨qd w4 _ _ (0,0) 0,qd w4 _ _ (0,0) 1⟩
     have pk:Below wo.heap.size wo W5:=(btr H4.out.1 aB);have rD:Below W.heap.size W W5:=(btr H4.out.2 aB);rw[<-Ci,<-rP];have H5:=lhd (aiq pk (aiq rD uI));obtain⟨y,hy⟩ : ∃ y,y = -sg*x0:=⟨_,rfl⟩
     have pQ:nb y<=S+4003:=by
      obtain⟨b1,b2⟩:=zA.out La Lh kG.out.2.2.2.2.2.1 kG.out.2.2.2.2.2.2.1 kG.out.2.2.2.2.2.2.2.1;have mR:nb x0<=S+4003:=by rw[<-HX.out.2.2.1];exact b1 c0
      rw[hy];rcases HX.out.2.2.2.2.2.1 with h | h <;> rw[h]
      ·rw[show -1*x0 = -x0 by omega,qmt];exact mR
      ·rw[show -(-1)*x0=x0 by omega];exact mR
     have mR:nb x0<=1099511627775:=by obtain⟨b1,_⟩:=zA.out La Lh kG.out.2.2.2.2.2.1 kG.out.2.2.2.2.2.2.1 kG.out.2.2.2.2.2.2.2.1;have:=b1 c0;rw[HX.out.2.2.1] at this;omega
     have CW:nb (-sg)<=1099511627775:=by have:nb (-sg)<=1:=q31 _ _ (by rcases HX.out.2.2.2.2.2.1 with h | h <;> rw[h] <;> decide);omega
     have oL:I64 (-sg):=by rcases HX.out.2.2.2.2.2.1 with h | h <;> rw[h] <;> exact⟨by decide,by decide⟩
     have ux:IntKind.i64.wrap (-sg) = -sg:=by rcases HX.out.2.2.2.2.2.1 with h | h <;> rw[h] <;> decide
     have kJ:=Cx.q8 rD b0;have HY:=lhd (aiq hy (aiq pQ (aiq mR (aiq CW (aiq oL (aiq ux kJ))))));clear Ci rP aB uI pk rD hy pQ mR CW oL ux k0 k1 kJ
     go_cut [12] from 47 to 60 (fun p wx=>∃ tR,p=Value.pointer (some ⟨tR,0,none⟩)/\Hid (Bx wx tR (decide (y < 0)) (mg y)/\Below W5.heap.size W5 wx))
     case first =>
      rename_i J K2 hJ eu;obtain⟨pk,rD,uI⟩:=H5.out;obtain⟨hy,pQ,mR,CW,oL,ux,kJ⟩:=HY.out;refine qrk rfl (fun q v w=>cond (q == 14) (∃ p,v=Value.pointer (some ⟨p,0,none⟩)/\W5.heap.size<=p/\p < w.heap.size/\Bx w p false ⟨#[]⟩) (∀ x',([some (.agg #[.slice a n cap]),some (.pointer (some ⟨tO,0,none⟩)),some (.int .i64 c0),some (.pointer (some ⟨tO,1,none⟩)),some (.int .i64 hv),some (.int .i64 sg),some (.int .i64 (-sg)),some (wv (-sg)),some (.slice (some ad) eU oR),some (.int .i64 i),some (.pointer (some (ad.add (i*3)))),some (.pointer (some ⟨(ad.add (i*3)).block,(ad.add (i*3)).off+1,none⟩)),some (wv x0),some (wv y)] : List (Option Value)).getD q none=some x'->v=x')) (fun q=>q == 14) 15 18 74 rfl (by kernel_rfl) (by kernel_rfl) (by kernel_rfl) ?hF ?step ?mid
      case hF =>
       intro q v w w' h hb;show cond (q == 14) _ _;cases hc:(q == 14) with
       | true =>rw[hc] at h;obtain⟨p,e,h1,h2,h3⟩:=h;exact⟨p,e,h1,gM h2 hb.size,h3.q8 hb h2⟩
       | false=>rw[hc] at h;exact h
      case step =>
       intro q o ho xK ac w' hw hd ae ao;have fV:∀ {v:Value} {V:World} {w':World},(false=true->∃ p,v = .pointer (some ⟨p,0,none⟩)/\w'.heap.size<=p/\p < V.heap.size):=fun h=>by cases h
       match q,ho,hd with
       | 0,ho,hd =>obtain rfl:=osi ho;exact⟨rfl,gw _,q8o _ _ rfl _ (ae 3 (qpt (by kernel_rfl))) _ (qss (Cx.q8 hw kJ)) ⟨_,rfl,fun _ h=>osi h,Below.refl _ _,fV⟩⟩
       | 1,ho,hd =>obtain rfl:=osi ho;exact⟨rfl,gw _,qc9 _ _ _ rfl _ _ (ae 11 (qpt (by kernel_rfl))) rfl _ (qr5 _ tO 0 (by decide)) ⟨_,rfl,fun _ h=>osi h,Below.refl _ _,fV⟩⟩
       | 2,ho,hd =>obtain rfl:=osi ho;exact⟨rfl,gw _,q8o _ _ rfl _ (hd 1 _ _ rfl rfl (by kernel_rfl) _ rfl) _ (qe0 _ _ _ (Cx.q8 hw uI.1)) ⟨_,rfl,fun _ h=>osi h,Below.refl _ _,fV⟩⟩
       | 3,ho,hd =>obtain rfl:=osi ho;exact⟨rfl,gw _,qc9 _ _ _ rfl _ _ (ae 11 (qpt (by kernel_rfl))) rfl _ (qr5 _ tO 1 (by decide)) ⟨_,rfl,fun _ h=>osi h,Below.refl _ _,fV⟩⟩
       | 4,ho,hd =>obtain rfl:=osi ho;exact⟨rfl,gw _,q8o _ _ rfl _ (hd 3 _ _ rfl rfl (by kernel_rfl) _ rfl) _ (qe0 _ _ _ (Cx.q8 hw uI.2)) ⟨_,rfl,fun _ h=>osi h,Below.refl _ _,fV⟩⟩
       | 5,ho,hd =>obtain rfl:=osi ho;have f0:ac.tmps.getD 47 undef = .agg #[.slice a n cap]:=hd 0 _ _ rfl rfl (by kernel_rfl) _ rfl;have f2:ac.tmps.getD 49 undef = .int .i64 c0:=hd 2 _ _ rfl rfl (by kernel_rfl) _ rfl;have f4:ac.tmps.getD 51 undef = .int .i64 hv:=hd 4 _ _ rfl rfl (by kernel_rfl) _ rfl;exact⟨rfl,gw _,qdj _ _ _ rfl qrl #[.agg #[.slice a n cap],.int .i64 c0,.int .i64 hv] (by simp[Act.eval,f0,f2,f4]) ((Bh.out _ ((btr rD hw)) c0 hv).mono fun e w6 ⟨he,hb⟩=>⟨_,he,_,rfl,fun _ h=>(congrArg (Value.int .i64) HX.out.2.2.2.2.1.symm).trans (osi h),hb,fV⟩)⟩
       | 6,ho,hd =>obtain rfl:=osi ho;exact⟨rfl,gw _,qsj .neg _ _ rfl _ (hd 5 _ _ rfl rfl (by kernel_rfl) _ rfl) (.int .i64 (-sg)) (by simp[go_sem,ux]) ⟨_,rfl,fun _ h=>osi h,Below.refl _ _,fV⟩⟩
       | 7,ho,hd =>obtain rfl:=osi ho;have f6:ac.tmps.getD 53 undef = .int .i64 (-sg):=hd 6 _ _ rfl rfl (by kernel_rfl) _ rfl;exact⟨rfl,gw _,qdj _ _ _ rfl q77 #[.int .i64 (-sg)] (by simp[Act.eval,f6]) ((q58 (-sg) w' oL.1 oL.2).mono fun e w6 ⟨he,hb⟩=>⟨_,he,_,rfl,fun _ h=>osi h,hb,fV⟩)⟩
       | 8,ho,hd =>obtain rfl:=osi ho;exact⟨rfl,gw _,q1b _ (.inl rfl) ⟨_,rfl,fun _ h=>(ae 2 (qpt (by kernel_rfl))).trans (osi h),Below.refl _ _,fV⟩⟩
       | 9,ho,hd =>obtain rfl:=osi ho;exact⟨rfl,gw _,q1b _ (.inl rfl) ⟨_,rfl,fun _ h=>(ae 9 (qpt (by kernel_rfl))).trans (osi h),Below.refl _ _,fV⟩⟩
       | 10,ho,hd =>obtain rfl:=osi ho;exact⟨rfl,gw _,qc9 _ _ _ rfl _ _ (hd 8 _ _ rfl rfl (by kernel_rfl) _ rfl) (hd 9 _ _ rfl rfl (by kernel_rfl) _ rfl) _ (qs3 _ ad eU oR i hi1) ⟨_,rfl,fun _ h=>osi h,Below.refl _ _,fV⟩⟩
       | 11,ho,hd =>obtain rfl:=osi ho;exact⟨rfl,gw _,q8b _ _ _ rfl _ (hd 10 _ _ rfl rfl (by kernel_rfl) _ rfl) _ (qs4 _ _) ⟨_,rfl,fun _ h=>osi h,Below.refl _ _,fV⟩⟩
       | 12,ho,hd =>obtain rfl:=osi ho;exact⟨rfl,gw _,q8o _ _ rfl _ (hd 11 _ _ rfl rfl (by kernel_rfl) _ rfl) _ (qtp (dJ.out _ ((btr pk hw))).2.1 (dJ.out _ ((btr pk hw))).2.2) ⟨_,rfl,fun _ h=>osi h,Below.refl _ _,fV⟩⟩
       | 13,ho,hd =>obtain rfl:=osi ho;have f7:ac.tmps.getD 54 undef=wv (-sg):=hd 7 _ _ rfl rfl (by kernel_rfl) _ rfl;have f12:ac.tmps.getD 59 undef=wv x0:=hd 12 _ _ rfl rfl (by kernel_rfl) _ rfl;exact⟨rfl,gw _,qdj _ _ _ rfl qrp #[wv (-sg),wv x0] (by simp[Act.eval,f7,f12]) ((qt7 (-sg) x0 y w' CW mR hy.symm).mono fun e w6 ⟨r,he,hr,hb⟩=>⟨r,he,r,rfl,fun _ h=>(show r=wv y from hr).trans (osi h),hb,fV⟩)⟩
       | 14,ho,hd =>obtain rfl:=osi ho;exact⟨rfl,gw _,qs0 _ rfl _ _ (qsa _) ⟨_,rfl,⟨_,rfl,hw.size,by simp,Bx.new _ _ _ _⟩,bal _ _,fun _=>⟨_,rfl,nlr _,by simp⟩⟩⟩
       | q+15,ho,hd=>omega
      case mid =>
       intro ac w' ao eH hf ae hw ZJ;have f13:ac.tmps.getD 60 undef=wv y:=hf 13 _ _ rfl rfl (by decide) _ rfl;have f14:∃ p,ac.tmps.getD 12 undef=Value.pointer (some ⟨p,0,none⟩)/\W5.heap.size<=p/\p < w'.heap.size/\Bx w' p false ⟨#[]⟩:=hf 14 _ _ rfl rfl (by decide);obtain⟨tR,Sn,l1,l2,im⟩:=f14;refine⟨fun k b U=>(k=0->b=ac/\U=w')/\(k=1->b=ac/\U=(w'.setCell ⟨tR,0,none⟩ (.bool (decide (y < 0)))).setCell ⟨tR,1,none⟩ (.string (mg y))),⟨fun _=>⟨rfl,rfl⟩,fun e=>by cases e⟩,?_,?_⟩
       ·rintro k o ho b U ⟨hT,_⟩
        match k,ho with
        | 0,ho =>obtain rfl:=osi ho;obtain⟨rfl,rfl⟩:=hT rfl;exact⟨rfl,qhx _ _ _ rfl _ _ Sn f13 (qsb _ _ _ _ _ _ im) ⟨fun e=>by omega,fun _=>⟨rfl,rfl⟩⟩⟩
        | k+1,ho =>have:15+(k+1) < 16:=(gp.1 ho).1;omega
       ·rintro b U ⟨_,hT⟩;obtain⟨rfl,rfl⟩:=hT rfl;refine eu _ _ (Met.intro (hJ _ _ ⟨b.tmps.getD 12 undef,b.tmps.getD 47 undef,b.tmps.getD 48 undef,b.tmps.getD 49 undef,b.tmps.getD 50 undef,b.tmps.getD 51 undef,b.tmps.getD 52 undef,b.tmps.getD 53 undef,b.tmps.getD 54 undef,b.tmps.getD 55 undef,b.tmps.getD 56 undef,b.tmps.getD 57 undef,b.tmps.getD 58 undef,b.tmps.getD 59 undef,b.tmps.getD 60 undef,⟨tR,Sn,lhd ⟨im.put _ _,q78 hw l1 _ _⟩⟩,(q8z ao eH fun s hs=>ae s fun i o _=>hs i o).trans ?_⟩));kernel_rfl
     case rest =>
      obtain⟨tR,rfl,HM⟩:=hcut;have x1:=HM.out.1.1;have x2:=HM.out.1.2.1;have c1:=Cx.q8 HM.out.2 H5.out.2.2.2;go_upto_region 13 with fail;have hs:=q13 wc 71 3 [.int .i64 hv,.bool (decide (y < 0)),.string (mg y)] 1 rfl (by unfold maxLen;omega);obtain⟨w8,rk⟩ : ∃ w8,w8=wc.alloc (.cells #[.int .i64 hv,.bool (decide (y < 0)),.string (mg y)] 71):=⟨_,rfl⟩
      have hs:Sl w8 3 (.slice (some ⟨wc.heap.size,0,none⟩) 1 1) (tv (ctm [(hv,y)])):=by rw[rk];exact hs
      have B8:Below wc.heap.size wc w8:=by rw[rk];exact bal _ _
      rw[<-rk];obtain⟨hm,fl,bK,iZ,bX,fq,lu,fp,fD,jD⟩:=HX.out;obtain⟨h1,h2,h3,h4,h5,h6,h7,h8,aR⟩:=kG.out;obtain⟨hG,aC,hM,lM,cw,cH,hK⟩:=HP.out;obtain⟨b1,b2⟩:=zA.out La Lh h6 h7 h8;obtain⟨hy,pQ,_⟩:=HY.out;have ru:Below wo.heap.size wo w8:=H5.out.1.trans (((btr HM.out.2 B8)).mono H5.out.1.size);have Dc:Below W.heap.size W w8:=(btr aR ru);have FG:=h5.q8 ru;have FH:=h4.q8 ru;have cp:TOk (S+4003) (ctm Lh):=q9i hK.symm cH h3 h7 b2;have jO:TOk (S+4003) (ctm [(hv,y)]):=LOk.tok fun p hp=>by
       have:p=(hv,y):=by simpa using hp
       rw[this];exact⟨lu,pQ⟩
      have tu:TOk (S+4003) (ctm La):=q9i hK.symm cH h2 h6 b1;have FI:=q6u h2 h6;have FJ:=q6u h3 h7;have fQ:=hG.len;have k3:=Cx.q8 Dc b0;have HZ:=lhd (aiq hs (aiq Dc (aiq FG (aiq FH (aiq cp (aiq jO (aiq tu (aiq FI (aiq FJ (aiq fQ k3))))))))));clear hm fl bK iZ bX fq lu fp fD jD h1 h2 h3 h4 h5 h6 h7 h8 aR hG aC hM lM cw cH hK b1 b2 hy pQ hs Dc ru FG FH cp jO tu FI FJ fQ rk B8 x1 x2 c1 k3;go_wp2_with fail;refine(qsu _ _ (ctm Lh) (ctm [(hv,y)]) (S+4003) w8 HZ.out.2.2.1 HZ.out.1 HZ.out.2.2.2.2.1 HZ.out.2.2.2.2.2.1 (by rw[qz,qz];have:=HZ.out.2.2.2.2.2.2.2.2;show _+_+1<=_;omega)).mono ?_;rintro e w9 ⟨r9,rfl,⟨FK,wg,wh,Mi,eo⟩,lS⟩;obtain⟨v9,n9,c9,rfl⟩:=qg (Sl.qc eo);have rQ:Below W.heap.size W w9:=(btr HZ.out.2.1 lS);have k9:=Cx.q8 lS HZ.out.2.2.2.2.2.2.2.2.2.2;have HN:=lhd (aiq wg (aiq wh (aiq eo (aiq lS rQ))));clear wg wh Mi eo lS rQ;go_wp2_with fail;refine(Xz.out w9 HN.out.2.2.2.2 _ (ctm [(hv,y)]) (S+4003) (HZ.out.1.q8 HN.out.2.2.2.1) HZ.out.2.2.2.2.2.1 (by rw[qz];show _+1<=_;omega)).mono ?_;rintro e om ⟨WJ,rfl,⟨Lb,oT,tw,Bw,fR⟩,eM⟩;obtain⟨v10,n10,CX,rfl⟩:=qg (Sl.qc fR);have dI:co Lb=bdD K hv y:=funext fun d=>by rw[tw,zv,vg];rfl
      have oU:In0 K (co Lb):=by rw[dI];exact qcu HP.out.1 hv y
      have tz:∀ d,nb (co Lb d)<=S+4004:=fun d=>by rw[dI,HP.out.1.bdD];have h1:=q39 y (sgn K hv d);have h2:=q87 HP.out.1 hv d;have h3:=HY.out.2.1;omega
      have jP:TOk (S+4004) (ctm Lb):=q9i HP.out.2.2.2.2.2.2.symm HP.out.2.2.2.2.2.1 oT oU tz;have By:=q6u oT oU;have HT:=lhd (aiq dI (aiq fR (aiq eM (aiq jP By))));clear oT tw Bw fR eM dI oU tz jP By k9;go_wp2_with fail;have ny:Below w8.heap.size w8 om:=(btr HN.out.2.2.2.1 HT.out.2.2.1);refine(qsu _ _ (ctm La) (ctm Lb) (S+4004) om (HZ.out.2.2.2.1.q8 ny) (Sl.qc HT.out.2.1) (HZ.out.2.2.2.2.2.2.1.mono (by omega)) HT.out.2.2.2.1 (by rw[qz,qz];have h1:=HZ.out.2.2.2.2.2.2.2;have h2:=HT.out.2.2.2.2;omega)).mono ?_;rintro e pR ⟨WK,rfl,⟨FL,tA,tC,Bz,jQ⟩,eN⟩;obtain⟨v11,n11,uI,rfl⟩:=qg (Sl.qc jQ);have tD:Cs2 W K hi Wt B f' h' m (.slice v11 n11 uI) (.slice v9 n9 c9) pR:=by
       obtain⟨hm,fl,bK,iZ,bX,fq,lu,fp,fD,jD⟩:=HX.out;obtain⟨h1,h2,h3,h4,h5,h6,h7,h8,aR⟩:=kG.out;obtain⟨hG,aC,hM,lM,cw,cH,hK⟩:=HP.out;obtain⟨hy,pQ,_⟩:=HY.out;obtain⟨wg,wh,eo,lS,rQ⟩:=HN.out;obtain⟨dI,fR,eM,jP,By⟩:=HT.out;have e1:co FL=stF K hi (co La) c0:=funext fun d=>by rw[tC,zv,zv,dI,hy];show _=co La d+bdD K (hi c0) (-(sgn K (hi c0) c0)*co La c0) d;rw[bK,<-iZ,<-bX]
       have e2:co FK=stH K hi (co La) (co Lh) c0:=funext fun d=>by rw[wh,zv,zv,vg,hy];show _=co Lh d+qw (hi c0) (-(sgn K (hi c0) c0)*co La c0) d;rw[bK,<-iZ,<-bX]
       have rl:Below W.heap.size W om:=(btr rQ eM);refine⟨⟨FL,FK,?_,tA,wg,Sl.qc jQ,(Sl.qc eo).q8 ((btr eM eN)),?_,?_,?_⟩,(btr rl eN)⟩
       ·rw[e1,e2];exact fl
       ·rw[e1];exact qmn hG h6 c0
       ·rw[e2];exact qo8 hG hM h7 fD
       ·rw[e1,e2];exact gl (qlo hG hM lM h6 jD fD) h8
      have tE:=lhd tD;clear tD tA tC Bz jQ eN ny;go_wp2_with fail;go_roundw
      case measure=>exact qiy (oO.out.symm.trans HX.out.1) tE.out
      case rel=>exact⟨_,tE.out⟩
end Go.Proofs.YtlhicnfeajejhaaGreatDoor
namespace Go.Cx
open Go.RowKit
variable {P:Program} {ops:Array Oper} {Q:Exit->Act->World->Prop}
structure StK (ops:Array Oper) (F:Nat->Value->World->Prop) (a0:Act) (w0:World) (l:Nat->Bool) (a:Act) (w:World):Prop where
 sz:a.tmps.size=a0.tmps.size
 df:a.defers=a0.defers
 fact:∀ (i:Nat) (o:Oper) (d:Nat),ops[i]? = some o->o.dst=some d->l i=true->F i (a.tmps.getD d undef) w
 base:∀ s,(∀ (i:Nat) (o:Oper),ops[i]? = some o->o.dst≠some s)->a.tmps.getD s undef=a0.tmps.getD s undef
 below:Below w0.heap.size w0 w
theorem qrm {id:Nat} {a0:Act} {w:World} (hm:P.follows .mixedOrders=true) (F:Nat->Value->World->Prop) (n:Nat) (hn:a0.tmps.size=n) (hd:qfa ops n=true) (mx:qmk .any ops=true)
  (aX:∀ (i:Nat) (o:Oper),ops[i]? = some o->∀ (a:Act) (w':World),Below w.heap.size w w'->(∀ (j:Nat) (oj:Oper) (dj:Nat),ops[j]? = some oj->oj.dst=some dj->dep .any ops i j=true->F j (a.tmps.getD dj undef) w') →
   (∀ s,(∀ (i:Nat) (o:Oper),ops[i]? = some o->o.dst≠some s)->a.tmps.getD s undef=a0.tmps.getD s undef)->a.tmps.size=n →
   Region.wanted o (yielded ops a.tmps)=true/\Oper.wp P o a w' (fun a' w''=>∃ v,a'=a.put o.dst v/\(o.dst≠none->F i v w'')/\Below w.heap.size w w''/\∀ j u,F j u w'->F j u w'') Q)
  (dU:∀ (a:Act) (w':World),a.tmps.size=n->a.defers=a0.defers->(∀ (i:Nat) (o:Oper) (d:Nat),ops[i]? = some o->o.dst=some d->F i (a.tmps.getD d undef) w') →
   (∀ s,(∀ (i:Nat) (o:Oper),ops[i]? = some o->o.dst≠some s)->a.tmps.getD s undef=a0.tmps.getD s undef)->Below w.heap.size w w'->Q .normal a w') :
  (Code.region id ops true).wp P Q a0 w:=by
 have uT:=qr1 hd;refine qr4 hm mx (fun l a w'=>StK ops F a0 w l a w') ?_ ?_ ?_
 ·exact⟨rfl,rfl,fun _ _ _ _ _ h=>absurd h Bool.false_ne_true,fun _ _=>rfl,qb (Below.refl _ w) 1⟩
 ·intro i o ho l a w' vK bQ az;obtain⟨hw,my⟩:=aX i o ho a w' az.below (fun j oj dj hj bW EA=>az.fact j oj dj hj bW (bQ j EA)) az.base (az.sz.trans hn);refine⟨hw,Oper.wp_mono (fun a' w'' hx=>?_) my⟩;obtain⟨v,rfl,hv,mj,Sp⟩:=hx;have wK:∀ j,j≠i->(j == i || l j)=true->l j=true:=fun j cE ez=>by
   have:(j == i)=false:=by simpa using cE
   rwa [this,Bool.false_or] at ez
  cases lL:o.dst with
  | none =>
   refine⟨az.sz,az.df,fun j oj dj hj bW ez=>?_,az.base,mj⟩;have cE:j≠i:=fun e=>by
    subst e;rw[ho] at hj;injection hj with hj;subst hj
    rw[lL] at bW;cases bW
   exact Sp _ _ (az.fact j oj dj hj bW (wK j cE ez))
  | some d =>
   obtain⟨cj,eJ⟩:=uT i o d ho lL;refine⟨by show (a.tmps.setIfInBounds d v).size=_;simpa using az.sz,az.df,fun j oj dj hj bW ez=>?_,fun s hs=>?_,mj⟩
   ·by_cases cE:j=i
    ·subst cE;rw[ho] at hj;injection hj with hj;subst hj
     rw[lL] at bW;injection bW with bW;subst bW
     rw[q3s,if_pos ⟨rfl,by rw[az.sz,hn];exact cj⟩];exact hv (by rw[lL];exact gw _)
    ·rw[q3s,if_neg (fun e=>eJ j oj hj cE (by rw[bW,e.1]))];exact Sp _ _ (az.fact j oj dj hj bW (wK j cE ez))
   ·rw[q3s,if_neg (fun e=>hs i o ho (by rw[lL,e.1]))];exact az.base s hs
 ·intro l a w' aG az;exact dU a w' (az.sz.trans hn) az.df (fun i o d ho lL=>az.fact i o d ho lL (aG i (gp.1 ho).1)) az.base az.below
end Go.Cx
namespace Go.Proofs.YtlhicnfeajejhaaGreatDoor
open Go.RowKit Go.Cx
attribute [local go_sem ↓] Go.wp_at_zero Go.wp_at_succ
theorem qsm (v:Value) (l:List Ce) (id:Int) (w:World) (h:SlC w v l) (hl:l.length<=1000000) (aK:∀ x∈l,x.s.length<=1099511627776) (G:Cx.Good (l.map Ce.cl)) :
  Calls Tryz.prog 119 #[.agg #[v],.int .i64 id] w fun e w'=>∃ x0 x1 sa sn sc,e = .returned (.tuple #[.agg #[.int .i64 x0,.int .i64 x1,.slice sa sn sc],.bool (jv (l.map Ce.cl) id)])/\Below w.heap.size w w':=by
 refine(qok v l id w h hl aK G).mono ?_;rintro e w' ⟨hb,⟨x,rfl,hm,hi,hs⟩ | ⟨hn,rfl⟩⟩
 ·obtain⟨sa,sn,sc,he⟩:=qg hs;have:jv (l.map Ce.cl) id=true:=by refine List.any_eq_true.2 ⟨x.cl,hm,?_⟩;have:x.cl.id=id:=hi;simpa using this
  exact⟨x.id,x.dim,sa,sn,sc,by rw[he,this],hb⟩
 ·have:jv (l.map Ce.cl) id=false:=by
   cases hc:jv (l.map Ce.cl) id with
   | false=>rfl
   | true =>
    obtain⟨y,hy,he⟩:=List.any_eq_true.1 hc;obtain⟨x,hx,rfl⟩:=gr.1 hy;have he:x.cl.id=id:=by simpa using he
    exact absurd (show x.id=id from he) (hn x hx)
  exact⟨0,0,none,0,0,by rw[this],hb⟩
theorem qsf (w:World):(Instr.alloc 75 true (.tuple #[])).run Tryz.prog w = .ok (.pointer (some ⟨w.heap.size,0,none⟩)) (w.alloc (.cells #[.int .i64 0,.int .i64 0,.slice none 0 0] 75)):=by simp[go_sem]
theorem qt2 {b:Nat} (w:World) (h:b<=w.heap.size):BoxM b (.pointer (some ⟨w.heap.size,0,none⟩)) (w.alloc (.cells #[.int .i64 0,.int .i64 0,.slice none 0 0] 75)) :=
 ⟨_,rfl,h,by simp,⟨0,qd w _ _ (0,0) 0⟩,⟨0,qd w _ _ (0,0) 1⟩,⟨none,0,0,qd w _ _ (0,0) 2⟩,fun j=>jz (heap_alloc_new w _) j⟩
theorem qsg {b:Nat} (w:World) (p:Nat) (x0 x1:Int) (a:Option Addr) (n k:Nat) (h:BoxM b (.pointer (some ⟨p,0,none⟩)) w):(Instr.storeAt 75 (.pointer (some ⟨p,0,none⟩)) (.agg #[.int .i64 x0,.int .i64 x1,.slice a n k])).run Tryz.prog w = .ok () (qrs w p (.int .i64 x0) (.int .i64 x1) (.slice a n k)):=by
 obtain⟨p',h1,_,_,⟨x,hx⟩,⟨y,hy⟩,⟨a,n,k,hz⟩,h4⟩:=h;injection h1 with h1;injection h1 with h1;injection h1 with h1;subst h1
 have f0:=h4 0;have f1:=h4 1;have f2:=h4 2;unfold qrs;simp[go_sem,hx,hy,hz,f0,f1,f2]
theorem qst {b p:Nat} {v:Value} {w:World} {x y:Int} {a:Option Addr} {n k:Nat} (h:BoxM b v w) (hp:BoxM b (.pointer (some ⟨p,0,none⟩)) w):BoxM b v (qrs w p (.int .i64 x) (.int .i64 y) (.slice a n k)):=by
 have h':=h;obtain⟨q,rfl,h2,h3,_⟩:=h';by_cases al:q=p
 ·subst al;obtain⟨p',h1,_,_,⟨x',hx⟩,⟨y',hy⟩,⟨a',n',k',hz⟩,h4⟩:=hp;injection h1 with h1;injection h1 with h1;injection h1 with h1;subst h1
  obtain⟨c0,c1,c2⟩:=qks hx hy hz (.int .i64 x) (.int .i64 y) (.slice a n k);exact⟨q,rfl,h2,by simpa [qrs] using h3,⟨x,c0⟩,⟨y,c1⟩,⟨a,n,k,c2⟩,fun j=>by simpa [qrs,World.frozen?_setCell] using h4 j⟩
 ·exact BoxM.set h al _ _ _
theorem qs5 (w:World) (q:Addr):(Instr.fieldAt 71 (.pointer (some q)) 0).run Tryz.prog w = .ok (.pointer (some q)) w:=by simp[go_sem]
theorem qrn:∀ args w,(callFunc 119 args).run Tryz.prog w = .ok (.enter 119 args) w:=q7b Tryz.func119 (by kernel_rfl) (by kernel_rfl)
theorem qt3 (v pvv u:Value) (l:List Ce) (ps:List (Int×Int)) (w:World) (h:SlC w v l) (hl:l.length<=4000) (aK:∀ x∈l,x.s.length<=1099511627776) (cH:COk l) (G:Cx.Good (l.map Ce.cl)) (hc:chk (l.map Ce.cl)=(0,0)) (hp:Sl w 2 pvv (pv ps)) (cm:ps.length<=1000000)
  (t:List Tm) (S:Nat) (hu:Sl w 3 u (tv t)) (hS:TOk S t) (mG:S+t.length<=1000000000) :
  Calls Tryz.prog 59 #[.agg #[v],pvv,u] w fun e w'=>∃ r L,e = .returned r/\Cn L/\co L=q4t (l.map Ce.cl) ps (co (prs t))/\w'.ownsRow w.heap.size 71 3 r L.length (tv (ctm L))/\In0 (l.map Ce.cl) (co L)/\(∀ d,nb (co L d)<=S+t.length+4003)/\Below w.heap.size w w':=by
 obtain⟨a,n,cap,rfl⟩:=qg h.1;obtain⟨pa,pn,pc,rfl⟩:=qg hp;obtain⟨ua,un,uc,rfl⟩:=qg hu;obtain⟨W,hW⟩ : ∃ W:World,W=w.alloc (.cells #[.slice a n cap] 26):=⟨_,rfl⟩
 have hB:Below w.heap.size w W:=by rw[hW];exact bal w _
 have b0:W.cell? ⟨w.heap.size,0,none⟩=some (.slice a n cap):=by rw[hW];exact qd w _ _ (0,0) 0
 have ll:=qmb _ _ l ps W (h.q8 hB) hl aK G hc (hp.q8 hB) cm;have jV:∀ U,Below W.heap.size W U->∀ c,Calls Tryz.prog 119 #[.agg #[.slice a n cap],.int .i64 c] U fun e w'=>∃ x0 x1 sa sn sc,e = .returned (.tuple #[.agg #[.int .i64 x0,.int .i64 x1,.slice sa sn sc],.bool (jv (l.map Ce.cl) c)])/\Below U.heap.size U w':=fun U hU c=>qsm _ l c U ((h.q8 hB).q8 hU) (by omega) aK G
 have cy:∀ U,Below W.heap.size W U->∀ {hi lo f' h':Int->Int},xk (l.map Ce.cl) zz zz ps=some (hi,lo)->∀ {Wt:Int->Nat},Wgt (l.map Ce.cl) hi Wt->∀ (v:Value) (L:List (Int×Int)),Sl U 3 v (tv (ctm L))->Cn L->In0 (l.map Ce.cl) (co L)->∀ S:Nat,(∀ d,nb (co L d)<=S)->S<=1000000000->∀ N,Clr (l.map Ce.cl) hi N (co L) zz f' h'->Calls Tryz.prog 120 #[.agg #[.slice a n cap],.slice pa pn pc,v] U fun e w'=>∃ r1 r2 L1 L2,e = .returned (.tuple #[r1,r2])/\Sl w' 3 r1 (tv (ctm L1))/\Cn L1/\co L1=f'/\Sl w' 3 r2 (tv (ctm L2))/\Cn L2/\co L2=h'/\In0 (l.map Ce.cl) f'/\In0 (l.map Ce.cl) h'/\(∀ d,nb (f' d)<=S+4003/\nb (h' d)<=S+4003)/\Below U.heap.size U w' :=
  fun U hU {hi lo f' h'} aC {Wt} oV v L hv iG hIn S hS mG N hC=>qsl _ _ v l ps U ((h.q8 hB).q8 hU) hl aK cH G aC oV ((hp.q8 hB).q8 hU) cm L hv iG hIn S hS mG N hC
 obtain⟨K,hK⟩ : ∃ K,K=l.map Ce.cl:=⟨_,rfl⟩
 rw[<-hK] at ll jV cy ⊢;have bK:=qr7 G hc ps;rw[<-hK] at bK;have iH:∀ d,d∈K.map Cl.id->I64 d:=fun d hd=>q4s hK.symm cH hd
 have HH:=lhd (aiq ll (aiq jV (aiq cy (aiq (hp.q8 hB) (aiq hB (aiq cm (aiq bK iH)))))));have HG:=lhd (aiq (show Cx.Good K from hK ▸ G) (show chk K=(0,0) from hK ▸ hc));have ly:=lhd hW;have HU:=lhd (aiq (hu.q8 hB) (aiq hS mG));clear h aK G hc hp hB ll jV cy bK hl hK hW cm cH iH hu hS mG;obtain⟨E,hE⟩ : ∃ E,E=j8 K ps:=⟨_,rfl⟩
 have HE:=lhd hE;have cJ:=HH.out.1;rw[<-hE] at cJ;have HC:=lhd cJ;clear hE cJ;go_enter Tryz.func59,Tryz.ntmps59;go_wp2_with fail;rw[<-ly.out];refine HC.out.mono ?_;rintro e w1 ⟨rfl,ai⟩;have H1:=lhd ai;by_cases mK:E=0
 case neg =>
  have hb:(E != 0)=true:=by simpa using mK
  have HN:=lhd mK;clear mK ai;go_wp2_with fail;go_ret;refine⟨_,[],rfl,Cn.nil,?_,World.ownsRow_nil _ _ _ _,fun d hd=>absurd rfl hd,fun d=>by rw[show co ([] : List (Int×Int)) d=0 from rfl,q0g];omega,(btr HH.out.2.2.2.2.1 H1.out)⟩;unfold q4t;rw[HH.out.2.2.2.2.2.2.1,<-HE.out,if_neg HN.out];rfl
 subst mK;obtain⟨hi,lo,aC,hM,mI,rE,dx,_⟩:=qqy HG.out.1 HG.out.2 HE.out.symm 0;have GI:∀ f,q4t K ps f=q85 K hi lo f:=fun f=>by unfold q4t;rw[HH.out.2.2.2.2.2.2.1,<-HE.out,if_pos rfl,HG.out.1.cells.1,rE,dx]
 obtain⟨Wt,oV⟩:=qct HG.out.1 hM mI;have HP:=lhd (aiq aC (aiq hM (aiq mI (aiq GI oV))));have b1:=Cx.q8 ai b0;clear aC hM mI rE dx GI oV ai;go_wp2_with fail;refine(qk4 _ t S w1 (HU.out.1.q8 H1.out) HU.out.2.1 (by have:=HU.out.2.2;omega)).mono ?_;rintro e w2 ⟨r,rfl,⟨L,iG,bK,kP,aA⟩,aw⟩;obtain⟨oQ,eU,oR,rfl⟩:=qg (Sl.qc aA);have uy:L.length=eU:=by obtain⟨_,_,h3,_⟩:=(Sl.qc aA).open;rw[z6,qz] at h3;omega
 obtain⟨X0,wJ,_⟩:=(Sl.qc aA).open;unfold maxLen at wJ;have dT:∀ d,nb (co L d)<=S+t.length:=fun d=>by
  rw[bK d];have:=q0y S (prs t) (q19 HU.out.2.1) d
  rwa [kq] at this
 have ui:eU<=1000000000:=by rw[<-uy];have:=HU.out.2.2;omega
 have nW:=lhd ((btr H1.out aw));have HL:=lhd (aiq (Sl.qc aA) (aiq iG (aiq bK (aiq uy dT))));clear aA iG bK kP uy dT aw b1;go_wp2_with fail;go_loopw [7,9] (fun o i wr=>∃ j:Nat,i = .int .i64 j/\j<=eU/\Hid (wr.ownsRow w2.heap.size 71 3 o ((L.take j).filter fun p=>jv K p.1).length (tv (ctm ((L.take j).filter fun p=>jv K p.1))))/\Hid (Below w2.heap.size w2 wr)) (fun _ i _=>eU - (vI i).toNat)
 case atStart=>exact⟨0,rfl,go _,(show Hid _ from World.ownsRow_nil _ _ _ _),(show Hid _ from Below.refl _ _)⟩
 case round =>
  obtain⟨j,rfl,hj,HO,HB⟩:=hrel;obtain⟨oa,oc,ng⟩:=qj HO.out;subst ng;by_cases hlt:j < eU
  ·obtain⟨⟨c,x⟩,hx⟩ : ∃ p,L[j]? = some p:=⟨_,g8 (by rw[HL.out.2.2.2.1];exact hlt)⟩
   obtain⟨_,_,_,h5,h6⟩:=HL.out.1.open;obtain⟨ad,aT⟩:=sadq h5 (by omega)
   subst aT;obtain⟨e0,e1,e2⟩:=jd (ctm L) j ⟨c,decide (x < 0),mg x⟩ (by unfold ctm;rw[List.getElem?_map,hx];rfl);have da:∀ U,Below w2.heap.size w2 U->U.cell? (ad.add (j*3))=some (.int .i64 c)/\U.cell? ⟨(ad.add (j*3)).block,(ad.add (j*3)).off+1,none⟩=some (.bool (decide (x < 0)))/\U.cell? ⟨(ad.add (j*3)).block,(ad.add (j*3)).off+2,none⟩=some (.string (mg x)):=fun U hU=>by
    refine⟨Cx.q8 hU (h6 ad rfl _ _ e0),?_,?_⟩
    ·rw[qi _ _ _ (by omega)];exact Cx.q8 hU (h6 ad rfl _ _ e1)
    ·rw[qi _ _ _ (by omega)];exact Cx.q8 hU (h6 ad rfl _ _ e2)
   have bZ:=qrf (fun p:Int×Int=>jv K p.1) L j (c,x) hx;have lK:((L.take j).filter fun p=>jv K p.1).length<=j:=gl (gQ _ _) (by rw[gd];omega);obtain⟨M,hM⟩ : ∃ M,M=(L.take j).filter fun p=>jv K p.1:=⟨_,rfl⟩
   rw[<-hM] at bZ lK HO ⊢;obtain⟨bb,hbb⟩ : ∃ bb,bb=jv K c:=⟨_,rfl⟩
   have bZ:(L.take (j+1)).filter (fun p=>jv K p.1)=M++if bb=true then [(c,x)] else []:=by rw[bZ,hbb]
   obtain⟨nl,iY⟩ : ∃ nl,nl=M.length:=⟨_,rfl⟩
   rw[<-iY] at lK HO ⊢;have oJ:=lhd iY;have cr:=lhd bZ;have dJ:=lhd da;have IX:=lhd hbb;have kJ:=Cx.q8 ((btr nW.out HB.out)) b0;have ib:=(btr nW.out HB.out);have X3:=lhd (aiq kJ ib);clear bZ da hbb hM iY h5 h6 e0 e1 e2 hx kJ ib;have cE:(j:Int) < eU:=by omega
   go_upto_region 8 with fail
   go_cut [10,11] from 29 to 38 (fun _ y wx=>y=Value.bool bb/\Hid (Below wr.heap.size wr wx))
   case first =>
    rename_i J K2 hJ eu;obtain⟨kJ,ib⟩:=X3.out;refine qrm rfl (fun q v w=>cond (q == 10) (BoxM wr.heap.size v w) (cond (q == 6 || q == 7) (∃ x0 x1 sa sn sc,v=Value.tuple #[.agg #[.int .i64 x0,.int .i64 x1,.slice sa sn sc],.bool bb]) (cond (q == 8) (∃ x0 x1 sa sn sc,v=Value.agg #[.int .i64 x0,.int .i64 x1,.slice sa sn sc]) (∀ x',([some (.agg #[.slice a n cap]),some (.slice (some ad) eU oR),some (.int .i64 j),some (.pointer (some (ad.add (j*3)))),some (.pointer (some (ad.add (j*3)))),some (.int .i64 c),none,none,none,some (.bool bb),none,none,some (.bool bb)] : List (Option Value)).getD q none=some x'->v=x')))) 77 rfl (by kernel_rfl) (by kernel_rfl) ?step ?done;have zJ:∀ (w w':World),Below w.heap.size w w'->∀ (q:Nat) (v:Value),cond (q == 10) (BoxM wr.heap.size v w) (cond (q == 6 || q == 7) (∃ x0 x1 sa sn sc,v=Value.tuple #[.agg #[.int .i64 x0,.int .i64 x1,.slice sa sn sc],.bool bb]) (cond (q == 8) (∃ x0 x1 sa sn sc,v=Value.agg #[.int .i64 x0,.int .i64 x1,.slice sa sn sc]) (∀ x',([some (.agg #[.slice a n cap]),some (.slice (some ad) eU oR),some (.int .i64 j),some (.pointer (some (ad.add (j*3)))),some (.pointer (some (ad.add (j*3)))),some (.int .i64 c),none,none,none,some (.bool bb),none,none,some (.bool bb)] : List (Option Value)).getD q none=some x'->v=x')))->cond (q == 10) (BoxM wr.heap.size v w') (cond (q == 6 || q == 7) (∃ x0 x1 sa sn sc,v=Value.tuple #[.agg #[.int .i64 x0,.int .i64 x1,.slice sa sn sc],.bool bb]) (cond (q == 8) (∃ x0 x1 sa sn sc,v=Value.agg #[.int .i64 x0,.int .i64 x1,.slice sa sn sc]) (∀ x',([some (.agg #[.slice a n cap]),some (.slice (some ad) eU oR),some (.int .i64 j),some (.pointer (some (ad.add (j*3)))),some (.pointer (some (ad.add (j*3)))),some (.int .i64 c),none,none,none,some (.bool bb),none,none,some (.bool bb)] : List (Option Value)).getD q none=some x'->v=x'))):=fun w w' hb q v h=>by
     cases hc:(q == 10) with
     | true=>rw[hc] at h;exact BoxM.q8 h hb
     | false=>rw[hc] at h;exact h
    case step =>
     intro q o ho ac w' hw hd ae ao
     match q,ho,hd with
     | 0,ho,hd =>obtain rfl:=osi ho;exact⟨rfl,q8o _ _ rfl _ (ae 3 (qu (by kernel_rfl))) _ (qss (Cx.q8 hw kJ)) ⟨_,rfl,fun _ _ h=>osi h,hw,fun _ _ h=>h⟩⟩
     | 1,ho,hd =>obtain rfl:=osi ho;exact⟨rfl,q1b _ (.inl rfl) ⟨_,rfl,fun _ _ h=>(ae 8 (qu (by kernel_rfl))).trans (osi h),hw,fun _ _ h=>h⟩⟩
     | 2,ho,hd =>obtain rfl:=osi ho;exact⟨rfl,q1b _ (.inl rfl) ⟨_,rfl,fun _ _ h=>(ae 9 (qu (by kernel_rfl))).trans (osi h),hw,fun _ _ h=>h⟩⟩
     | 3,ho,hd =>obtain rfl:=osi ho;exact⟨rfl,qc9 _ _ _ rfl _ _ (hd 1 _ _ rfl rfl (by kernel_rfl) _ rfl) (hd 2 _ _ rfl rfl (by kernel_rfl) _ rfl) _ (qs3 _ ad eU oR j hlt) ⟨_,rfl,fun _ _ h=>osi h,hw,fun _ _ h=>h⟩⟩
     | 4,ho,hd =>obtain rfl:=osi ho;exact⟨rfl,q8b _ _ _ rfl _ (hd 3 _ _ rfl rfl (by kernel_rfl) _ rfl) _ (qs5 _ _) ⟨_,rfl,fun _ _ h=>osi h,hw,fun _ _ h=>h⟩⟩
     | 5,ho,hd =>obtain rfl:=osi ho;exact⟨rfl,q8o _ _ rfl _ (hd 4 _ _ rfl rfl (by kernel_rfl) _ rfl) _ (qe0 _ _ _ (dJ.out _ ((btr HB.out hw))).1) ⟨_,rfl,fun _ _ h=>osi h,hw,fun _ _ h=>h⟩⟩
     | 6,ho,hd =>obtain rfl:=osi ho;have f0:ac.tmps.getD 30 undef = .agg #[.slice a n cap]:=hd 0 _ _ rfl rfl (by kernel_rfl) _ rfl;have f5:ac.tmps.getD 35 undef = .int .i64 c:=hd 5 _ _ rfl rfl (by kernel_rfl) _ rfl;exact⟨rfl,qdj _ _ _ rfl qrn #[.agg #[.slice a n cap],.int .i64 c] (by simp[Act.eval,f0,f5]) ((HH.out.2.1 _ ((btr ib hw)) c).mono fun e w6 ⟨x0,x1,sa,sn,sc,he,hb⟩=>⟨_,he,_,rfl,fun _=>⟨x0,x1,sa,sn,sc,by rw[IX.out]⟩,(btr hw hb),fun j u h=>zJ _ _ hb j u h⟩)⟩
     | 7,ho,hd =>obtain rfl:=osi ho;exact⟨rfl,q1b _ (.inl rfl) ⟨_,rfl,fun _=>(hd 6 _ _ rfl rfl (by kernel_rfl)),hw,fun _ _ h=>h⟩⟩
     | 8,ho,hd =>obtain rfl:=osi ho;have f7:∃ x0 x1 sa sn sc,ac.tmps.getD 29 undef=Value.tuple #[.agg #[.int .i64 x0,.int .i64 x1,.slice sa sn sc],.bool bb]:=hd 7 _ _ rfl rfl (by kernel_rfl);obtain⟨x0,x1,sa,sn,sc,f7⟩:=f7;exact⟨rfl,qr0 _ _ rfl _ f7 _ rfl ⟨_,rfl,fun _=>⟨x0,x1,sa,sn,sc,rfl⟩,hw,fun _ _ h=>h⟩⟩
     | 9,ho,hd =>obtain rfl:=osi ho;have f7:∃ x0 x1 sa sn sc,ac.tmps.getD 29 undef=Value.tuple #[.agg #[.int .i64 x0,.int .i64 x1,.slice sa sn sc],.bool bb]:=hd 7 _ _ rfl rfl (by kernel_rfl);obtain⟨x0,x1,sa,sn,sc,f7⟩:=f7;exact⟨rfl,qr0 _ _ rfl _ f7 _ rfl ⟨_,rfl,fun _ _ h=>osi h,hw,fun _ _ h=>h⟩⟩
     | 10,ho,hd =>obtain rfl:=osi ho;exact⟨rfl,qs0 _ rfl _ _ (qsf _) ⟨_,rfl,fun _=>qt2 _ hw.size,hw.alloc hw.size _,fun j u h=>zJ _ _ (bal _ _) j u h⟩⟩
     | 11,ho,hd =>
      obtain rfl:=osi ho;have f8:∃ x0 x1 sa sn sc,ac.tmps.getD 37 undef=Value.agg #[.int .i64 x0,.int .i64 x1,.slice sa sn sc]:=hd 8 _ _ rfl rfl (by kernel_rfl);have f10:BoxM wr.heap.size (ac.tmps.getD 10 undef) w':=hd 10 _ _ rfl rfl (by kernel_rfl);obtain⟨x0,x1,sa,sn,sc,f8⟩:=f8;have sJ:=f10;obtain⟨p,ep,lp,_⟩:=f10;rw[ep] at sJ;refine⟨rfl,qhx _ _ _ rfl _ _ ep f8 (qsg _ _ _ _ _ _ _ sJ) ⟨_,rfl,fun e=>absurd rfl e,qse hw lp _ _ _,fun q u h=>?_⟩⟩;have h:cond (q == 10) (BoxM wr.heap.size u w') _:=h;show cond (q == 10) (BoxM wr.heap.size u _) _;cases hc:(q == 10) with
      | true=>rw[hc] at h;exact qst h sJ
      | false=>rw[hc] at h;exact h
     | 12,ho,hd =>obtain rfl:=osi ho;exact⟨rfl,q1b _ (.inr rfl) ⟨_,rfl,fun _ _ h=>(hd 9 _ _ rfl rfl (by kernel_rfl) _ rfl).trans (osi h),hw,fun _ _ h=>h⟩⟩
     | q+13,ho,hd =>have:q+13 < 13:=(gp.1 ho).1;omega
    case done =>intro ac w7 ao eH hf ae hw;have ht:ac.tmps.getD 11 undef = .bool bb:=hf 12 _ _ rfl rfl _ rfl;refine eu _ _ (Met.intro (hJ _ _ ⟨ac.tmps.getD 10 undef,ac.tmps.getD 11 undef,ac.tmps.getD 29 undef,ac.tmps.getD 30 undef,ac.tmps.getD 31 undef,ac.tmps.getD 32 undef,ac.tmps.getD 33 undef,ac.tmps.getD 34 undef,ac.tmps.getD 35 undef,ac.tmps.getD 36 undef,ac.tmps.getD 37 undef,ac.tmps.getD 38 undef,⟨ht,lhd hw⟩,(q8z ao eH ae).trans ?_⟩));kernel_rfl
   case rest =>
    obtain⟨rfl,Sq⟩:=hcut;have wN:=lhd ((btr HB.out Sq.out));have Cj:=qa HO.out Sq.out;have oi:=wN.out;have bV:w2.heap.size<=wc.heap.size:=wN.out.size;obtain⟨d0,d1,d2⟩:=dJ.out _ wN.out;have Nr:=lhd Cj;cases bb with
    | false =>
     rw[if_neg (by simp),gH] at cr;clear d0 d1 d2 Cj oi;go_wp2_with fail;go_roundw
     case measure=>simp[vI];omega
     case rel=>exact⟨j+1,qh (by omega),by omega,(show Hid _ from by rw[cr.out,<-oJ.out];exact Nr.out),wN⟩
    | true =>
     rw[if_pos rfl] at cr;go_wp2_with (at_builtin;go_loud (refine qo (W:=w2) rfl _ _ 32 rfl w2.heap.size 71 Tryz.xm Tryz.underlying32 rfl (by decide) (by decide) _ _ _ rfl Cj [.int .i64 c,.bool (decide (x < 0)),.string (mg x)] rfl rfl (qqu _ _ _) (by omega) oi bV ?_));intro v5 w5 aZ _ aB;have F5:=lhd (aiq aZ aB);clear aZ aB;go_wp2;go_roundw
     case measure=>simp[vI];omega
     case rel =>refine⟨j+1,qh (by omega),by omega,(show Hid _ from ?_),(show Hid _ from F5.out.2)⟩;rw[cr.out,gc,<-oJ.out,xj,xp];exact F5.out.1
  ·have cO:L.take j=L:=gm (by rw[HL.out.2.2.2.1];omega);rw[cO] at HO ⊢;have cE:¬ (j:Int) < eU:=by omega
   obtain⟨L2,uG⟩ : ∃ L2,L2=L.filter fun p=>jv K p.1:=⟨_,rfl⟩
   rw[<-uG] at HO ⊢;obtain⟨_,iG,bK,_,dT⟩:=HL.out;have eO:Cn L2:=by rw[uG];exact q88 iG (fun c=>jv K c)
   have dG:co L2=q1m K (co (prs t)):=by
    funext d
    rw[uG,q2w L (fun c=>jv K c)];unfold q1m;rw[bK d]
   have Ck:In0 K (co L2):=by rw[dG];exact qit K _
   have iy:∀ d,nb (co L2 d)<=S+t.length:=fun d=>by
    rw[dG];unfold q1m;split
    ·rw[<-bK d];exact dT d
    ·rw[q0g];omega
   have ib:=(btr nW.out HB.out);obtain⟨N,iO⟩:=q9f HG.out.1 HP.out.2.1 HP.out.2.2.1 Ck;have iD:=HH.out.2.2.1 wr ib HP.out.1 HP.out.2.2.2.2 _ L2 (Sl.qc HO.out) eO Ck _ iy HU.out.2.2 N iO;have kJ:=Cx.q8 ib b0;have pF:=lhd iD;have FM:=lhd (aiq dG ib);obtain⟨ZK,Ie,Ns⟩ : ∃ x y,(x,y)=(oa,oc):=⟨_,_,rfl⟩
   clear cO uG iG bK dT eO dG Ck iy ib iO iD Ns;go_wp2_with fail;refine pF.out.mono ?_;rintro e w3 ⟨r1,r2,L3,L4,rfl,eR,iz,eP,jG,_,_,rR,_,lT,ar⟩;obtain⟨IK,wk,Ra,rfl⟩:=qg eR;obtain⟨WM,WN,WO,rfl⟩:=qg jG;have wO:L3.length=wk:=by obtain⟨_,_,h3,_⟩:=eR.open;rw[z6,qz] at h3;omega
   obtain⟨X4,Nt,_⟩:=eR.open;unfold maxLen at Nt;have xP:wk<=4000:=by rw[<-wO];exact gl (q6u iz (by rw[eP];exact rR)) HG.out.1.len
   have H3:=lhd (aiq eR (aiq iz (aiq eP (aiq rR (aiq lT (aiq wO ((btr FM.out.2 ar))))))));have kK:w.heap.size<=w3.heap.size:=gl HH.out.2.2.2.2.1.size H3.out.2.2.2.2.2.2.size;clear eR iz eP rR lT wO ar jG kJ;go_wp2_with fail;obtain⟨wo,de⟩ : ∃ wo,wo=wr:=⟨_,rfl⟩
   subst de;go_loopw [14,15] (fun o i wr=>∃ j:Nat,i = .int .i64 j/\j<=wk/\Hid (wr.ownsRow w3.heap.size 71 3 o ((L3.take j).filter fun p=>!pdB hi lo p.1).length (tv (ctm ((L3.take j).filter fun p=>!pdB hi lo p.1))))/\Hid (Below w3.heap.size w3 wr)) (fun _ i _=>wk - (vI i).toNat)
   case atStart=>exact⟨0,rfl,go _,(show Hid _ from World.ownsRow_nil _ _ _ _),(show Hid _ from Below.refl _ _)⟩
   case round =>
    obtain⟨q,rfl,hq,Dj,bG⟩:=hrel;obtain⟨ob,od,Nu⟩:=qj Dj.out;subst Nu;by_cases l8:q < wk
    ·obtain⟨⟨c,x⟩,hx⟩ : ∃ p,L3[q]? = some p:=⟨_,g8 (by rw[H3.out.2.2.2.2.2.1];exact l8)⟩
     obtain⟨_,_,_,h5,h6⟩:=H3.out.1.open;obtain⟨ad,aT⟩:=sadq h5 (by omega)
     subst aT;obtain⟨e0,e1,e2⟩:=jd (ctm L3) q ⟨c,decide (x < 0),mg x⟩ (by unfold ctm;rw[List.getElem?_map,hx];rfl);have da:∀ U,Below w3.heap.size w3 U->U.cell? (ad.add (q*3))=some (.int .i64 c)/\U.cell? ⟨(ad.add (q*3)).block,(ad.add (q*3)).off+1,none⟩=some (.bool (decide (x < 0)))/\U.cell? ⟨(ad.add (q*3)).block,(ad.add (q*3)).off+2,none⟩=some (.string (mg x)):=fun U hU=>by
      refine⟨Cx.q8 hU (h6 ad rfl _ _ e0),?_,?_⟩
      ·rw[qi _ _ _ (by omega)];exact Cx.q8 hU (h6 ad rfl _ _ e1)
      ·rw[qi _ _ _ (by omega)];exact Cx.q8 hU (h6 ad rfl _ _ e2)
     have bZ:=qrf (fun p:Int×Int=>!pdB hi lo p.1) L3 q (c,x) hx;have lK:((L3.take q).filter fun p=>!pdB hi lo p.1).length<=q:=gl (gQ _ _) (by rw[gd];omega);obtain⟨M,hM⟩ : ∃ M,M=(L3.take q).filter fun p=>!pdB hi lo p.1:=⟨_,rfl⟩
     rw[<-hM] at bZ lK Dj ⊢;obtain⟨bb,hbb⟩ : ∃ bb,bb=pdB hi lo c:=⟨_,rfl⟩
     have bZ:(L3.take (q+1)).filter (fun p=>!pdB hi lo p.1)=M++if (!bb)=true then [(c,x)] else []:=by rw[bZ,hbb]
     have rn:=qro HG.out.1 HP.out.1 (.slice pa pn pc) c wr ((HH.out.2.2.2.1.q8 H3.out.2.2.2.2.2.2).q8 bG.out) HH.out.2.2.2.2.2.1;rw[<-hbb] at rn;obtain⟨nl,iY⟩ : ∃ nl,nl=M.length:=⟨_,rfl⟩
     rw[<-iY] at lK Dj ⊢;have oJ:=lhd iY;have cr:=lhd bZ;have dJ:=lhd da;have BB:=lhd rn;have d0:=(da _ bG.out).1;clear bZ da hbb hM iY h5 h6 e0 e1 e2 hx rn;have cE:(q:Int) < wk:=by omega
     go_wp2_with fail;refine BB.out.mono ?_;rintro e w4 ⟨rfl,aM⟩;have wN:=lhd ((btr bG.out aM));have Cj:=qa Dj.out aM;have oi:=wN.out;have bV:w3.heap.size<=w4.heap.size:=wN.out.size;clear d0 aM;obtain⟨d0,d1,d2⟩:=dJ.out _ wN.out;have Nr:=lhd Cj;cases bb with
     | true =>
      rw[if_neg (by simp),gH] at cr;clear d0 d1 d2 Cj oi;go_wp2_with fail;go_roundw
      case measure=>simp[vI];omega
      case rel=>exact⟨q+1,qh (by omega),by omega,(show Hid _ from by rw[cr.out,<-oJ.out];exact Nr.out),wN⟩
     | false =>
      rw[if_pos (by simp)] at cr;go_wp2_with (at_builtin;go_loud (refine qo (W:=w3) rfl _ _ 32 rfl w3.heap.size 71 Tryz.xm Tryz.underlying32 rfl (by decide) (by decide) _ _ _ rfl Cj [.int .i64 c,.bool (decide (x < 0)),.string (mg x)] rfl rfl (qqu _ _ _) (by omega) oi bV ?_));intro v5 w5 aZ _ aB;have F5:=lhd (aiq aZ aB);clear aZ aB;go_wp2;go_roundw
      case measure=>simp[vI];omega
      case rel =>refine⟨q+1,qh (by omega),by omega,(show Hid _ from ?_),(show Hid _ from F5.out.2)⟩;rw[cr.out,gc,<-oJ.out,xj,xp];exact F5.out.1
    ·have cO:L3.take q=L3:=gm (by rw[H3.out.2.2.2.2.2.1];omega);rw[cO] at Dj ⊢;have cE:¬ (q:Int) < wk:=by omega
     clear cO;go_wp2;go_ret;obtain⟨eR,iz,eP,rR,lT,wO,ar⟩:=H3.out;have eW:∀ d,co (L3.filter fun p=>!pdB hi lo p.1) d=if pdB hi lo d then 0 else (q79 K hi (q1m K (co (prs t)))).1 d:=fun d=>by rw[q2w (f:=fun c=>!pdB hi lo c),eP,FM.out.1];cases pdB hi lo d <;> rfl
     refine⟨_,rfl,_,q88 iz (fun c=>!pdB hi lo c),(funext eW).trans (HP.out.2.2.2.1 _).symm,qf Dj.out kK,fun d hd=>?_,fun d=>?_,HH.out.2.2.2.2.1.trans (((btr ar bG.out)).mono HH.out.2.2.2.2.1.size)⟩
     ·rw[q2w (f:=fun c=>!pdB hi lo c)] at hd;split at hd
      ·rw[eP] at hd;exact rR d hd
      ·exact absurd rfl hd
     ·rw[q2w (f:=fun c=>!pdB hi lo c)];split
      ·rw[eP];exact(lT d).1
      ·rw[q0g];omega
theorem qrh:∀ args w,(callFunc 120 args).run Tryz.prog w = .ok (.enter 120 args) w:=q7b Tryz.func120 (by kernel_rfl) (by kernel_rfl)
def qs6 (K:List Cl) (f' h':Int->Int) (v:Value) (w:World):Prop:=∃ r1 r2 L1 L2,v = .tuple #[r1,r2]/\Sl w 3 r1 (tv (ctm L1))/\Cn L1/\co L1=f'/\Sl w 3 r2 (tv (ctm L2))/\Cn L2/\co L2=h'/\In0 K h'/\∀ d,nb (h' d)<=4004
theorem qs6.q8 {K:List Cl} {f' h':Int->Int} {v:Value} {w w':World} (h:qs6 K f' h' v w) (hb:Below w.heap.size w w'):qs6 K f' h' v w':=by obtain⟨r1,r2,L1,L2,h1,h2,h3,h4,h5,h6,h7⟩:=h;exact⟨r1,r2,L1,L2,h1,h2.q8 hb,h3,h4,h5.q8 hb,h6,h7⟩
def ChV (f:Int->Int) (v:Value) (w:World):Prop:=∃ L,Sl w 3 v (tv (ctm L))/\Cn L/\co L=f
def ChW (K:List Cl) (f:Int->Int) (v:Value) (w:World):Prop:=ChV f v w/\In0 K f/\∀ d,nb (f d)<=4004
theorem ChV.q8 {f:Int->Int} {v:Value} {w w':World} (h:ChV f v w) (hb:Below w.heap.size w w'):ChV f v w':=by obtain⟨L,h1,h2⟩:=h;exact⟨L,h1.q8 hb,h2⟩
theorem ChW.q8 {K:List Cl} {f:Int->Int} {v:Value} {w w':World} (h:ChW K f v w) (hb:Below w.heap.size w w'):ChW K f v w':=⟨h.1.q8 hb,h.2⟩
theorem qtq (v pvv:Value) (l:List Ce) (ps:List (Int×Int)) (w:World) (h:SlC w v l) (hl:l.length<=4000) (aK:∀ x∈l,x.s.length<=1099511627776) (cH:COk l) (G:Cx.Good (l.map Ce.cl)) (hc:chk (l.map Ce.cl)=(0,0)) (hp:Sl w 2 pvv (pv ps)) (cm:ps.length<=1000000) (id:Int) (hid:I64 id) :
  Calls Tryz.prog 58 #[.agg #[v],pvv,.int .i64 id] w fun e w'=>∃ r L,e = .returned r/\Cn L/\co L=upX (l.map Ce.cl) ps id/\Sl w' 3 r (tv (ctm L))/\In0 (l.map Ce.cl) (co L)/\(∀ d,nb (co L d)<=5000)/\Below w.heap.size w w':=by
 obtain⟨a,n,cap,rfl⟩:=qg h.1;obtain⟨pa,pn,pc,rfl⟩:=qg hp;obtain⟨W,hW⟩ : ∃ W:World,W=w.alloc (.cells #[.slice a n cap] 26):=⟨_,rfl⟩
 have hB:Below w.heap.size w W:=by rw[hW];exact bal w _
 have b0:W.cell? ⟨w.heap.size,0,none⟩=some (.slice a n cap):=by rw[hW];exact qd w _ _ (0,0) 0
 have ll:∀ U,Below W.heap.size W U->Calls Tryz.prog 50 #[.agg #[.slice a n cap],.slice pa pn pc] U fun e w'=>e = .returned (.int .i64 (j8 (l.map Ce.cl) ps))/\Below U.heap.size U w':=fun U hU=>qmb _ _ l ps U ((h.q8 hB).q8 hU) hl aK G hc ((hp.q8 hB).q8 hU) cm
 have jV:=qsm _ l id W (h.q8 hB) (by omega) aK G;have cy:∀ U,Below W.heap.size W U->∀ {hi lo f' h':Int->Int},xk (l.map Ce.cl) zz zz ps=some (hi,lo)->∀ {Wt:Int->Nat},Wgt (l.map Ce.cl) hi Wt->∀ (v:Value) (L:List (Int×Int)),Sl U 3 v (tv (ctm L))->Cn L->In0 (l.map Ce.cl) (co L)->∀ S:Nat,(∀ d,nb (co L d)<=S)->S<=1000000000->∀ N,Clr (l.map Ce.cl) hi N (co L) zz f' h'->Calls Tryz.prog 120 #[.agg #[.slice a n cap],.slice pa pn pc,v] U fun e w'=>∃ r1 r2 L1 L2,e = .returned (.tuple #[r1,r2])/\Sl w' 3 r1 (tv (ctm L1))/\Cn L1/\co L1=f'/\Sl w' 3 r2 (tv (ctm L2))/\Cn L2/\co L2=h'/\In0 (l.map Ce.cl) f'/\In0 (l.map Ce.cl) h'/\(∀ d,nb (f' d)<=S+4003/\nb (h' d)<=S+4003)/\Below U.heap.size U w' :=
  fun U hU {hi lo f' h'} aC {Wt} oV v L hv iG hIn S hS mG N hC=>qsl _ _ v l ps U ((h.q8 hB).q8 hU) hl aK cH G aC oV ((hp.q8 hB).q8 hU) cm L hv iG hIn S hS mG N hC
 have fs:(zk l).length<=256000:=by rw[q2q];exact q6v G
 obtain⟨K,hK⟩ : ∃ K,K=l.map Ce.cl:=⟨_,rfl⟩
 have nK:∀ U,Below W.heap.size W U->∀ (v:Value) (t:List Tm) (T:Nat),Sl U 3 v (tv t)->TOk T t->T+t.length<=1000000000000->Calls Tryz.prog 49 #[.agg #[.slice a n cap],v] U fun e w'=>∃ r,e = .returned r/\qbv U w' r (co (bdL (co (prs t)) (z8 K))) (zk l).length:=fun U hU v t T k kT hb=>by rw[hK,<-q2q];exact qc2 _ l v t T U ((h.q8 hB).q8 hU) cH k kT (by omega)
 rw[<-hK] at ll jV cy ⊢;have bK:=qr7 G hc ps;rw[<-hK] at bK;have iH:∀ d,d∈K.map Cl.id->I64 d:=fun d hd=>q4s hK.symm cH hd
 have ud:∀ (L:List (Int×Int)),Cn L->In0 K (co L)->∀ S,(∀ d,nb (co L d)<=S)->TOk S (ctm L):=fun L h1 h2 S h3=>q9i hK.symm cH h1 h2 h3
 have HH:=lhd (aiq ll (aiq nK (aiq cy (aiq (hp.q8 hB) (aiq hB (aiq cm (aiq bK iH)))))));have HG:=lhd (aiq (show Cx.Good K from hK ▸ G) (show chk K=(0,0) from hK ▸ hc));have ly:=lhd hW;have HF:=lhd jV;have HI:=lhd hid;have X5:=lhd ud;have fS:∀ (w1:World),Below W.heap.size W w1->upX K ps id=zz->∃ r L,Ending.returned (.slice none 0 0) = .returned r/\Cn L/\co L=upX K ps id/\Sl w1 3 r (tv (ctm L))/\In0 K (co L)/\(∀ d,nb (co L d)<=5000)/\Below w.heap.size w w1:=fun w1 hb hz=>⟨_,[],rfl,Cn.nil,hz.symm,Sl.nil _ _,fun d hd=>absurd rfl hd,fun d=>by rw[show co ([] : List (Int×Int)) d=0 from rfl,q0g];omega,(btr hB hb)⟩
 have BA:=lhd fS;clear h aK G hc hp hB ll jV cy bK hl hK hW cm cH iH nK fs ud fS hid;obtain⟨E,hE⟩ : ∃ E,E=j8 K ps:=⟨_,rfl⟩
 have HE:=lhd hE;have cJ:=HH.out.1;rw[<-hE] at cJ;have HC:=lhd cJ;clear hE cJ;obtain⟨ok,hok⟩ : ∃ ok,ok=jv K id:=⟨_,rfl⟩
 have Cm:=lhd hok;rw[<-hok] at HF;clear hok;go_enter Tryz.func58,Tryz.ntmps58;go_wp2_with fail;rw[<-ly.out];refine HF.out.mono ?_;rintro e w1 ⟨x0,x1,sa,sn,sc,rfl,ai⟩;obtain⟨w2,fZ⟩ : ∃ w2,w2=w1.alloc (.cells #[.int .i64 x0,.int .i64 x1,.slice sa sn sc] 75):=⟨_,rfl⟩
 have aw:Below W.heap.size W w2:=by rw[fZ];exact ai.alloc ai.size _
 have nW:=lhd (aiq fZ aw);clear fZ ai aw;go_wp2_with fail;rw[<-nW.out.1];refine(qja _ ps id w2 (HH.out.2.2.2.1.q8 nW.out.2) HH.out.2.2.2.2.2.1).mono ?_;rintro e w3 ⟨q,rfl,hq,aQ⟩;have ar:=(btr nW.out.2 aQ);have HQ:=lhd (aiq hq ar);have k3:=Cx.q8 ar b0;clear hq aQ ar;go_wp2_with fail;refine(HC.out w3 HQ.out.2).mono ?_;rintro e w4 ⟨rfl,aM⟩;have aD:=(btr HQ.out.2 aM);have pN:=lhd aD;have k4:=Cx.q8 aD b0;clear aM aD k3;by_cases mK:E=0
 case neg =>
  have hb:(E != 0)=true:=by simpa using mK
  have HN:=lhd mK;clear mK;go_wp2_with fail;go_ret;exact BA.out _ pN.out (by unfold upX;rw[if_neg];intro hx;rw[HH.out.2.2.2.2.2.2.1,<-HE.out] at hx;exact HN.out hx.1)
 subst mK;cases ok with
 | false =>go_wp2_with fail;go_ret;exact BA.out _ pN.out (by unfold upX;rw[if_neg];intro hx;rw[HG.out.1.cells.1,<-Cm.out] at hx;cases hx.2.1)
 | true =>
  obtain⟨hi,lo,aC,hM,mI,rE,dx,_⟩:=qqy HG.out.1 HG.out.2 HE.out.symm 0;have zB:q=pdB hi lo id:=Bool.eq_iff_iff.2 (HQ.out.1.trans (qol HG.out.1 aC id).symm);have Nv:opE K ps=0:=HH.out.2.2.2.2.2.2.1.trans HE.out.symm;cases q with
  | true =>have HX:=lhd (aiq zB (aiq rE dx));clear aC hM mI rE dx zB Nv;go_wp2_with fail;go_ret;exact BA.out _ pN.out (by unfold upX;rw[if_neg];intro hx;rw[HX.out.2.1,HX.out.2.2,<-HX.out.1] at hx;cases hx.2.2)
  | false =>
   have Sr:upX K ps id=upF K hi id:=by unfold upX;rw[HG.out.1.cells.1,rE,dx,if_pos ⟨Nv,Cm.out.symm,zB.symm⟩]
   obtain⟨Wt,oV⟩:=qct HG.out.1 hM mI;have iP:id∈K.map Cl.id:=by
    obtain⟨x,hx,he⟩:=List.any_eq_true.1 Cm.out.symm;have he:x.id=id:=by simpa using he
    exact he ▸ gG hx
   have HP:=lhd (aiq aC (aiq hM (aiq mI (aiq Sr (aiq oV iP)))));clear aC hM mI rE dx Sr oV iP zB Nv;go_wp2_with fail;refine(q58 1 _ (by decide) (by decide)).mono ?_;rintro e w5 ⟨rfl,cU⟩;have hs:=q13 w5 71 3 [.int .i64 id,.bool (decide ((1:Int) < 0)),.string (mg 1)] 1 rfl (by unfold maxLen;omega);have HS:=lhd hs;have vZ:=lhd cU;clear hs cU k4;unfold wv;go_upto_region 6 with fail;have eA:Sl (w5.alloc (.cells #[.int .i64 id,.bool false,.string (mg 1)] 71)) 3 (.slice (some ⟨w5.heap.size,0,none⟩) 1 1) (tv (ctm [(id,1)])):=HS.out;obtain⟨w6,mC⟩ : ∃ w6,w6=w5.alloc (.cells #[.int .i64 id,.bool false,.string (mg 1)] 71):=⟨_,rfl⟩
   obtain⟨p6,Ss⟩ : ∃ p6,p6=w5.heap.size:=⟨_,rfl⟩
   have B6:Below w4.heap.size w4 w6:=by rw[mC];exact vZ.out.alloc vZ.out.size _
   rw[<-mC] at eA ⊢;rw[<-Ss] at eA ⊢;have nN:Below W.heap.size W w6:=(btr pN.out B6);have cp:TOk 1 (ctm [(id,1)]):=LOk.tok fun p hp=>by
    have:p=(id,1):=by simpa using hp
    rw[this];exact⟨HI.out,q31 1 1 (by decide)⟩
   have HX:=lhd (aiq eA (aiq nN cp));clear eA B6 nN cp mC Ss HS vZ;obtain⟨g',IT⟩ : ∃ g',g'=(q79 K hi (bdD K id 1)).1:=⟨_,rfl⟩
   obtain⟨h',F0⟩ : ∃ h',h'=(q79 K hi (bdD K id 1)).2:=⟨_,rfl⟩
   have Fl:In0 K (bdD K id 1):=qcu HG.out.1 id 1;obtain⟨N,iO⟩:=q9f HG.out.1 HP.out.2.1 HP.out.2.2.1 Fl;rw[<-IT,<-F0] at iO;have pF:=lhd (aiq iO (aiq F0 Fl));clear iO IT F0 Fl
   go_cut [11,12] from 37 to 45 (fun _ y wx=>(∃ x0 x1 x2,y=Value.slice x0 x1 x2)/\Hid (ChW K h' y wx/\Below w6.heap.size w6 wx))
   case first =>
    rename_i J K2 hJ eu;obtain⟨eA,nN,cp⟩:=HX.out;have kJ:=Cx.q8 nN b0;refine q1a rfl (fun q v w=>cond (q == 4) (ChV (bdD K id 1) v w) (cond (q == 5 || q == 6) (qs6 K g' h' v w) (cond (q == 8 || q == 10) (ChW K h' v w) (∀ x',([some (.agg #[.slice a n cap]),some (.slice pa pn pc),some (.agg #[.slice a n cap]),some (.slice (some ⟨p6,0,none⟩) 1 1)] : List (Option Value)).getD q none=some x'->v=x')))) 49 rfl (by kernel_rfl) (by kernel_rfl) ?hF ?step ?done
    case hF =>
     intro q v w w' h hb;show cond (q == 4) _ (cond (q == 5 || q == 6) _ (cond (q == 8 || q == 10) _ _));have h:cond (q == 4) _ (cond (q == 5 || q == 6) _ (cond (q == 8 || q == 10) _ _)):=h;cases h1:(q == 4) with
     | true=>rw[h1] at h;exact ChV.q8 h hb
     | false =>
      rw[h1] at h;cases h2:(q == 5 || q == 6) with
      | true=>rw[h2] at h;exact qs6.q8 h hb
      | false =>
       rw[h2] at h;cases h3:(q == 8 || q == 10) with
       | true=>rw[h3] at h;exact ChW.q8 h hb
       | false=>rw[h3] at h;exact h
    case step =>
     intro q o ho ac w' hw hd ae ao
     match q,ho,hd with
     | 0,ho,hd =>obtain rfl:=osi ho;exact⟨rfl,q8o _ _ rfl _ (ae 3 (qu (by kernel_rfl))) _ (qss (Cx.q8 hw kJ)) ⟨_,rfl,fun _ h=>osi h,Below.refl _ _⟩⟩
     | 1,ho,hd =>obtain rfl:=osi ho;exact⟨rfl,q1b _ (.inl rfl) ⟨_,rfl,fun _ h=>(ae 1 (qu (by kernel_rfl))).trans (osi h),Below.refl _ _⟩⟩
     | 2,ho,hd =>obtain rfl:=osi ho;exact⟨rfl,q8o _ _ rfl _ (ae 3 (qu (by kernel_rfl))) _ (qss (Cx.q8 hw kJ)) ⟨_,rfl,fun _ h=>osi h,Below.refl _ _⟩⟩
     | 3,ho,hd =>obtain rfl:=osi ho;exact⟨rfl,q1b _ (.inl rfl) ⟨_,rfl,fun _ h=>(ae 10 (qu (by kernel_rfl))).trans (osi h),Below.refl _ _⟩⟩
     | 4,ho,hd =>obtain rfl:=osi ho;have f2:ac.tmps.getD 40 undef = .agg #[.slice a n cap]:=hd 2 _ _ rfl rfl (by kernel_rfl) _ rfl;have f3:ac.tmps.getD 41 undef = .slice (some ⟨p6,0,none⟩) 1 1:=hd 3 _ _ rfl rfl (by kernel_rfl) _ rfl;exact⟨rfl,qdj _ _ _ rfl qqz #[.agg #[.slice a n cap],.slice (some ⟨p6,0,none⟩) 1 1] (by simp[Act.eval,f2,f3]) ((HH.out.2.1 _ ((btr nN hw)) _ (ctm [(id,1)]) 1 (eA.q8 hw) cp (by rw[qz];show 1+1<=_;omega)).mono fun e w7 ⟨r,he,⟨L,cn,cv,_,row⟩,hb⟩=>⟨_,he,_,rfl,⟨L,Sl.qc row,cn,funext fun d=>by rw[cv,zv,vg];rfl⟩,hb⟩)⟩
     | 5,ho,hd =>obtain rfl:=osi ho;have f0:ac.tmps.getD 38 undef = .agg #[.slice a n cap]:=hd 0 _ _ rfl rfl (by kernel_rfl) _ rfl;have f1:ac.tmps.getD 39 undef = .slice pa pn pc:=hd 1 _ _ rfl rfl (by kernel_rfl) _ rfl;have f4:ChV (bdD K id 1) (ac.tmps.getD 42 undef) w':=hd 4 _ _ rfl rfl (by kernel_rfl);obtain⟨L,hs,iG,bK⟩:=f4;exact⟨rfl,qdj _ _ _ rfl qrh #[.agg #[.slice a n cap],.slice pa pn pc,ac.tmps.getD 42 undef] (by simp[Act.eval,f0,f1]) ((HH.out.2.2.1 _ ((btr nN hw)) HP.out.1 HP.out.2.2.2.2.1 _ L hs iG (by rw[bK];exact pF.out.2.2) 1 (fun d=>by rw[bK];exact qod HG.out.1 id d) (by omega) N (by rw[bK];exact pF.out.1)).mono fun e w7 ⟨r1,r2,L1,L2,he,k1,k2,k3,k4,k5,k6,_,k7,k8,hb⟩=>⟨_,he,_,rfl,⟨r1,r2,L1,L2,rfl,k1,k2,k3,k4,k5,k6,k7,fun d=>gl (k8 d).2 (by decide)⟩,hb⟩)⟩
     | 6,ho,hd =>obtain rfl:=osi ho;have f5:qs6 K g' h' (ac.tmps.getD 43 undef) w':=hd 5 _ _ rfl rfl (by kernel_rfl);exact⟨rfl,q1b _ (.inl rfl) ⟨_,rfl,f5,Below.refl _ _⟩⟩
     | 7,ho,hd =>obtain rfl:=osi ho;have f6:qs6 K g' h' (ac.tmps.getD 37 undef) w':=hd 6 _ _ rfl rfl (by kernel_rfl);obtain⟨r1,r2,L1,L2,k0,_⟩:=f6;exact⟨rfl,qr0 _ _ rfl _ k0 _ rfl ⟨_,rfl,(fun _ h=>by cases h),Below.refl _ _⟩⟩
     | 8,ho,hd =>obtain rfl:=osi ho;have f6:qs6 K g' h' (ac.tmps.getD 37 undef) w':=hd 6 _ _ rfl rfl (by kernel_rfl);obtain⟨r1,r2,L1,L2,k0,_,_,_,k4,k5,k6,k7,k8⟩:=f6;exact⟨rfl,qr0 _ _ rfl _ k0 _ rfl ⟨_,rfl,⟨⟨L2,k4,k5,k6⟩,k7,k8⟩,Below.refl _ _⟩⟩
     | 9,ho,hd =>obtain rfl:=osi ho;exact⟨rfl,q1b _ (.inr rfl) ⟨_,rfl,(fun _ h=>by cases h),Below.refl _ _⟩⟩
     | 10,ho,hd =>obtain rfl:=osi ho;have f8:ChW K h' (ac.tmps.getD 45 undef) w':=hd 8 _ _ rfl rfl (by kernel_rfl);exact⟨rfl,q1b _ (.inr rfl) ⟨_,rfl,f8,Below.refl _ _⟩⟩
     | q+11,ho,hd =>have:q+11 < 11:=(gp.1 ho).1;omega
    case done =>
     intro ac w7 ao eH hf ae hw;have ht:ChW K h' (ac.tmps.getD 12 undef) w7:=hf 10 _ _ rfl rfl;have po:∃ x0 x1 x2,ac.tmps.getD 12 undef=Value.slice x0 x1 x2:=by obtain⟨⟨L,hs,_⟩,_⟩:=ht;exact qg hs
     refine eu _ _ (Met.intro (hJ _ _ ⟨ac.tmps.getD 11 undef,ac.tmps.getD 12 undef,ac.tmps.getD 37 undef,ac.tmps.getD 38 undef,ac.tmps.getD 39 undef,ac.tmps.getD 40 undef,ac.tmps.getD 41 undef,ac.tmps.getD 42 undef,ac.tmps.getD 43 undef,ac.tmps.getD 44 undef,ac.tmps.getD 45 undef,⟨po,lhd ⟨ht,hw⟩⟩,(q8z ao eH ae).trans ?_⟩));kernel_rfl
   case rest =>
    obtain⟨⟨x0,x1,x2,rfl⟩,HZ⟩:=hcut;obtain⟨⟨⟨L2,dy,eO,dG⟩,cQ,cC⟩,rT⟩:=HZ.out;have nD:In0 K (co L2):=by rw[dG];exact cQ
    have iy:∀ d,nb (co L2 d)<=4004:=fun d=>by rw[dG];exact cC d
    have jO:=X5.out _ eO nD 4004 iy;have l2:=q6u eO nD;have hlen:=HG.out.1.len;have HY:=lhd (aiq dy (aiq eO (aiq dG (aiq nD (aiq iy (aiq jO (aiq l2 (aiq hlen rT))))))));clear cQ cC dy eO dG nD iy jO l2 hlen rT;go_wp2_with fail;refine(qsu _ _ (ctm [(id,1)]) (ctm L2) 4004 wc (HX.out.1.q8 HY.out.2.2.2.2.2.2.2.2) HY.out.1 (HX.out.2.2.mono (by omega)) HY.out.2.2.2.2.2.1 (by rw[qz,qz];have:=HY.out.2.2.2.2.2.2;show _+1+_<=_;omega)).mono ?_;rintro e w8 ⟨r8,rfl,⟨L8,rp,nE,Rh,eC⟩,mQ⟩;obtain⟨v8,n8,c8,rfl⟩:=qg (Sl.qc eC);have HW:=lhd (aiq rp (aiq nE (aiq eC mQ)));clear rp nE eC mQ;go_wp2_with fail;go_ret;obtain⟨rp,nE,eC,mQ⟩:=HW.out;have e8:co L8=upF K hi id:=funext fun d=>by rw[nE,zv,zv,vg,HY.out.2.2.1,pF.out.2.1];rfl
    have pV:Below w.heap.size w wc:=HH.out.2.2.2.2.1.trans (((btr HX.out.2.1 HY.out.2.2.2.2.2.2.2.2)).mono HH.out.2.2.2.2.1.size);refine⟨_,L8,rfl,rp,e8.trans HP.out.2.2.2.1.symm,Sl.qc eC,fun d hd=>?_,fun d=>?_,(btr pV mQ)⟩
    ·rw[nE,zv,zv,vg] at hd;by_cases h0:d=id
     ·rw[h0];exact HP.out.2.2.2.2.2
     ·have:co L2 d≠0:=fun e=>hd (by rw[e];unfold qw;rw[if_neg h0];rfl)
      exact HY.out.2.2.2.1 d this
    ·rw[nE,zv,zv,vg];have h1:=qbn (qw id 1 d) (co L2 d);have h2:=HY.out.2.2.2.2.1 d;have h3:nb (qw id 1 d)<=1:=by
      unfold qw;split
      ·exact q31 _ _ (by decide)
      ·rw[q0g];omega
     omega
end Go.Proofs.YtlhicnfeajejhaaGreatDoor
namespace Go.Cx
open Go.Proofs.YtlhicnfeajejhaaGreatDoor
theorem qtr {nc k q:Nat} (hk:k < nc) (M:Nat->Nat->Int) (t:Nat):(if t=q*nc+k then M q k else if t % nc < k then M (t / nc) (t % nc) else if t % nc=k/\t / nc < q then M (t / nc) (t % nc) else 0)=if t % nc < k then M (t / nc) (t % nc) else if t % nc=k/\t / nc < q+1 then M (t / nc) (t % nc) else 0:=by
 by_cases h:t=q*nc+k
 ·have h1:t % nc=k:=by rw[h,Nat.add_comm,Nat.add_mul_mod_self_right,Nat.mod_eq_of_lt hk]
  have h2:t / nc=q:=by rw[h,Nat.add_comm,Nat.add_mul_div_right _ _ (by omega),Nat.div_eq_of_lt hk,Nat.zero_add]
  rw[if_pos h,h1,h2,if_neg (by omega),if_pos ⟨rfl,by omega⟩]
 ·rw[if_neg h];by_cases h1:t % nc < k
  ·rw[if_pos h1,if_pos h1]
  ·rw[if_neg h1,if_neg h1];by_cases h2:t % nc=k
   ·have al:t / nc≠q:=fun e=>h (by have:=Nat.div_add_mod t nc;rw[e,h2,Nat.mul_comm] at this;exact this.symm)
    by_cases h3:t / nc < q
    ·rw[if_pos ⟨h2,h3⟩,if_pos ⟨h2,by omega⟩]
    ·rw[if_neg (fun x=>h3 x.2),if_neg (fun x=>by have:=x.2;omega)]
   ·rw[if_neg (fun x=>h2 x.1),if_neg (fun x=>h2 x.1)]
end Go.Cx
namespace Go.Proofs.YtlhicnfeajejhaaGreatDoor
open Go.RowKit Go.Cx
attribute [local go_sem ↓] Go.wp_at_zero Go.wp_at_succ
def ChT (S:Nat) (f:Int->Int) (v:Value) (w:World):Prop:=∃ L,Sl w 3 v (tv (ctm L))/\Cn L/\co L=f/\TOk S (ctm L)/\L.length<=4000
theorem ChT.q8 {S:Nat} {f:Int->Int} {v:Value} {w w':World} (h:ChT S f v w) (hb:Below w.heap.size w w'):ChT S f v w':=by obtain⟨L,h1,h2⟩:=h;exact⟨L,h1.q8 hb,h2⟩
def KP.cho (B S:Nat) (f:Int->Int):KP:=⟨fun v w=>ChT S f v w/\∀ g,v.ownBlock=some g->B<=g,fun _ _ _ h hb=>⟨ChT.q8 h.1 hb,h.2⟩⟩
def KP.cht (S:Nat) (f:Int->Int):KP:=⟨ChT S f,fun _ _ _ h hb=>ChT.q8 h hb⟩
theorem qs7 (w:World) (ad:Addr) (n c i:Nat) (hi:i < n):(Instr.indexAt 22 (.slice (some ad) n c) (.int .i64 i)).run Tryz.prog w = .ok (.pointer (some (ad.add i))) w:=by
 have h1:(0:Int)<=i:=by omega
 have h2:(i:Int) < n:=by omega
 simp[go_sem,h1,h2]
theorem qts (w:World) (a x:Int):(Instr.buildSlice 32 1 #[(0,tmV a x)]).run Tryz.prog w = .ok (.slice (some ⟨w.heap.size,0,none⟩) 1 1) (w.alloc (.cells (tv (ctm [(a,x)])).toArray 71)):=by
 have key:∀ a a' BW:Value,(Instr.buildSlice 32 1 #[(0,.agg #[a,a',BW])]).run Tryz.prog w = .ok (.slice (some ⟨w.heap.size,0,none⟩) 1 1) (w.alloc (.cells #[a,a',BW] 71)):=fun a a' BW =>q2p _ _ 71 _ _ _ _ 3 32 Tryz.underlying32 Tryz.xm (by decide) (by decide) (by kernel_rfl)
 exact key _ _ _
theorem qr3:∀ args w,(callFunc 59 args).run Tryz.prog w = .ok (.enter 59 args) w:=q7b Tryz.func59 (by kernel_rfl) (by kernel_rfl)
theorem qsh (v pvv:Value) (l:List Ce) (ps:List (Int×Int)) (w:World) (h:SlC w v l) (hl:l.length<=180) (aK:∀ x∈l,x.s.length<=1099511627776) (cH:COk l) (G:Cx.Good (l.map Ce.cl)) (hc:chk (l.map Ce.cl)=(0,0)) (hm:j8 (l.map Ce.cl) ps=0) (hp:Sl w 2 pvv (pv ps)) (cm:ps.length<=1000000) (dim:Int) (hd0 : -1000<=dim) (hd1:dim<=1000) :
  Calls Tryz.prog 57 #[.agg #[v],pvv,.int .i64 dim] w (Gvs (.mat (yt (l.map Ce.cl) ps (dim - 1)).length (yt (l.map Ce.cl) ps dim).length (qd0 (l.map Ce.cl) ps dim)) w):=by
 obtain⟨a,n,cap,rfl⟩:=qg h.1;obtain⟨pa,pn,pc,rfl⟩:=qg hp;obtain⟨W,hW⟩ : ∃ W,W=(w.alloc (.cells #[.slice a n cap] 26)).alloc (.cells #[.int .i64 0,.int .i64 0,.slice none 0 0] 44):=⟨_,rfl⟩
 have hB:Below w.heap.size w W:=by rw[hW];exact(bal w _).alloc (by simp) _
 have b0:W.cell? ⟨w.heap.size,0,none⟩=some (.slice a n cap):=by rw[hW];exact qk (qd w _ _ (0,0) 0) _
 have ll:=qmb _ _ l ps W (h.q8 hB) (by omega) aK G hc (hp.q8 hB) cm;rw[hm] at ll;have pW:∀ U,Below W.heap.size W U->∀ d,Calls Tryz.prog 55 #[.agg #[.slice a n cap],.slice pa pn pc,.int .i64 d] U fun e w'=>∃ r,e = .returned r/\w'.ownsRow U.heap.size 3 1 r (yt (l.map Ce.cl) ps d).length (ints (yt (l.map Ce.cl) ps d))/\Below U.heap.size U w':=fun U hU d=>qrg _ _ l ps d U ((h.q8 hB).q8 hU) (by omega) aK G hc ((hp.q8 hB).q8 hU) cm
 have ue:∀ U,Below W.heap.size W U->∀ (u:Value) (t:List Tm) (S:Nat),Sl U 3 u (tv t)->TOk S t->S+t.length<=1000000000->Calls Tryz.prog 59 #[.agg #[.slice a n cap],.slice pa pn pc,u] U fun e w'=>∃ r L,e = .returned r/\Cn L/\co L=q4t (l.map Ce.cl) ps (co (prs t))/\w'.ownsRow U.heap.size 71 3 r L.length (tv (ctm L))/\In0 (l.map Ce.cl) (co L)/\(∀ d,nb (co L d)<=S+t.length+4003)/\Below U.heap.size U w':=fun U hU u t S hu hS mG=>qt3 _ _ u l ps U ((h.q8 hB).q8 hU) (by omega) aK cH G hc ((hp.q8 hB).q8 hU) cm t S hu hS mG
 have fs:(zk l).length<=256000:=by rw[q2q];exact q6v G
 obtain⟨K,hK⟩ : ∃ K,K=l.map Ce.cl:=⟨_,rfl⟩
 have nK:∀ U,Below W.heap.size W U->∀ (v:Value) (t:List Tm) (T:Nat),Sl U 3 v (tv t)->TOk T t->T+t.length<=1000000000000->Calls Tryz.prog 49 #[.agg #[.slice a n cap],v] U fun e w'=>∃ r,e = .returned r/\qbv U w' r (co (bdL (co (prs t)) (z8 K))) (zk l).length:=fun U hU v t T k kT hb=>by rw[hK,<-q2q];exact qc2 _ l v t T U ((h.q8 hB).q8 hU) cH k kT (by omega)
 rw[<-hK] at pW ue ⊢;have G:Cx.Good K:=hK ▸ G;have hc:chk K=(0,0):=hK ▸ hc;have hm:j8 K ps=0:=hK ▸ hm;have fQ:K.length<=180:=by rw[hK,gn];exact hl
 have ud:∀ (L:List (Int×Int)),Cn L->In0 K (co L)->∀ S,(∀ d,nb (co L d)<=S)->TOk S (ctm L):=fun L h1 h2 S h3=>q9i hK.symm cH h1 h2 h3
 have iH:∀ d,d∈K.map Cl.id->I64 d:=fun d hd=>q4s hK.symm cH hd
 obtain⟨hi,lo,aC,hM,mI,rE,dx,Nw,GJ,_⟩:=qqy G hc hm dim;have GI:∀ f,q4t K ps f=q85 K hi lo f:=fun f=>by unfold q4t;rw[qr7 G hc,hm,if_pos rfl,G.cells.1,rE,dx]
 have Su:∀ i j,bdE (canon K) (mhi K ps) (mlo K ps) dim i j=q85 K hi lo (bdD K ((yt K ps dim).getD j 0) 1) ((yt K ps (dim - 1)).getD i 0):=fun i j=>by unfold bdE;rw[G.cells.1,rE,dx,Nw,GJ]
 obtain⟨M,Nx⟩ : ∃ M:Nat->Nat->Int,M=fun i j=>bdE (canon K) (mhi K ps) (mlo K ps) dim i j:=⟨_,rfl⟩
 have Sv:qd0 K ps dim=(List.range ((yt K ps (dim - 1)).length*(yt K ps dim).length)).map fun t=>M (t / (yt K ps dim).length) (t % (yt K ps dim).length):=by unfold qd0;rw[Nx]
 rw[Sv];have Ny:∀ i j,M i j=q85 K hi lo (bdD K ((yt K ps dim).getD j 0) 1) ((yt K ps (dim - 1)).getD i 0):=fun i j=>by rw[Nx];exact Su i j
 have lE:=qqp G ps (dim - 1);have iD:=qqp G ps dim;have iK:∀ x∈yt K ps dim,x∈K.map Cl.id:=fun x hx=>by rw[Nw] at hx;obtain⟨⟨y,hy,h1,_⟩,_⟩:=(qiu G).1 hx;exact h1 ▸ gG hy
 obtain⟨rows,eV⟩ : ∃ rows,rows=yt K ps (dim - 1):=⟨_,rfl⟩
 obtain⟨fT,fU⟩ : ∃ fT,fT=yt K ps dim:=⟨_,rfl⟩
 have fH:=pW;rw[<-eV,<-fU] at Ny ⊢;rw[<-eV] at lE;rw[<-fU] at iD iK;have tQ:=lhd (aiq pW (aiq eV (aiq fU (aiq ue (aiq nK (aiq GI ud))))));have HG:=lhd (aiq G (aiq hB (aiq iH (aiq iK fQ))));have ly:=lhd hW;have X6:=lhd Ny;have X7:=lhd ll;have HD:=lhd (aiq hd0 hd1);have tG:rows.length<=200:=by omega
 have oY:fT.length<=200:=by omega
 clear h aK cH G hc hm hp cm hB ll pW ue fs hK nK ud iH aC hM mI rE dx Nw GJ GI Su Nx Sv Ny lE iD iK eV fU fH hl fQ hW;go_enter Tryz.func57,Tryz.ntmps57;go_wp2_with fail;rw[<-ly.out];refine X7.out.mono ?_;rintro e w1 ⟨rfl,ak⟩;have m0:W.cell? ⟨w.heap.size+1,0,none⟩=some (.int .i64 0):=by rw[ly.out];simp
 have m1:W.cell? ⟨w.heap.size+1,1,none⟩=some (.int .i64 0):=by rw[ly.out];simp
 have m2:W.cell? ⟨w.heap.size+1,2,none⟩=some (.slice none 0 0):=by rw[ly.out];simp
 have mz:∀ j,W.frozen? ⟨w.heap.size+1,j,none⟩=false:=fun j=>by rw[ly.out];simp
 have uJ:w.heap.size+1 < W.heap.size:=by rw[ly.out];simp
 obtain⟨ob,wu⟩ : ∃ ob,ob=w.heap.size+1:=⟨_,rfl⟩
 rw[<-wu] at m0 m1 m2 mz uJ ⊢;have ft:w.heap.size<=ob:=by omega
 have HM:=lhd (aiq m0 (aiq m1 (aiq m2 (aiq mz (aiq ft uJ)))));have k1:=Cx.q8 ak b0;have aV:=lhd ak;clear m0 m1 m2 mz uJ wu ak ft;go_wp2_with fail;refine(tQ.out.1 _ aV.out (dim - 1)).mono ?_;rintro e w2 ⟨r2,rfl,lW,aj⟩;rw[<-tQ.out.2.1] at lW;obtain⟨v2,c2,Nz⟩:=qj lW;subst Nz;obtain⟨er,iA⟩ : ∃ er,er=rows.length:=⟨_,rfl⟩
 have dy:=Sl.qc lW;obtain⟨N0,N1,_⟩:=dy.open;unfold maxLen at N1;rw[<-iA] at dy N0 tG ⊢;have bG:=lhd ((btr aV.out aj));have qR:=lhd (aiq dy iA);have k2:=Cx.q8 bG.out b0;clear lW aj dy iA k1;go_wp2_with fail;refine(tQ.out.1 _ bG.out dim).mono ?_;rintro e w3 ⟨r3,rfl,kZ,aQ⟩;rw[<-tQ.out.2.2.1] at kZ;obtain⟨v3,c3,N2⟩:=qj kZ;subst N2;obtain⟨aJ,oe⟩ : ∃ aJ,aJ=fT.length:=⟨_,rfl⟩
 have eR:=Sl.qc kZ;obtain⟨N3,N4,_⟩:=eR.open;unfold maxLen at N4;rw[<-oe] at eR N3 oY ⊢;have Co:=(btr bG.out aQ);have HS:=lhd (aiq (qR.out.1.q8 aQ) (aiq eR (aiq Co (aiq qR.out.2 oe))));have k3:=Cx.q8 Co b0;have g1:((er:Int) > 200)=False:=by simp;omega
 have g2:((aJ:Int) > 200)=False:=by simp;omega
 clear kZ aQ eR oe Co k2;go_wp2_with fail;refine(qti er aJ w3 tG oY).mono ?_;rintro e w4 ⟨E,rfl,FP,BF,uK,aM⟩;obtain⟨N,hN⟩ : ∃ N,N=er*aJ:=⟨_,rfl⟩
 rw[<-hN] at uK ⊢;have HE:=lhd (aiq FP (aiq BF (aiq uK (aiq aM hN))));clear FP BF uK aM hN k3;go_wp2_with fail;obtain⟨V,hV⟩ : ∃ V,V=w4.alloc (.cells #[.int .i64 er,.int .i64 aJ,.slice (some ⟨E,0,none⟩) N N] 44):=⟨_,rfl⟩
 rw[<-hV];obtain⟨pb,mF⟩ : ∃ pb,pb=w4.heap.size:=⟨_,rfl⟩
 have u0:V.cell? ⟨pb,0,none⟩=some (.int .i64 er):=by rw[hV,mF];exact qd w4 _ _ (0,0) 0
 have u1:V.cell? ⟨pb,1,none⟩=some (.int .i64 aJ):=by rw[hV,mF];exact qd w4 _ _ (0,0) 1
 have u2:V.cell? ⟨pb,2,none⟩=some (.slice (some ⟨E,0,none⟩) N N):=by rw[hV,mF];exact qd w4 _ _ (0,0) 2
 have lX:Below w4.heap.size w4 V:=by rw[hV];exact bal w4 _
 rw[<-mF];have wA:E≠pb:=by have:=HE.out.2.1;omega
 have FT:=HE.out.2.2.1.q8 lX HE.out.2.1;have jR:Below w3.heap.size w3 V:=(btr HE.out.2.2.2.1 lX);have HV:=lhd (aiq u0 (aiq u1 (aiq u2 (aiq wA (aiq FT (aiq jR (gM HE.out.2.1 lX.size)))))));clear u0 u1 u2 lX wA FT jR hV mF;have far:∀ U,Gs (fun b=>b=E) V U->Below w3.heap.size w3 U/\U.cell? ⟨pb,0,none⟩=some (.int .i64 er)/\U.cell? ⟨pb,1,none⟩=some (.int .i64 aJ)/\U.cell? ⟨pb,2,none⟩=some (.slice (some ⟨E,0,none⟩) N N):=fun U hU=>by
  obtain⟨u0,u1,u2,wA,_,jR,_⟩:=HV.out;have hb:¬ (pb=E):=fun e=>wA e.symm
  exact⟨jR.trans (hU.below jR.size fun b h=>by rw[h];exact HE.out.1),hU.cell hb u0,hU.cell hb u1,hU.cell hb u2⟩
 have BG:=lhd far;clear far;go_wp2_with fail;go_loopw [10] (fun i wr=>∃ k:Nat,i = .int .i64 k/\k<=aJ/\Hid (EW wr E N (fun t=>if t % aJ < k then M (t / aJ) (t % aJ) else 0)/\Gs (fun b=>b=E) V wr)) (fun i _=>aJ - (vI i).toNat)
 case atStart=>exact⟨0,rfl,go _,HV.out.2.2.2.2.1.congr fun t _=>by rw[if_neg (by omega)],Gs.refl _ _⟩
 case round =>
  obtain⟨k,rfl,hk,ct⟩:=hrel;by_cases hlt:k < aJ
  ·obtain⟨wo,de⟩ : ∃ wo,wo=wr:=⟨_,rfl⟩
   subst de;obtain⟨_,_,y3,y4,y5⟩:=HS.out.2.1.open;obtain⟨ad,rfl⟩:=sadq y4 (by omega)
   have iD:fT.length=aJ:=HS.out.2.2.2.2.symm;obtain⟨id,hid⟩ : ∃ id,fT[k]? = some id:=⟨_,g8 (by rw[iD];exact hlt)⟩
   obtain⟨lY,Mx,My,Mz⟩:=BG.out wo ct.out.2;have d0:wo.cell? (ad.add k)=some (.int .i64 id):=Cx.q8 lY (y5 ad rfl _ _ (by simp[ints,hid]));have iP:id∈K.map Cl.id:=HG.out.2.2.2.1 id (gh hid);have jS:I64 id:=HG.out.2.2.1 id iP;have Sw:Below W.heap.size W wo:=(btr HS.out.2.2.1 lY);have oo:fT.getD k 0=id:=by rw[gO,hid];rfl
   have HK:=lhd (aiq oo (aiq lY (aiq iP (aiq jS (aiq Sw d0)))));have iB:(k:Int) < aJ:=by omega
   clear y3 y4 y5 iD hid lY iP jS Mx My Mz Sw oo d0;go_upto_region 11 with fail
   go_cut [11] from 48 to 54 (fun y wx=>∃ p6,y=Value.slice (some ⟨p6,0,none⟩) 1 1/\Hid (Sl wx 3 (.slice (some ⟨p6,0,none⟩) 1 1) (tv (ctm [(id,1)]))/\Below wo.heap.size wo wx))
   case first =>
    rename_i J K2 hJ eu;have d0:=HK.out.2.2.2.2.2;have ks:KP:=⟨fun v w=>∃ p6,v=Value.slice (some ⟨p6,0,none⟩) 1 1/\Sl w 3 v (tv (ctm [(id,1)])),fun v w w' ⟨p6,h1,h2⟩ hb=>⟨p6,h1,h2.q8 hb⟩⟩
    refine q1a rfl (fun i v w=>(([KP.val (.slice (some ad) aJ c3),KP.val (.int .i64 k),KP.val (.pointer (some (ad.add k))),KP.val (.int .i64 id),KP.val (wv 1),KP.val (tmV id 1),⟨fun v w=>∃ p6,v=Value.slice (some ⟨p6,0,none⟩) 1 1/\Sl w 3 v (tv (ctm [(id,1)])),fun v w w' ⟨p6,h1,h2⟩ hb=>⟨p6,h1,h2.q8 hb⟩⟩,⟨fun v w=>∃ p6,v=Value.slice (some ⟨p6,0,none⟩) 1 1/\Sl w 3 v (tv (ctm [(id,1)])),fun v w w' ⟨p6,h1,h2⟩ hb=>⟨p6,h1,h2.q8 hb⟩⟩] : List KP).getD i .any).p v w) 83 rfl (by kernel_rfl) (by kernel_rfl) (fun i v w w' h hb=>KP.q8 _ v w w' h hb) ?step ?done
    case step =>
     intro i o ho ac w' hw hd ae ao
     match i,ho,hd with
     | 0,ho,hd =>obtain rfl:=osi ho;exact⟨rfl,xi _ (.inl rfl) (ae 8 (qu (by kernel_rfl)))⟩
     | 1,ho,hd =>obtain rfl:=osi ho;exact⟨rfl,xi _ (.inl rfl) (ae 10 (qu (by kernel_rfl)))⟩
     | 2,ho,hd =>obtain rfl:=osi ho;exact⟨rfl,qc9 _ _ _ rfl _ _ (hd 0 _ _ rfl rfl (by kernel_rfl)) (hd 1 _ _ rfl rfl (by kernel_rfl)) _ (qs7 _ ad aJ c3 k hlt) ⟨_,rfl,rfl,Below.refl _ _⟩⟩
     | 3,ho,hd =>obtain rfl:=osi ho;exact⟨rfl,qh1 _ _ rfl _ (hd 2 _ _ rfl rfl (by kernel_rfl)) _ (qe0 _ _ _ (Cx.q8 hw d0)) rfl⟩
     | 4,ho,hd =>obtain rfl:=osi ho;exact⟨rfl,qg9 _ _ _ rfl q77 #[.int .i64 1] (by simp[Act.eval]) ((q58 1 w' (by decide) (by decide)).mono fun e w6 ⟨he,hb⟩=>⟨_,he,rfl,hb⟩)⟩
     | 5,ho,hd =>obtain rfl:=osi ho;exact⟨rfl,qh5 _ _ rfl _ (qqh _ _ _ _ _ (hd 3 _ _ rfl rfl (by kernel_rfl)) (hd 4 _ _ rfl rfl (by kernel_rfl))) _ (qoh _ _ _) ⟨_,rfl,rfl,Below.refl _ _⟩⟩
     | 6,ho,hd =>obtain rfl:=osi ho;exact⟨rfl,q5z 32 1 _ rfl _ (qpl _ _ _ (hd 5 _ _ rfl rfl (by kernel_rfl))) _ _ (qts _ _ _) ⟨_,rfl,⟨_,rfl,q8p _ _ 3 _ 1 rfl (by unfold maxLen;omega)⟩,bal _ _⟩⟩
     | 7,ho,hd =>obtain rfl:=osi ho;exact⟨rfl,xi _ (.inr rfl) (hd 6 _ _ rfl rfl (by kernel_rfl))⟩
     | i+8,ho,hd =>have:i+8 < 8:=(gp.1 ho).1;omega
    case done =>intro ac w7 ao eH hf ae hw;have ht:∃ p6,ac.tmps.getD 11 undef=Value.slice (some ⟨p6,0,none⟩) 1 1/\Sl w7 3 (ac.tmps.getD 11 undef) (tv (ctm [(id,1)])):=hf 7 _ _ rfl rfl;obtain⟨p6,h1,h2⟩:=ht;have h3:=h2;rw[h1] at h3;refine eu _ _ (Met.intro (hJ _ _ ⟨ac.tmps.getD 11 undef,ac.tmps.getD 48 undef,ac.tmps.getD 49 undef,ac.tmps.getD 50 undef,ac.tmps.getD 51 undef,ac.tmps.getD 52 undef,ac.tmps.getD 53 undef,ac.tmps.getD 54 undef,⟨p6,h1,lhd ⟨h3,hw⟩⟩,(q8z ao eH ae).trans ?_⟩));kernel_rfl
   case rest =>
    obtain⟨p6,rfl,H6⟩:=hcut;obtain⟨w6,mC⟩ : ∃ w6,w6=wc:=⟨_,rfl⟩
    subst mC;have cp:TOk 1 (ctm [(id,1)]):=LOk.tok fun p hp=>by
     have:p=(id,1):=by simpa using hp
     rw[this];exact⟨HK.out.2.2.2.1,q31 1 1 (by decide)⟩
    have zK:Below W.heap.size W w6:=(btr HK.out.2.2.2.2.1 H6.out.2);obtain⟨g,hg⟩ : ∃ g,g=q85 K hi lo (bdD K id 1):=⟨_,rfl⟩
    have lf:=lhd (aiq cp (aiq zK hg));clear cp zK hg;go_upto_region 12 with fail
    go_cut [12] from 55 to 60 (fun y wx=>(∃ x0 x1 x2,y=Value.slice x0 x1 x2)/\Hid ((ChT 10000 g y wx/\∀ gb,y.ownBlock=some gb->wo.heap.size<=gb)/\Below w6.heap.size w6 wx))
    case first =>
     rename_i J K2 hJ eu;obtain⟨cp,zK,hg⟩:=lf.out;have MP:=Cx.q8 zK b0;refine q1a rfl (fun i v w=>(([KP.val (.agg #[.slice a n cap]),KP.val (.slice pa pn pc),KP.val (.agg #[.slice a n cap]),KP.val (.slice (some ⟨p6,0,none⟩) 1 1),KP.cht 1 (bdD K id 1),KP.cho wo.heap.size 10000 g,KP.cho wo.heap.size 10000 g] : List KP).getD i .any).p v w) 83 rfl (by kernel_rfl) (by kernel_rfl) (fun i v w w' h hb=>KP.q8 _ v w w' h hb) ?step ?done
     case step =>
      intro i o ho ac w' hw hd ae ao
      match i,ho,hd with
      | 0,ho,hd =>obtain rfl:=osi ho;exact⟨rfl,qh1 _ _ rfl _ (ae 3 (qu (by kernel_rfl))) _ (qss (Cx.q8 hw MP)) rfl⟩
      | 1,ho,hd =>obtain rfl:=osi ho;exact⟨rfl,xi _ (.inl rfl) (ae 1 (qu (by kernel_rfl)))⟩
      | 2,ho,hd =>obtain rfl:=osi ho;exact⟨rfl,qh1 _ _ rfl _ (ae 3 (qu (by kernel_rfl))) _ (qss (Cx.q8 hw MP)) rfl⟩
      | 3,ho,hd =>obtain rfl:=osi ho;exact⟨rfl,xi _ (.inl rfl) (ae 11 (qu (by kernel_rfl)))⟩
      | 4,ho,hd =>
       obtain rfl:=osi ho;have f2:ac.tmps.getD 57 undef = .agg #[.slice a n cap]:=hd 2 _ _ rfl rfl (by kernel_rfl);have f3:ac.tmps.getD 58 undef = .slice (some ⟨p6,0,none⟩) 1 1:=hd 3 _ _ rfl rfl (by kernel_rfl);exact⟨rfl,qg9 _ _ _ rfl qqz #[.agg #[.slice a n cap],.slice (some ⟨p6,0,none⟩) 1 1] (by simp[Act.eval,f2,f3]) ((tQ.out.2.2.2.2.1 _ ((btr zK hw)) _ (ctm [(id,1)]) 1 (H6.out.1.q8 hw) cp (by rw[qz];show 1+1<=_;omega)).mono fun e w7 ⟨r,he,⟨L,cn,cv,_,row⟩,hb⟩=>by
        have dI:co L=bdD K id 1:=funext fun d=>by rw[cv,zv,vg];rfl
        have cP:In0 K (co L):=by rw[dI];exact qcu HG.out.1 id 1
        exact⟨_,he,⟨L,Sl.qc row,cn,dI,tQ.out.2.2.2.2.2.2 _ cn cP 1 (fun d=>by rw[dI];exact qod HG.out.1 id d),gl (q6u cn cP) HG.out.1.len⟩,hb⟩)⟩
      | 5,ho,hd =>
       obtain rfl:=osi ho;have f0:ac.tmps.getD 55 undef = .agg #[.slice a n cap]:=hd 0 _ _ rfl rfl (by kernel_rfl);have f1:ac.tmps.getD 56 undef = .slice pa pn pc:=hd 1 _ _ rfl rfl (by kernel_rfl);have f4:ChT 1 (bdD K id 1) (ac.tmps.getD 59 undef) w':=hd 4 _ _ rfl rfl (by kernel_rfl);obtain⟨L,hs,iG,bK,bZ,kP⟩:=f4;exact⟨rfl,qg9 _ _ _ rfl qr3 #[.agg #[.slice a n cap],.slice pa pn pc,ac.tmps.getD 59 undef] (by simp[Act.eval,f0,f1]) ((tQ.out.2.2.2.1 _ ((btr zK hw)) _ (ctm L) 1 hs bZ (by rw[qz];omega)).mono fun e w7 ⟨r,L1,he,cn,cv,row,cP,dT,hb⟩=>by
        have hv:co L1=g:=by rw[cv,zv,bK,tQ.out.2.2.2.2.2.1,hg]
        exact⟨_,he,⟨⟨L1,Sl.qc row,cn,hv,tQ.out.2.2.2.2.2.2 _ cn cP 10000 (fun d=>gl (dT d) (by rw[qz];omega)),gl (q6u cn cP) HG.out.1.len⟩,fun gb Cu=>gl (gl H6.out.2.size hw.size) (row.lt gb Cu).1⟩,hb⟩)⟩
      | 6,ho,hd =>obtain rfl:=osi ho;exact⟨rfl,xi _ (.inr rfl) (hd 5 _ _ rfl rfl (by kernel_rfl))⟩
      | i+7,ho,hd =>have:i+7 < 7:=(gp.1 ho).1;omega
     case done =>
      intro ac w7 ao eH hf ae hw;have ht:ChT 10000 g (ac.tmps.getD 12 undef) w7/\∀ gb,(ac.tmps.getD 12 undef).ownBlock=some gb->wo.heap.size<=gb:=hf 6 _ _ rfl rfl;have po:∃ x0 x1 x2,ac.tmps.getD 12 undef=Value.slice x0 x1 x2:=by obtain⟨⟨L,hs,_⟩,_⟩:=ht;exact qg hs
      refine eu _ _ (Met.intro (hJ _ _ ⟨ac.tmps.getD 12 undef,ac.tmps.getD 55 undef,ac.tmps.getD 56 undef,ac.tmps.getD 57 undef,ac.tmps.getD 58 undef,ac.tmps.getD 59 undef,ac.tmps.getD 60 undef,⟨po,lhd ⟨ht,hw⟩⟩,(q8z ao eH ae).trans ?_⟩));kernel_rfl
    case rest =>
     obtain⟨⟨v8,n8,c8,rfl⟩,H8⟩:=hcut;obtain⟨w8,rk⟩ : ∃ w8,w8=wc:=⟨_,rfl⟩
     subst rk;have ru:Below wo.heap.size wo w8:=(btr H6.out.2 H8.out.2);have BK:E < wo.heap.size:=gM HV.out.2.2.2.2.2.2 ct.out.2.size;have tH:=ct.out.1.q8 ru BK;have FV:Gs (fun b=>b=E) V w8:=ct.out.2.trans (Gs.xh ru);have lZ:=lhd (aiq tH (aiq FV (aiq BK ru)));clear ru BK tH FV;go_wp2_with fail;go_loopw [13] (fun i wr=>∃ q:Nat,i = .int .i64 q/\q<=er/\Hid (EW wr E N (fun t=>if t % aJ < k then M (t / aJ) (t % aJ) else if t % aJ=k/\t / aJ < q then M (t / aJ) (t % aJ) else 0)/\Gs (fun b=>b=E) w8 wr)) (fun i _=>er - (vI i).toNat)
     case atStart =>
      refine⟨0,rfl,go _,lZ.out.1.congr fun t _=>?_,Gs.refl _ _⟩;by_cases h1:t % aJ < k
      ·rw[if_pos h1,if_pos h1]
      ·rw[if_neg h1,if_neg h1,if_neg (fun x=>Nat.not_lt_zero _ x.2)]
     case round =>
      obtain⟨q,rfl,hq,e9⟩:=hrel;by_cases l8:q < er
      ·obtain⟨iQ,_,_,o2⟩:=BG.out wr (lZ.out.2.1.trans e9.out.2);obtain⟨_,_,z3,z4,z5⟩:=HS.out.1.open;obtain⟨ad2,rfl⟩:=sadq z4 (by omega)
       have lE:rows.length=er:=HS.out.2.2.2.1.symm;obtain⟨zL,Cp⟩ : ∃ zL,rows[q]? = some zL:=⟨_,g8 (by rw[lE];exact l8)⟩
       have e0:wr.cell? (ad2.add q)=some (.int .i64 zL):=Cx.q8 iQ (z5 ad2 rfl _ _ (by simp[ints,Cp]));have wC:Gs (fun b=>b=E) V wr:=lZ.out.2.1.trans e9.out.2;have me:E < wr.heap.size:=gM HV.out.2.2.2.2.2.2 wC.size;obtain⟨⟨L,GK,_,GL,wP,kP⟩,GM⟩:=H8.out.1;have Jg:Sl wr 3 (.slice v8 n8 c8) (tv (ctm L)):=e9.out.2.sl GK fun Dd n' c' he _ Sx=>by
        cases he
        have h1:=GM Dd.block (by cases Dd;rfl);have h2:=lZ.out.2.2.1;have Sx:Dd.block=E:=Sx;omega
       obtain⟨x,hx⟩ : ∃ x,x=M q k:=⟨_,rfl⟩
       have nh:co (prs (ctm L)) zL=x:=by rw[zv,GL,lf.out.2.2,hx,X6.out,HK.out.1,gO,Cp];rfl
       obtain⟨ix,ni⟩ : ∃ ix:Nat,ix=q*aJ+k:=⟨_,rfl⟩
       have i6:ix < N:=by rw[ni,HE.out.2.2.2.2];have h1:(q+1)*aJ<=er*aJ:=bC _ l8;rw[Nat.add_mul] at h1;omega
       have hmul:(q:Int)*(aJ:Int)<=40000/\0<=(q:Int)*(aJ:Int):=by have h1:q*aJ<=200*200:=Nat.mul_le_mul (by omega) oY;rw[<-Int.natCast_mul];omega
       have ee:(q:Int)*(aJ:Int)+(k:Int)=(ix:Int):=by rw[ni,Int.natCast_add,Int.natCast_mul]
       have rv:=e9.out.1;have hE:∀ w',Below wr.heap.size wr w'->Bx' w' E ix (if ix % aJ < k then M (ix / aJ) (ix % aJ) else if ix % aJ=k/\ix / aJ < q then M (ix / aJ) (ix % aJ) else 0):=fun w' h=>rv.q8 h me ix i6
       obtain⟨od,A4⟩ : ∃ od,od=(if ix % aJ < k then M (ix / aJ) (ix % aJ) else if ix % aJ=k/\ix / aJ < q then M (ix / aJ) (ix % aJ) else 0):=⟨_,rfl⟩
       rw[<-A4] at hE;have HO:=lhd (aiq hx (aiq ni (aiq rv (aiq me (aiq hE (aiq hmul (aiq ee (aiq i6 (aiq e0 (aiq o2 (aiq Jg (aiq wP (aiq kP nh)))))))))))));have ZL:(q:Int) < er:=by omega
       clear hx ni rv me hE hmul ee i6 e0 o2 Jg wP kP nh A4 wC Cp lE z3 z4 z5 GK GL GM iQ;go_upto_region 16 with fail;refine qp4 fun KO M6=>?_
       go_cut [67] from 68 to 81 (fun _ wx=>∃ w',Hid (Below wr.heap.size wr w')/\wx=(w'.setCell ⟨E,ix*2,none⟩ (.bool (decide (x < 0)))).setCell ⟨E,ix*2+1,none⟩ (.string (mg x)))
       case first =>
        rename_i J K2 hJ eu;obtain⟨hx,ni,rv,me,hE,hmul,ee,i6,e0,o2,Jg,wP,kP,nh⟩:=HO.out;refine qra rfl (fun i' v=>∀ x',([some (.pointer (some ⟨pb,2,none⟩)),some (.slice (some ⟨E,0,none⟩) N N),some (.int .i64 q),some (.slice (some ad) aJ c3),some (.int .i64 aJ),some (.int .i64 ((q:Int)*aJ)),some (.int .i64 k),some (.int .i64 ix),some (.slice v8 n8 c8),some (.slice (some ad2) er c2),some (.int .i64 q),some (.pointer (some (ad2.add q))),some (.int .i64 zL),some (wv x),some (.pointer (some ⟨E,ix*2,none⟩))] : List (Option Value)).getD i' none=some x'->v=x') 15 16 83 rfl (by kernel_rfl) (by kernel_rfl) (by decide) (by kernel_rfl) (by kernel_rfl) (fun a w''=>K2 a w'') ?step ?store (fun a w'' h=>h)
        case step =>
         intro i' o ho al a w' hw hd ae ao
         match i',ho,hd with
         | 0,ho,hd =>obtain rfl:=osi ho;exact⟨rfl,gw _,q8b _ _ _ rfl _ (ae 9 (qu (by kernel_rfl))) _ (qdv _ _) ⟨_,rfl,fun _ h=>osi h,Below.refl _ _⟩⟩
         | 1,ho,hd =>obtain rfl:=osi ho;exact⟨rfl,gw _,q8o _ _ rfl _ (hd 0 _ _ rfl rfl (by kernel_rfl) _ rfl) _ (qis _ _ _ _ _ (Cx.q8 hw o2)) ⟨_,rfl,fun _ h=>osi h,Below.refl _ _⟩⟩
         | 2,ho,hd =>obtain rfl:=osi ho;exact⟨rfl,gw _,q1b _ (.inl rfl) ⟨_,rfl,fun _ h=>(ae 13 (qu (by kernel_rfl))).trans (osi h),Below.refl _ _⟩⟩
         | 3,ho,hd =>obtain rfl:=osi ho;exact⟨rfl,gw _,q1b _ (.inl rfl) ⟨_,rfl,fun _ h=>(ae 8 (qu (by kernel_rfl))).trans (osi h),Below.refl _ _⟩⟩
         | 4,ho,hd =>obtain rfl:=osi ho;exact⟨rfl,gw _,qi5 _ rfl Tryz.underlying22 _ aJ c3 (hd 3 _ _ rfl rfl (by kernel_rfl) _ rfl) ⟨_,rfl,fun _ h=>osi h,Below.refl _ _⟩⟩
         | 5,ho,hd =>obtain rfl:=osi ho;exact⟨rfl,gw _,qnf _ _ _ _ _ rfl _ _ (hd 2 _ _ rfl rfl (by kernel_rfl) _ rfl) (hd 4 _ _ rfl rfl (by kernel_rfl) _ rfl) _ rfl (qry _ _ _ (IntWalk.i64_in _ (by omega))) ⟨_,rfl,fun _ h=>osi h,Below.refl _ _⟩⟩
         | 6,ho,hd =>obtain rfl:=osi ho;exact⟨rfl,gw _,q1b _ (.inl rfl) ⟨_,rfl,fun _ h=>(ae 10 (qu (by kernel_rfl))).trans (osi h),Below.refl _ _⟩⟩
         | 7,ho,hd =>obtain rfl:=osi ho;exact⟨rfl,gw _,qnf _ _ _ _ _ rfl _ _ (hd 5 _ _ rfl rfl (by kernel_rfl) _ rfl) (hd 6 _ _ rfl rfl (by kernel_rfl) _ rfl) _ rfl (qrz _ _ _ (IntWalk.i64_in _ (by omega))) ⟨_,rfl,fun _ h=>(congrArg (Value.int .i64) ee).trans (osi h),Below.refl _ _⟩⟩
         | 8,ho,hd =>obtain rfl:=osi ho;exact⟨rfl,gw _,q1b _ (.inl rfl) ⟨_,rfl,fun _ h=>(ae 12 (qu (by kernel_rfl))).trans (osi h),Below.refl _ _⟩⟩
         | 9,ho,hd =>obtain rfl:=osi ho;exact⟨rfl,gw _,q1b _ (.inl rfl) ⟨_,rfl,fun _ h=>(ae 7 (qu (by kernel_rfl))).trans (osi h),Below.refl _ _⟩⟩
         | 10,ho,hd =>obtain rfl:=osi ho;exact⟨rfl,gw _,q1b _ (.inl rfl) ⟨_,rfl,fun _ h=>(ae 13 (qu (by kernel_rfl))).trans (osi h),Below.refl _ _⟩⟩
         | 11,ho,hd =>obtain rfl:=osi ho;exact⟨rfl,gw _,qc9 _ _ _ rfl _ _ (hd 9 _ _ rfl rfl (by kernel_rfl) _ rfl) (hd 10 _ _ rfl rfl (by kernel_rfl) _ rfl) _ (qs7 _ ad2 er c2 q l8) ⟨_,rfl,fun _ h=>osi h,Below.refl _ _⟩⟩
         | 12,ho,hd =>obtain rfl:=osi ho;exact⟨rfl,gw _,q8o _ _ rfl _ (hd 11 _ _ rfl rfl (by kernel_rfl) _ rfl) _ (qe0 _ _ _ (Cx.q8 hw e0)) ⟨_,rfl,fun _ h=>osi h,Below.refl _ _⟩⟩
         | 13,ho,hd =>obtain rfl:=osi ho;have f8:a.tmps.getD 75 undef = .slice v8 n8 c8:=hd 8 _ _ rfl rfl (by kernel_rfl) _ rfl;have f12:a.tmps.getD 79 undef = .int .i64 zL:=hd 12 _ _ rfl rfl (by kernel_rfl) _ rfl;exact⟨rfl,gw _,qdj _ _ _ rfl qrj #[.slice v8 n8 c8,.int .i64 zL] (by simp[Act.eval,f8,f12]) ((qh0 _ (ctm L) zL 10000 _ (Jg.q8 hw) wP (by rw[qz];omega)).mono fun e w6 ⟨he,hb⟩=>⟨_,he,_,rfl,fun _ h=>(congrArg wv nh).trans (osi h),hb⟩)⟩
         | 14,ho,hd =>obtain rfl:=osi ho;exact⟨rfl,gw _,qc9 _ _ _ rfl _ _ (hd 1 _ _ rfl rfl (by kernel_rfl) _ rfl) (hd 7 _ _ rfl rfl (by kernel_rfl) _ rfl) _ (qjr _ _ _ _ _ i6) ⟨_,rfl,fun _ h=>osi h,Below.refl _ _⟩⟩
         | 15,ho,hd=>exact absurd rfl al
         | i'+16,ho,hd =>have:i'+16 < 16:=(gp.1 ho).1;omega
        case store =>intro o ho a w' ao eH hw hf ae;obtain rfl:=osi ho;have f0:a.tmps.getD 81 undef = .pointer (some ⟨E,ix*2,none⟩):=hf 14 _ _ rfl rfl _ rfl;have f1:a.tmps.getD 80 undef=wv x:=hf 13 _ _ rfl rfl _ rfl;refine⟨rfl,qhx _ _ _ rfl _ _ f0 f1 (qjs _ _ _ _ _ _ (hE _ hw).1 (hE _ hw).2.1 (hE _ hw).2.2.1 (hE _ hw).2.2.2) ?_⟩;refine eu _ _ (Met.intro (hJ _ _ ⟨a.tmps.getD 67 undef,a.tmps.getD 68 undef,a.tmps.getD 69 undef,a.tmps.getD 70 undef,a.tmps.getD 71 undef,a.tmps.getD 72 undef,a.tmps.getD 73 undef,a.tmps.getD 74 undef,a.tmps.getD 75 undef,a.tmps.getD 76 undef,a.tmps.getD 77 undef,a.tmps.getD 78 undef,a.tmps.getD 79 undef,a.tmps.getD 80 undef,a.tmps.getD 81 undef,⟨w',lhd hw,rfl⟩,(q8z ao eH ae).trans ?_⟩));kernel_rfl
       case rest =>
        obtain⟨w',Gb,rfl⟩:=hcut;refine M6 _ _ ?_;go_wp2;go_roundw
        case measure=>simp[vI];omega
        case rel =>
         obtain⟨hx,ni,rv,me,hE,hmul,ee,i6,_⟩:=HO.out;have BO:=((rv.q8 Gb.out me).put ix x)
         refine⟨q+1,qh (by omega),by omega,(show Hid _ from⟨BO.congr fun t ht=>?_,?_⟩)⟩
         ·rw[ni,hx];exact qtr hlt M t
         ·have dF:=e9.out.2.trans (Gs.xh Gb.out);exact(dF.setCell rfl _).setCell rfl _
      ·have zB:q=er:=by omega
       subst zB;go_wp2_with fail;go_roundw
       case measure=>simp[vI];omega
       case rel =>
        refine⟨k+1,qh (by omega),by omega,(show Hid _ from⟨e9.out.1.congr fun t ht=>?_,lZ.out.2.1.trans e9.out.2⟩)⟩;by_cases h1:t % aJ < k
        ·rw[if_pos h1,if_pos (by omega)]
        ·by_cases h2:t % aJ=k
         ·rw[if_neg h1,if_pos ⟨h2,Nat.div_lt_of_lt_mul (by rw[Nat.mul_comm,<-HE.out.2.2.2.2];exact ht)⟩,if_pos (by omega)]
         ·rw[if_neg h1,if_neg (fun x=>h2 x.1),if_neg (by omega)]
  ·have bE:k=aJ:=by omega
   subst bE;obtain⟨iQ,r0,r1,r2⟩:=BG.out wr ct.out.2;obtain⟨q0,q1,q2,mz,ft,kY⟩:=HM.out;have ib:Below W.heap.size W wr:=(btr HS.out.2.2.1 iQ);have o0:=Cx.q8 ib q0;have o1:=Cx.q8 ib q1;have o2:=Cx.q8 ib q2;have y0:=qv ib kY (mz 0);have y1:=qv ib kY (mz 1);have y2:=qv ib kY (mz 2);have aO:=lhd (aiq ((btr HG.out.2.1 ib)) ft);have iB:¬ (k:Int) < k:=by omega
   clear q0 q1 q2 mz ft ib iQ kY;go_wp2_with fail;obtain⟨f0,f1,f2⟩:=qks o0 o1 o2 (.int .i64 er) (.int .i64 k) (.slice (some ⟨E,0,none⟩) N N);have BP:¬ (E=ob):=fun e=>by have h1:=HM.out.2.2.2.2.2;have h2:=HS.out.2.2.1.size;have h4:=HE.out.1;omega
   have me:E < wr.heap.size:=gM HV.out.2.2.2.2.2.2 ct.out.2.size;refine bodyPost_ret (v:=.agg #[.int .i64 er,.int .i64 k,.slice (some ⟨E,0,none⟩) N N]) (by simp[results,Tryz.results57,go_sem,f0,f1,f2]) rfl ⟨_,rfl,⟨.slice (some ⟨E,0,none⟩) N N,by rw[<-HS.out.2.2.2.1,<-HS.out.2.2.2.2],?_⟩,((aO.out.1.setCell aO.out.2 _).setCell aO.out.2 _).setCell aO.out.2 _⟩;have hg:Gs (fun b=>b=ob) wr (((wr.setCell ⟨ob,0,none⟩ (.int .i64 er)).setCell ⟨ob,1,none⟩ (.int .i64 k)).setCell ⟨ob,2,none⟩ (.slice (some ⟨E,0,none⟩) N N)):=Gs.setCell (p:=⟨ob,2,none⟩) (Gs.setCell (p:=⟨ob,1,none⟩) (Gs.setCell (p:=⟨ob,0,none⟩) (Gs.refl (fun b=>b=ob) wr) rfl _) rfl _) rfl _;have X8:N<=1000000:=by rw[HE.out.2.2.2.2];exact gl (Nat.mul_le_mul tG oY) (by decide)
   have dK:=((ct.out.1.gs hg BP me).congr (g:=fun t=>M (t / k) (t % k)) fun t ht=>by
    have dH:0 < k:=by
     rcases Nat.eq_zero_or_pos k with h0 | h0
     ·rw[HE.out.2.2.2.2,h0,Nat.mul_zero] at ht;omega
     ·exact h0
    rw[if_pos (Nat.mod_lt _ dH)]).sl X8
   rw[<-HS.out.2.2.2.1,<-HS.out.2.2.2.2,<-HE.out.2.2.2.2];exact dK
end Go.Proofs.YtlhicnfeajejhaaGreatDoor
namespace Go.Proofs.YtlhicnfeajejhaaGreatDoor
open Go.RowKit Go.Cx
theorem qtl {N S:Nat} {v:Value} {w:World} (h:(Fk.cf zz N S).holds v w):∃ a c,v = .slice a 0 c:=by
 obtain⟨L,h1,h2,_,_,h5⟩:=h;have hL:L=[]:=by
  cases L with
  | nil=>rfl
  | cons p L =>have h3:=h1.2 p (by simp);have h4:=zl h1.1 (show p∈p :: L by simp);rw[h2] at h4;exact absurd h4.symm h3
 subst hL;obtain⟨a,n,c,rfl,_,_,h3,_⟩:=h5;have h3:0=n*3:=h3;have:n=0:=by omega
 subst this;exact⟨a,c,rfl⟩
theorem qrv {Q:Exit->Act->World->Prop} {K:Act->World->Prop} {o:Oper} {a:Act} {w:World} (x:Operand) (bJ:o.op = .call { callee:=.builtin .len,args:=#[x],argTypes:=#[32] }) {N S:Nat} (hx:(Fk.cf zz N S).holds (a.eval x) w) (h:K (a.put o.dst (.int .i64 0)) w):Oper.wp Tryz.prog o a w K Q:=by obtain⟨ad,c,he⟩:=qtl hx;exact qi5 x bJ Tryz.underlying32 ad 0 c he h
section
variable (v u:Value) (K:List Cl) (m:List (Int×Int)) (w:World) (h:(Mok.cx K).holds v w) (hK:KOk K) (hl:K.length<=180) (G:Cx.Good K) (hc:chk K=(0,0)) (hm:j8 K m=0) (k:(Mok.prs m).holds u w) (dx:m.length<=1000)
include h hK hl G hc hm k dx
omit hm in
theorem qt9 (d:Int):Calls Tryz.prog 55 #[v,u,.int .i64 d] w (Gvs (.idl (yt K m d)) w):=by
 obtain⟨x,l,rfl,e1,e2⟩:=h;have bL:l.length<=180:=by rw[<-e2,gn] at hl;exact hl
 have hok:=hK.cok e2;refine(qrg x u l m d w e1 (by omega) (fun y hy=>gl (hok y hy).2.1 (by decide)) (by rw[e2];exact G) (by rw[e2];exact hc) k (by omega)).mono ?_;rintro e w' ⟨r,rfl,hr,hb⟩;rw[e2] at hr;exact⟨r,rfl,Sl.qc hr,hb⟩
omit hm in
theorem qtm (c:Int) (iH:I64 c):Calls Tryz.prog 58 #[v,u,.int .i64 c] w (qaj (.cf (upX K m c) 180 5000) w):=by
 obtain⟨x,l,rfl,e1,e2⟩:=h;have bL:l.length<=180:=by rw[<-e2,gn] at hl;exact hl
 have hok:=hK.cok e2;refine(qtq x u l m w e1 (by omega) (fun y hy=>gl (hok y hy).2.1 (by decide)) hok (by rw[e2];exact G) (by rw[e2];exact hc) k (by omega) c iH).mono ?_;rintro e w' ⟨r,M,rfl,hN,bK,hr,cP,dT,hb⟩;rw[e2] at bK cP;have:=qru hK hl hN hr cP dT;rw[bK] at this;exact⟨r,rfl,this,hb⟩
omit hm in
theorem qta (c:Value) (L:List (Int×Int)) (hs:(Mok.ch L).holds c w) (hL:LOk 8 L) (kP:L.length<=30):Calls Tryz.prog 59 #[v,u,c] w (qaj (.cf (q4t K m (co L)) 180 4100) w):=by
 obtain⟨x,l,rfl,e1,e2⟩:=h;have bL:l.length<=180:=by rw[<-e2,gn] at hl;exact hl
 have hok:=hK.cok e2;refine(qt3 x u c l m w e1 (by omega) (fun y hy=>gl (hok y hy).2.1 (by decide)) hok (by rw[e2];exact G) (by rw[e2];exact hc) k (by omega) (ctm L) 8 hs hL.tok (by rw[qz];omega)).mono ?_;rintro e w' ⟨r,M,rfl,hN,bK,hr,cP,dT,hb⟩;rw[e2,zv] at bK;rw[e2] at cP;rw[qz] at dT;have:=qru hK hl hN (Sl.qc hr) cP (S:=4100) fun d=>gl (dT d) (by omega)
 rw[bK] at this;exact⟨r,rfl,this,hb⟩
theorem qtn (d:Int) (hd0 : -1000<=d) (hd1:d<=1000):Calls Tryz.prog 57 #[v,u,.int .i64 d] w (Gvs (.mat (yt K m (d - 1)).length (yt K m d).length (qd0 K m d)) w):=by
 obtain⟨x,l,rfl,e1,e2⟩:=h;have bL:l.length<=180:=by rw[<-e2,gn] at hl;exact hl
 have hok:=hK.cok e2;have:=qsh x u l m w e1 bL (fun y hy=>gl (hok y hy).2.1 (by decide)) hok (by rw[e2];exact G) (by rw[e2];exact hc) (by rw[e2];exact hm) k (by omega) d hd0 hd1;rw[e2] at this;exact this
end
theorem qtb (v u:Value) (K:List Cl) (m:List (Int×Int)) (w:World) (h:(Mok.cx K).holds v w) (hK:KOk K) (hl:K.length<=180) (G:Cx.Good K) (k:(Mok.prs m).holds u w) (hp:∀ p∈m,I64 p.1/\I64 p.2) (c:Value) (L:List (Int×Int)) (hs:(Mok.ch L).holds c w) (hL:LOk 8 L) (kP:L.length<=30) :
  Calls Tryz.prog 51 #[v,u,c] w (qaj (.cf (q4t K m (co L)) 180 4100) w):=by
 obtain⟨x,l,rfl,e1,e2⟩:=h;have bL:l.length<=1000:=by rw[<-e2,gn] at hl;omega
 refine(qm0 x u l m w e1 (by omega) (hK.cok e2) k hp c (ctm L) 8 hs hL.tok (by rw[qz];omega)).mono ?_;rintro e w' ⟨r,M,rfl,hN,bK,hr,cP,dT,hb⟩;rw[e2,zv] at bK;rw[e2,G.cells.1] at cP;rw[qz] at dT;have:=qru hK hl hN (Sl.qc hr) cP (S:=4100) fun d=>gl (dT d) (by omega)
 rw[bK] at this;exact⟨r,rfl,this,hb⟩
theorem qsn (v u:Value) (f:Int->Int) (N S N' S':Nat) (w:World) (h:(Fk.cf f N S).holds v w) (k:(Fk.cf f N' S').holds u w):Calls Tryz.prog 23 #[v,u] w fun e w'=>∃ r,e = .returned r/\r = .bool true/\Below w.heap.size w w' :=
 (qt5 v u f N S N' S' w h k).mono fun _ _ ⟨r,he,hk,hb⟩=>⟨r,he,hk,hb⟩
theorem qtc {K:List Cl} (G:Cx.Good K) (hc:chk K=(0,0)) {m:List (Int×Int)} (hm:j8 K m=0) {p:Int×Int} (hp:p∈m):upX K m p.1=zz/\upX K m p.2=zz:=by
 obtain⟨hi,lo,aC,_,_,rE,dx,_⟩:=qqy G hc hm 0;have h1:pdB hi lo p.1=true:=(qol G aC p.1).2 ⟨p,hp,.inl rfl⟩;have h2:pdB hi lo p.2=true:=(qol G aC p.2).2 ⟨p,hp,.inr rfl⟩;constructor <;> (unfold upX;rw[if_neg];intro hx;rw[rE,dx] at hx)
 ·rw[h1] at hx;cases hx.2.2
 ·rw[h2] at hx;cases hx.2.2
theorem qtd {K:List Cl} (G:Cx.Good K) (m:List (Int×Int)):upX K m (-1)=zz:=by
 unfold upX;rw[if_neg];intro hx;rw[G.cells.1] at hx;obtain⟨x,hx,he⟩:=List.any_eq_true.1 hx.2.1;have he:x.id = -1:=by simpa using he
 have:=G.pos x hx;omega
theorem qr8:∀ args w,(callFunc 55 args).run Tryz.prog w = .ok (.enter 55 args) w:=q7b Tryz.func55 (by kernel_rfl) (by kernel_rfl)
theorem qs8:∀ args w,(callFunc 58 args).run Tryz.prog w = .ok (.enter 58 args) w:=q7b Tryz.func58 (by kernel_rfl) (by kernel_rfl)
theorem qr9:∀ args w,(callFunc 57 args).run Tryz.prog w = .ok (.enter 57 args) w:=q7b Tryz.func57 (by kernel_rfl) (by kernel_rfl)
theorem qto (w:World):(Go.binOp .gtr 3 (.int .i64 0) (.int .i64 0)).run Tryz.prog w = .ok (.bool false) w:=by simp[go_sem]
end Go.Proofs.YtlhicnfeajejhaaGreatDoor
namespace Go.Proofs.YtlhicnfeajejhaaGreatDoor
open Go.RowKit Go.Cx
attribute [local go_sem ↓] Go.wp_at_zero Go.wp_at_succ
theorem qsi (v0 v1 v2:Value) (l ms:List Int) (la:List (Int×Int)) (w:World) (h0:Sl w 1 v0 (ints l)) (h1:Sl w 1 v1 (ints ms)) (h2:Sl w 2 v2 (pv la)) (r2:∀ p∈la,I64 p.1/\I64 p.2) :
  Calls Tryz.prog 8 #[v0,v1,v2] w fun e w'=>e = .returned (.bool true)/\Below w.heap.size w w':=by
 obtain⟨a0,k0,c0,rfl⟩:=qg h0;obtain⟨a1,k1,c1,rfl⟩:=qg h1;obtain⟨a2,k2,c2,rfl⟩:=qg h2;have ig:ms.length=k1:=by obtain⟨_,_,h3,_⟩:=h1.open;rw[xl] at h3;omega
 obtain⟨uo,iK,_⟩:=h1.open;unfold maxLen at iK;have H:=lhd (aiq h0 (aiq h1 (aiq ig (aiq h2 r2))));clear h0 h1 ig h2 r2;go_enter Tryz.func8,Tryz.ntmps8;go_wp2_with fail;refine(qj7 _).mono ?_;rintro e w1 ⟨rfl,ai⟩;have H1:=lhd ai;clear ai;go_wp2_with fail;refine(qai _ l _ (H.out.1.q8 H1.out)).mono ?_;rintro e w2 ⟨r,m,rfl,hm,hR,aj⟩;obtain⟨ua,uc,AD⟩:=qj hR.1;subst AD;have aw:Below w.heap.size w w2:=(btr H1.out aj);obtain⟨K,hK⟩ : ∃ K,K=q25 l:=⟨_,rfl⟩
 have hok:=qht l;have hG:=qcx l;have cJ:=q8a l;rw[<-hK] at hok hG cJ hm;have dx:m.length<=180:=by have:=congrArg List.length hm;rw[gn] at this;have:=hok.2.2;omega
 have HC:=lhd (aiq hm (aiq hR.slc (aiq aw (aiq hok (aiq hG (aiq cJ dx))))));clear hm hR aj aw hK hok hG cJ dx;go_upto_region 3 with fail;obtain⟨W0,l9⟩ : ∃ W0,W0=w2.alloc (.cells #[.slice ua m.length uc] 26):=⟨_,rfl⟩
 obtain⟨q,hq⟩ : ∃ q,q=w2.heap.size:=⟨_,rfl⟩
 rw[<-l9,<-hq];have cW:Below w2.heap.size w2 W0:=by rw[l9];exact bal w2 _
 have bq:Bv W0 q (.slice ua m.length uc):=by rw[l9,hq];exact Bv.new w2 _ _
 have cq:=bq.1;have Sy:∀ x∈m,x.cl∈K:=fun x hx=>by rw[<-HC.out.1];exact gG hx
 have Nk:∀ x∈m,x.s.length<=1099511627776:=fun x hx=>gl (HC.out.2.2.2.1.1 x.cl (Sy x hx)).2.1 (by decide)
 have bI:Below w.heap.size w W0:=(btr HC.out.2.2.1 cW);obtain⟨n3,oe⟩ : ∃ n3,n3=min k1 30:=⟨_,rfl⟩
 have X9:min (k1:Int) 30=(n3:Int):=by rw[oe];omega
 have XA:(n3:Int)<=c1:=by omega
 have XB:n3<=30:=by omega
 have zM:∀ U,Below W0.heap.size W0 U->Calls Tryz.prog 44 #[.agg #[.slice ua m.length uc],.slice a1 n3 c1] U fun e w'=>∃ r M,e = .returned r/\M.length<=30/\j8 K M=0/\w'.ownsRow U.heap.size 50 2 r M.length (pv M)/\Below U.heap.size U w':=fun U hU=>by
  have hs:Sl U 1 (.slice a1 n3 c1) (ints (ms.take n3)):=by have:=((H.out.2.1.q8 bI).q8 hU).take (k:=n3) (by omega);rw[gL,<-q49] at this;exact this
  refine(qor _ _ m (ms.take n3) U ((HC.out.2.1.q8 cW).q8 hU) (by have:=HC.out.2.2.2.2.2.2;omega) Nk (by rw[HC.out.1];exact HC.out.2.2.2.2.1) (by rw[HC.out.1];exact HC.out.2.2.2.2.2.1) hs (by rw[gd];omega)).mono ?_;rintro e w' ⟨r,M,rfl,h1,h2,h3,h4⟩;rw[HC.out.1] at h2;exact⟨r,M,rfl,by rw[gd] at h1;omega,h2,h3,h4⟩
 have H0:=lhd (aiq cW (aiq bq (aiq bI zM)));have B8:Below W0.heap.size W0 W0.drew:=qb (Below.refl _ W0) 1;clear l9 hq cW bq Sy Nk bI oe zM
 go_region_held_law (fun U=>U.cell? ⟨q,0,none⟩=some (.slice ua m.length uc)) (first | exact Cx.q8 B8 cq | exact Cx.q8 B9 cq | fail)
  (first | (go_at_call 44;refine(H0.out.2.2.2 _ B8).mono ?_;rintro e w5 ⟨r5,M,rfl,N5,Dk,aZ,cU⟩;have B9:Below W0.heap.size W0 w5:=(btr B8 cU)))
 obtain⟨a5,c5,N6⟩:=qj aZ;subst N6;obtain⟨nM,N7⟩ : ∃ nM,nM=M.length:=⟨_,rfl⟩
 have Jh:=Sl.qc aZ;rw[<-N7] at Jh ⊢;have hI:=qjt HC.out.2.2.2.2.1 HC.out.2.2.2.1.1 Dk;have hE:=qt0 HC.out.2.2.2.2.1 HC.out.2.2.2.2.2.1 Dk;have C0:Hid (Twi w w5 q (.slice ua m.length uc) (.slice a5 nM c5) K M):=⟨H0.out.2.1.q8 B9,⟨_,m,rfl,(HC.out.2.1.q8 H0.out.1).q8 B9,HC.out.1⟩,Jh,(btr H0.out.2.2.1 B9)⟩
 have HK:Hid (KOk K/\K.length<=180/\Cx.Good K/\chk K=(0,0)/\(∀ p∈M,I64 p.1/\I64 p.2)/\j8 K M=0/\opE K M=0/\M.length<=1000):=⟨HC.out.2.2.2.1.1,HC.out.2.2.2.1.2.2,HC.out.2.2.2.2.1,HC.out.2.2.2.2.2.1,hI,Dk,hE,by omega⟩
 have XC:=lhd N7;obtain⟨ZM,N8,_⟩:=Jh.open;unfold maxLen at N8;clear aZ Jh hI Dk B9 B8 cU N7 N5 cq hE;go_wp2_with fail;go_loopg [10] 6 (fun g i wr=>∃ d:Nat,d+g=6/\i = .int .i64 ((d:Int) - 1)/\Hid (Twi w wr q (.slice ua m.length uc) (.slice a5 nM c5) K M))
 case atStart=>exact⟨0,rfl,qh (by omega),C0.out⟩
 case round =>
  obtain⟨d,XD,rfl,HE⟩:=hrel;obtain⟨dd,da⟩ : ∃ dd:Int,dd=(d:Int) - 1:=⟨_,rfl⟩
  rw[<-da];cases gk with
  | zero =>
   have OK:¬ dd < 5:=by omega
   have dJ:=lhd da;clear da XD;have b0:=HE.out.bv.1;go_wp2_with fail;refine(qml _ la wr (H.out.2.2.2.1.q8 HE.out.bl) H.out.2.2.2.2).mono ?_;rintro e N9 ⟨ZN,rfl,wQ,GN⟩;obtain⟨LA,Ji⟩ : ∃ LA,LA=la.take 30:=⟨_,rfl⟩
   rw[<-Ji] at wQ;have GO:LOk 8 LA:=by rw[Ji];exact qqw H.out.2.2.2.2
   have kP:LA.length<=30:=by rw[Ji,gd];omega
   obtain⟨xa,xn,xc,rfl⟩:=qg (Sl.qc wQ);have HX:=lhd (aiq (show (Mok.ch LA).holds (.slice xa xn xc) N9 from Sl.qc wQ) (aiq GO kP));have XE:=lhd (HE.out.q8 GN);obtain⟨n2,iA⟩ : ∃ n2,n2=min nM 2:=⟨_,rfl⟩
   have Sz:min (nM:Int) 2=(n2:Int):=by rw[iA];omega
   have XF:(n2:Int)<=c5:=by omega
   have XG:n2<=nM:=by omega
   have K8:=lhd iA;clear wQ Ji GO kP GN b0 iA;go_wp2_with fail;go_loopg [85] n2 (fun g i wx=>∃ t:Nat,t+g=n2/\i = .int .i64 t/\Hid (Below N9.heap.size N9 wx))
   case atStart=>exact⟨0,by omega,rfl,(show Hid _ from Below.refl _ _)⟩
   case round =>
    obtain⟨t,XH,rfl,HT⟩:=hrel;have ET:=lhd (XE.out.q8 HT.out);cases gk with
    | zero =>
     have NA:t=n2:=by omega
     have NB:¬ ((t:Int) < (n2:Int)):=by omega
     go_upto_region 23 with fail
     go_cut [6] from 104 to 122 (fun x wx=>x=Value.bool true/\Hid (Below wr.heap.size wr wx))
     case first =>
      rename_i J K2 hJ eu;have jY:=ET.out.bv;have kL:=ET.out.cx;have fF:=ET.out.pr;have hK:=HK.out.1;have fQ:=HK.out.2.1;have hG:=HK.out.2.2.1;have cJ:=HK.out.2.2.2.1;have hI:=HK.out.2.2.2.2.1;have na:=HK.out.2.2.2.2.2.2.2;have hxa:=Mok.q8 (k:=.ch LA) HX.out.1 HT.out;have GO:=HX.out.2.1;have kP:=HX.out.2.2;have sL:=qtd hG M;refine q1a rfl (fun i v w=>(([.val (.bool true),.val (.bool true),.mok (.cx K),.mok (.prs M),.mok (.ch LA),.fk (.cf (q4t K M (co LA)) 180 4100),.mok (.cx K),.mok (.prs M),.mok (.ch LA),.fk (.cf (q4t K M (co LA)) 180 4100),.val (.bool true),.val (.bool true),.val (.bool true),.mok (.cx K),.mok (.prs M),.fk (.cf zz 180 5000),.val (.int .i64 0),.val (.bool true),.val (.bool true),.val (.bool true)] : List KP).getD i .any).p v w) 123 rfl (by kernel_rfl) (by kernel_rfl) (fun i v w w' h hb=>KP.q8 _ _ _ _ h hb) ?step ?done
      case step =>
       intro i o ho a w' hw hd ae ao
       match i,ho,hd with
       | 0,ho,hd =>obtain rfl:=osi ho;exact⟨rfl,xi _ (.inl rfl) (ae 7 (qu (by kernel_rfl)))⟩
       | 1,ho,hd =>obtain rfl:=osi ho;exact⟨rfl,xi _ (.inl rfl) (hd 0 _ _ rfl rfl (by kernel_rfl))⟩
       | 2,ho,hd =>obtain rfl:=osi ho;exact⟨qn 1 105 rfl rfl (by rw[ao];decide) (hd 1 _ _ rfl rfl (by kernel_rfl)),qh1 _ _ rfl _ (ae 8 (qu (by kernel_rfl))) _ (ldK (jY.q8 hw)) (Mok.q8 (k:=.cx K) kL hw)⟩
       | 3,ho,hd =>obtain rfl:=osi ho;exact⟨qn 1 105 rfl rfl (by rw[ao];decide) (hd 1 _ _ rfl rfl (by kernel_rfl)),xi _ (.inl rfl) (by show (.mok (.prs M):KP).p (a.tmps.getD 9 undef) w';rw[ae 9 (qu (by kernel_rfl))];exact Mok.q8 (k:=.prs M) fF hw)⟩
       | 4,ho,hd =>obtain rfl:=osi ho;exact⟨qn 1 105 rfl rfl (by rw[ao];decide) (hd 1 _ _ rfl rfl (by kernel_rfl)),xi _ (.inl rfl) (by show (.mok (.ch LA):KP).p (a.tmps.getD 15 undef) w';rw[ae 15 (qu (by kernel_rfl))];exact Mok.q8 (k:=.ch LA) hxa hw)⟩
       | 5,ho,hd =>obtain rfl:=osi ho;exact⟨qn 1 105 rfl rfl (by rw[ao];decide) (hd 1 _ _ rfl rfl (by kernel_rfl)),qg9 _ _ _ rfl q36 #[a.tmps.getD 106 undef,a.tmps.getD 107 undef,a.tmps.getD 108 undef] (by simp[Act.eval]) (qtb _ _ K M _ (hd 2 _ _ rfl rfl (by kernel_rfl)) hK fQ hG (hd 3 _ _ rfl rfl (by kernel_rfl)) hI _ LA (hd 4 _ _ rfl rfl (by kernel_rfl)) GO kP)⟩
       | 6,ho,hd =>obtain rfl:=osi ho;exact⟨qn 1 105 rfl rfl (by rw[ao];decide) (hd 1 _ _ rfl rfl (by kernel_rfl)),qh1 _ _ rfl _ (ae 8 (qu (by kernel_rfl))) _ (ldK (jY.q8 hw)) (Mok.q8 (k:=.cx K) kL hw)⟩
       | 7,ho,hd =>obtain rfl:=osi ho;exact⟨qn 1 105 rfl rfl (by rw[ao];decide) (hd 1 _ _ rfl rfl (by kernel_rfl)),xi _ (.inl rfl) (by show (.mok (.prs M):KP).p (a.tmps.getD 9 undef) w';rw[ae 9 (qu (by kernel_rfl))];exact Mok.q8 (k:=.prs M) fF hw)⟩
       | 8,ho,hd =>obtain rfl:=osi ho;exact⟨qn 1 105 rfl rfl (by rw[ao];decide) (hd 1 _ _ rfl rfl (by kernel_rfl)),xi _ (.inl rfl) (by show (.mok (.ch LA):KP).p (a.tmps.getD 15 undef) w';rw[ae 15 (qu (by kernel_rfl))];exact Mok.q8 (k:=.ch LA) hxa hw)⟩
       | 9,ho,hd =>obtain rfl:=osi ho;exact⟨qn 1 105 rfl rfl (by rw[ao];decide) (hd 1 _ _ rfl rfl (by kernel_rfl)),qg9 _ _ _ rfl qr3 #[a.tmps.getD 110 undef,a.tmps.getD 111 undef,a.tmps.getD 112 undef] (by simp[Act.eval]) (qta _ _ K M _ (hd 6 _ _ rfl rfl (by kernel_rfl)) hK fQ hG cJ (hd 7 _ _ rfl rfl (by kernel_rfl)) na _ LA (hd 8 _ _ rfl rfl (by kernel_rfl)) GO kP)⟩
       | 10,ho,hd =>obtain rfl:=osi ho;exact⟨qn 1 105 rfl rfl (by rw[ao];decide) (hd 1 _ _ rfl rfl (by kernel_rfl)),qg9 _ _ _ rfl q0u #[a.tmps.getD 109 undef,a.tmps.getD 113 undef] (by simp[Act.eval]) (qsn _ _ _ _ _ _ _ _ (hd 5 _ _ rfl rfl (by kernel_rfl)) (hd 9 _ _ rfl rfl (by kernel_rfl)))⟩
       | 11,ho,hd =>obtain rfl:=osi ho;exact⟨rfl,qs1 _ _ _ rfl (hd 1 _ _ rfl rfl (by kernel_rfl)) (hd 10 _ _ rfl rfl (by kernel_rfl))⟩
       | 12,ho,hd =>obtain rfl:=osi ho;exact⟨rfl,xi _ (.inl rfl) (hd 11 _ _ rfl rfl (by kernel_rfl))⟩
       | 13,ho,hd =>obtain rfl:=osi ho;exact⟨qn 12 116 rfl rfl (by rw[ao];decide) (hd 12 _ _ rfl rfl (by kernel_rfl)),qh1 _ _ rfl _ (ae 8 (qu (by kernel_rfl))) _ (ldK (jY.q8 hw)) (Mok.q8 (k:=.cx K) kL hw)⟩
       | 14,ho,hd =>obtain rfl:=osi ho;exact⟨qn 12 116 rfl rfl (by rw[ao];decide) (hd 12 _ _ rfl rfl (by kernel_rfl)),xi _ (.inl rfl) (by show (.mok (.prs M):KP).p (a.tmps.getD 9 undef) w';rw[ae 9 (qu (by kernel_rfl))];exact Mok.q8 (k:=.prs M) fF hw)⟩
       | 15,ho,hd =>obtain rfl:=osi ho;exact⟨qn 12 116 rfl rfl (by rw[ao];decide) (hd 12 _ _ rfl rfl (by kernel_rfl)),qg9 _ _ _ rfl qbg #[a.tmps.getD 117 undef,a.tmps.getD 118 undef,.int .i64 (-1)] (by simp[Act.eval]) (by rw[<-sL];exact qt8 _ _ K M _ (hd 13 _ _ rfl rfl (by kernel_rfl)) hK fQ hG (hd 14 _ _ rfl rfl (by kernel_rfl)) hI (-1) ⟨by decide,by decide⟩)⟩
       | 16,ho,hd =>obtain rfl:=osi ho;exact⟨qn 12 116 rfl rfl (by rw[ao];decide) (hd 12 _ _ rfl rfl (by kernel_rfl)),qrv _ rfl (hd 15 _ _ rfl rfl (by kernel_rfl)) ⟨_,rfl,rfl,Below.refl _ _⟩⟩
       | 17,ho,hd =>obtain rfl:=osi ho;exact⟨qn 12 116 rfl rfl (by rw[ao];decide) (hd 12 _ _ rfl rfl (by kernel_rfl)),qnf _ _ _ _ _ rfl _ _ (hd 16 _ _ rfl rfl (by kernel_rfl)) rfl _ rfl (qbj _ _ _ (.inl rfl)) ⟨_,rfl,rfl,Below.refl _ _⟩⟩
       | 18,ho,hd =>obtain rfl:=osi ho;exact⟨rfl,qs1 _ _ _ rfl (hd 12 _ _ rfl rfl (by kernel_rfl)) (hd 17 _ _ rfl rfl (by kernel_rfl))⟩
       | 19,ho,hd =>obtain rfl:=osi ho;exact⟨rfl,xi _ (.inr rfl) (hd 18 _ _ rfl rfl (by kernel_rfl))⟩
       | i+20,ho,hd =>have:i+20 < 20:=(gp.1 ho).1;omega
      case done =>intro a w7 ao eH hf ae hw;have ht:a.tmps.getD 6 undef = .bool true:=hf 19 _ _ rfl rfl;refine eu _ _ (Met.intro (hJ _ _ ⟨a.tmps.getD 6 undef,a.tmps.getD 104 undef,a.tmps.getD 105 undef,a.tmps.getD 106 undef,a.tmps.getD 107 undef,a.tmps.getD 108 undef,a.tmps.getD 109 undef,a.tmps.getD 110 undef,a.tmps.getD 111 undef,a.tmps.getD 112 undef,a.tmps.getD 113 undef,a.tmps.getD 114 undef,a.tmps.getD 115 undef,a.tmps.getD 116 undef,a.tmps.getD 117 undef,a.tmps.getD 118 undef,a.tmps.getD 119 undef,a.tmps.getD 120 undef,a.tmps.getD 121 undef,a.tmps.getD 122 undef,⟨ht,lhd hw⟩,(q8z ao eH ae).trans ?_⟩));kernel_rfl
     case rest =>obtain⟨rfl,HZ⟩:=hcut;go_wp2_with fail;go_ret;exact⟨rfl,(btr ET.out.bl HZ.out)⟩
    | succ gt =>
     have NA:t < n2:=by omega
     have NB:(t:Int) < (n2:Int):=by omega
     obtain⟨⟨p0,p1⟩,hp⟩ : ∃ p,M[t]? = some p:=⟨_,g8 (by rw[<-XC.out];omega)⟩
     have S7:Sl wr 2 (.slice a5 nM c5) (pv M):=ET.out.pr;obtain⟨_,_,_,y4,y5⟩:=S7.open;obtain⟨ad,cu⟩:=sadq y4 (by omega)
     subst cu;obtain⟨x0,x1⟩:=kv M t _ hp;have d0:wr.cell? (ad.add (t*2))=some (.int .i64 p0):=y5 ad rfl _ _ x0;have d1:wr.cell? ⟨(ad.add (t*2)).block,(ad.add (t*2)).off+1,none⟩=some (.int .i64 p1):=by rw[qi _ _ _ (by omega)];exact y5 ad rfl _ _ x1
     have nk:=gh hp;have hu:=qtc HK.out.2.2.1 HK.out.2.2.2.1 HK.out.2.2.2.2.2.1 nk;have hpI:=HK.out.2.2.2.2.1 _ nk;have HP:=lhd (aiq hu hpI);clear hp S7 y4 y5 x0 x1 nk hu hpI;go_upto_region 20 with fail;obtain⟨V,hV⟩ : ∃ V,V=wr.alloc (.cells #[.int .i64 p0,.int .i64 p1] 50):=⟨_,rfl⟩
     obtain⟨pb,mF⟩ : ∃ pb,pb=wr.heap.size:=⟨_,rfl⟩
     have aN:Below wr.heap.size wr V:=by rw[hV];exact bal wr _
     have z0:V.cell? ⟨pb,0,none⟩=some (.int .i64 p0):=by rw[hV,mF];exact qd wr _ _ (0,0) 0
     have z1:V.cell? ⟨pb,1,none⟩=some (.int .i64 p1):=by rw[hV,mF];exact qd wr _ _ (0,0) 1
     rw[<-mF,<-hV];have HV:=lhd (aiq z0 (aiq z1 (aiq (ET.out.q8 aN) ((btr HT.out aN)))));clear hV mF aN z0 z1 d0 d1
     go_cut [102] from 89 to 101 (fun x wx=>x=Value.bool false/\Hid (Below V.heap.size V wx))
     case first =>
      rename_i J K2 hJ eu;have z0:=HV.out.1;have z1:=HV.out.2.1;have jY:=HV.out.2.2.1.bv;have kL:=HV.out.2.2.1.cx;have fF:=HV.out.2.2.1.pr;have hK:=HK.out.1;have fQ:=HK.out.2.1;have hG:=HK.out.2.2.1;have hI:=HK.out.2.2.2.2.1;have XI:=HP.out.1.1;have XJ:=HP.out.1.2;have hi0:=HP.out.2.1;have hi1:=HP.out.2.2;refine q1a rfl (fun i v w=>(([.mok (.cx K),.mok (.prs M),.val (.pointer (some ⟨pb,0,none⟩)),.val (.int .i64 p0),.fk (.cf zz 180 5000),.val (.int .i64 0),.mok (.cx K),.mok (.prs M),.val (.pointer (some ⟨pb,1,none⟩)),.val (.int .i64 p1),.fk (.cf zz 180 5000),.val (.int .i64 0),.val (.int .i64 0),.val (.bool false)] : List KP).getD i .any).p v w) 123 rfl (by kernel_rfl) (by kernel_rfl) (fun i v w w' h hb=>KP.q8 _ _ _ _ h hb) ?step ?done
      case step =>
       intro i o ho a w' hw hd ae ao
       match i,ho,hd with
       | 0,ho,hd =>obtain rfl:=osi ho;exact⟨rfl,qh1 _ _ rfl _ (ae 8 (qu (by kernel_rfl))) _ (ldK (jY.q8 hw)) (Mok.q8 (k:=.cx K) kL hw)⟩
       | 1,ho,hd =>obtain rfl:=osi ho;exact⟨rfl,xi _ (.inl rfl) (by show (.mok (.prs M):KP).p (a.tmps.getD 9 undef) w';rw[ae 9 (qu (by kernel_rfl))];exact Mok.q8 (k:=.prs M) fF hw)⟩
       | 2,ho,hd =>obtain rfl:=osi ho;exact⟨rfl,qc9 _ _ _ rfl _ _ (ae 17 (qu (by kernel_rfl))) rfl _ (qr5 _ pb 0 (by decide)) ⟨_,rfl,rfl,Below.refl _ _⟩⟩
       | 3,ho,hd =>obtain rfl:=osi ho;exact⟨rfl,qh1 _ _ rfl _ (hd 2 _ _ rfl rfl (by kernel_rfl)) _ (qe0 _ _ _ (Cx.q8 hw z0)) (rfl)⟩
       | 4,ho,hd =>obtain rfl:=osi ho;have f3:a.tmps.getD 92 undef = .int .i64 p0:=hd 3 _ _ rfl rfl (by kernel_rfl);exact⟨rfl,qg9 _ _ _ rfl qbg #[a.tmps.getD 89 undef,a.tmps.getD 90 undef,.int .i64 p0] (by rw[<-f3];simp[Act.eval]) (by rw[<-XI];exact qt8 _ _ K M _ (hd 0 _ _ rfl rfl (by kernel_rfl)) hK fQ hG (hd 1 _ _ rfl rfl (by kernel_rfl)) hI p0 hi0)⟩
       | 5,ho,hd =>obtain rfl:=osi ho;exact⟨rfl,qrv _ rfl (hd 4 _ _ rfl rfl (by kernel_rfl)) ⟨_,rfl,rfl,Below.refl _ _⟩⟩
       | 6,ho,hd =>obtain rfl:=osi ho;exact⟨rfl,qh1 _ _ rfl _ (ae 8 (qu (by kernel_rfl))) _ (ldK (jY.q8 hw)) (Mok.q8 (k:=.cx K) kL hw)⟩
       | 7,ho,hd =>obtain rfl:=osi ho;exact⟨rfl,xi _ (.inl rfl) (by show (.mok (.prs M):KP).p (a.tmps.getD 9 undef) w';rw[ae 9 (qu (by kernel_rfl))];exact Mok.q8 (k:=.prs M) fF hw)⟩
       | 8,ho,hd =>obtain rfl:=osi ho;exact⟨rfl,qc9 _ _ _ rfl _ _ (ae 17 (qu (by kernel_rfl))) rfl _ (qr5 _ pb 1 (by decide)) ⟨_,rfl,rfl,Below.refl _ _⟩⟩
       | 9,ho,hd =>obtain rfl:=osi ho;exact⟨rfl,qh1 _ _ rfl _ (hd 8 _ _ rfl rfl (by kernel_rfl)) _ (qe0 _ _ _ (Cx.q8 hw z1)) (rfl)⟩
       | 10,ho,hd =>obtain rfl:=osi ho;have f9:a.tmps.getD 98 undef = .int .i64 p1:=hd 9 _ _ rfl rfl (by kernel_rfl);exact⟨rfl,qg9 _ _ _ rfl qbg #[a.tmps.getD 95 undef,a.tmps.getD 96 undef,.int .i64 p1] (by rw[<-f9];simp[Act.eval]) (by rw[<-XJ];exact qt8 _ _ K M _ (hd 6 _ _ rfl rfl (by kernel_rfl)) hK fQ hG (hd 7 _ _ rfl rfl (by kernel_rfl)) hI p1 hi1)⟩
       | 11,ho,hd =>obtain rfl:=osi ho;exact⟨rfl,qrv _ rfl (hd 10 _ _ rfl rfl (by kernel_rfl)) ⟨_,rfl,rfl,Below.refl _ _⟩⟩
       | 12,ho,hd =>obtain rfl:=osi ho;exact⟨rfl,qnf _ _ _ _ _ rfl _ _ (hd 5 _ _ rfl rfl (by kernel_rfl)) (hd 11 _ _ rfl rfl (by kernel_rfl)) _ rfl (qpn _) ⟨_,rfl,rfl,Below.refl _ _⟩⟩
       | 13,ho,hd =>obtain rfl:=osi ho;exact⟨rfl,qnf _ _ _ _ _ rfl _ _ (hd 12 _ _ rfl rfl (by kernel_rfl)) rfl _ rfl (qto _) ⟨_,rfl,rfl,Below.refl _ _⟩⟩
       | i+14,ho,hd =>have:i+14 < 14:=(gp.1 ho).1;omega
      case done =>intro a w7 ao eH hf ae hw;have ht:a.tmps.getD 102 undef = .bool false:=hf 13 _ _ rfl rfl;refine eu _ _ (Met.intro (hJ _ _ ⟨a.tmps.getD 89 undef,a.tmps.getD 90 undef,a.tmps.getD 91 undef,a.tmps.getD 92 undef,a.tmps.getD 93 undef,a.tmps.getD 94 undef,a.tmps.getD 95 undef,a.tmps.getD 96 undef,a.tmps.getD 97 undef,a.tmps.getD 98 undef,a.tmps.getD 99 undef,a.tmps.getD 100 undef,a.tmps.getD 101 undef,a.tmps.getD 102 undef,⟨ht,lhd hw⟩,(q8z ao eH ae).trans ?_⟩));kernel_rfl
     case rest =>
      obtain⟨rfl,HZ⟩:=hcut;go_wp2_with fail;go_roundg gt
      case measure=>omega
      case rel=>exact⟨t+1,by omega,qh (by omega),(show Hid _ from (btr HV.out.2.2.2 HZ.out))⟩
  | succ gk =>
   have OK:dd < 5:=by omega
   have hd0 : -1000<=dd:=by omega
   have hd1:dd<=1000:=by omega
   have qP:IntKind.i64.wrap (dd+1)=dd+1:=IntWalk.i64_in _ (by omega);have dJ:=lhd da;clear da;obtain⟨C,hC⟩ : ∃ C,C=yt K M dd:=⟨_,rfl⟩
   have S8:=lhd hC;clear hC;go_upto_region 7 with fail
   go_cut [11,12] from 32 to 39 (fun x y wx=>(∃ a n c,x=Value.slice a n c)/\(∃ a n c,y=Value.slice a n c)/\Hid ((Mok.idl C).holds x wx/\(Mok.idl C).holds y wx/\Below wr.heap.size wr wx))
   case first =>
    rename_i J K2 hJ eu;have jY:=HE.out.bv;have kL:=HE.out.cx;have fF:=HE.out.pr;have hK:=HK.out.1;have fQ:=HK.out.2.1;have wB:K.length<=1000:=by have:=HK.out.2.1;omega
    have hG:=HK.out.2.2.1;have cJ:=HK.out.2.2.2.1;have hI:=HK.out.2.2.2.2.1;have na:=HK.out.2.2.2.2.2.2.2;have hC:=S8.out;refine q1a rfl (fun i v w=>(([.mok (.cx K),.mok (.prs M),.val (.int .i64 dd),.mok (.idl C),.mok (.cx K),.mok (.prs M),.val (.int .i64 dd),.mok (.idl C),.mok (.idl C),.mok (.idl C)] : List KP).getD i .any).p v w) 123 rfl (by kernel_rfl) (by kernel_rfl) (fun i v w w' h hb=>KP.q8 _ _ _ _ h hb) ?step ?done
    case step =>
     intro i o ho a w' hw hd ae ao
     match i,ho,hd with
     | 0,ho,hd =>obtain rfl:=osi ho;exact⟨rfl,qh1 _ _ rfl _ (ae 8 (qu (by kernel_rfl))) _ (ldK (jY.q8 hw)) (Mok.q8 (k:=.cx K) kL hw)⟩
     | 1,ho,hd =>obtain rfl:=osi ho;exact⟨rfl,xi _ (.inl rfl) (by show (.mok (.prs M):KP).p (a.tmps.getD 9 undef) w';rw[ae 9 (qu (by kernel_rfl))];exact Mok.q8 (k:=.prs M) fF hw)⟩
     | 2,ho,hd =>obtain rfl:=osi ho;exact⟨rfl,xi _ (.inl rfl) (ae 10 (qu (by kernel_rfl)))⟩
     | 3,ho,hd =>obtain rfl:=osi ho;have f2:a.tmps.getD 34 undef = .int .i64 dd:=hd 2 _ _ rfl rfl (by kernel_rfl);exact⟨rfl,qg9 _ _ _ rfl je #[a.tmps.getD 32 undef,a.tmps.getD 33 undef,.int .i64 dd] (by rw[<-f2];simp[Act.eval]) (by rw[hC];exact qbf _ _ K M _ (hd 0 _ _ rfl rfl (by kernel_rfl)) hK wB (hd 1 _ _ rfl rfl (by kernel_rfl)) hI dd _ rfl)⟩
     | 4,ho,hd =>obtain rfl:=osi ho;exact⟨rfl,qh1 _ _ rfl _ (ae 8 (qu (by kernel_rfl))) _ (ldK (jY.q8 hw)) (Mok.q8 (k:=.cx K) kL hw)⟩
     | 5,ho,hd =>obtain rfl:=osi ho;exact⟨rfl,xi _ (.inl rfl) (by show (.mok (.prs M):KP).p (a.tmps.getD 9 undef) w';rw[ae 9 (qu (by kernel_rfl))];exact Mok.q8 (k:=.prs M) fF hw)⟩
     | 6,ho,hd =>obtain rfl:=osi ho;exact⟨rfl,xi _ (.inl rfl) (ae 10 (qu (by kernel_rfl)))⟩
     | 7,ho,hd =>obtain rfl:=osi ho;have f6:a.tmps.getD 38 undef = .int .i64 dd:=hd 6 _ _ rfl rfl (by kernel_rfl);exact⟨rfl,qg9 _ _ _ rfl qr8 #[a.tmps.getD 36 undef,a.tmps.getD 37 undef,.int .i64 dd] (by rw[<-f6];simp[Act.eval]) (by rw[hC];exact qt9 _ _ K M _ (hd 4 _ _ rfl rfl (by kernel_rfl)) hK fQ hG cJ (hd 5 _ _ rfl rfl (by kernel_rfl)) na dd)⟩
     | 8,ho,hd =>obtain rfl:=osi ho;exact⟨rfl,xi _ (.inr rfl) (hd 3 _ _ rfl rfl (by kernel_rfl))⟩
     | 9,ho,hd =>obtain rfl:=osi ho;exact⟨rfl,xi _ (.inr rfl) (hd 7 _ _ rfl rfl (by kernel_rfl))⟩
     | i+10,ho,hd =>have:i+10 < 10:=(gp.1 ho).1;omega
    case done =>intro a w7 ao eH hf ae hw;have EB:(Mok.idl C).holds (a.tmps.getD 11 undef) w7:=hf 8 _ _ rfl rfl;have AF:(Mok.idl C).holds (a.tmps.getD 12 undef) w7:=hf 9 _ _ rfl rfl;refine eu _ _ (Met.intro (hJ _ _ ⟨a.tmps.getD 11 undef,a.tmps.getD 12 undef,a.tmps.getD 32 undef,a.tmps.getD 33 undef,a.tmps.getD 34 undef,a.tmps.getD 35 undef,a.tmps.getD 36 undef,a.tmps.getD 37 undef,a.tmps.getD 38 undef,a.tmps.getD 39 undef,⟨qg EB,qg AF,lhd ⟨EB,AF,hw⟩⟩,(q8z ao eH ae).trans ?_⟩));kernel_rfl
   case rest =>
    obtain⟨⟨xa,xn,xc,rfl⟩,⟨ya,yn,yc,rfl⟩,HY⟩:=hcut;obtain⟨w7,XK⟩ : ∃ w7,w7=wc:=⟨_,rfl⟩
    subst XK;have E7:=lhd (HE.out.q8 HY.out.2.2);go_upto_region 8 with fail
    go_cut [55] from 40 to 54 (fun x wx=>x=Value.bool false/\Hid (Below w7.heap.size w7 wx))
    case first =>
     rename_i J K2 hJ eu;have jY:=E7.out.bv;have kL:=E7.out.cx;have fF:=E7.out.pr;have eA:=HY.out.1;have iU:=HY.out.2.1;have hK:=HK.out.1;have fQ:=HK.out.2.1;have hG:=HK.out.2.2.1;have cJ:=HK.out.2.2.2.1;have hI:=HK.out.2.2.2.2.1;have Dk:=HK.out.2.2.2.2.2.1;have hE:=HK.out.2.2.2.2.2.2.1;have na:=HK.out.2.2.2.2.2.2.2;obtain⟨r1,cQ⟩ : ∃ n,n=(yt K M (dd - 1)).length:=⟨_,rfl⟩
     obtain⟨r2,cC⟩ : ∃ n,n=(yt K M dd).length:=⟨_,rfl⟩
     obtain⟨LB,NC⟩ : ∃ L,L=qd0 K M dd:=⟨_,rfl⟩
     have fH:r1<=200:=by have:=qqp hG M (dd - 1);omega
     have ml:r2<=200:=by have:=qqp hG M dd;omega
     have XL:LB.length=r1*r2:=by rw[NC,cQ,cC];exact qku _ _ _
     refine q1a rfl (fun i v w=>(([.mok (.idl C),.mok (.idl C),.val (.bool true),.val (.bool false),.val (.bool false),.mok (.cx K),.mok (.prs M),.val (.int .i64 dd),.mok (.mat r1 r2 LB),.mok (.cx K),.mok (.prs M),.val (.int .i64 dd),.mok (.mat r1 r2 LB),.val (.bool true),.val (.bool false),.val (.bool false)] : List KP).getD i .any).p v w) 123 rfl (by kernel_rfl) (by kernel_rfl) (fun i v w w' h hb=>KP.q8 _ _ _ _ h hb) ?step ?done
     case step =>
      intro i o ho a w' hw hd ae ao
      match i,ho,hd with
      | 0,ho,hd =>obtain rfl:=osi ho;exact⟨rfl,xi _ (.inl rfl) (by show (.mok (.idl C):KP).p (a.tmps.getD 11 undef) w';rw[ae 11 (qu (by kernel_rfl))];exact Mok.q8 (k:=.idl C) eA hw)⟩
      | 1,ho,hd =>obtain rfl:=osi ho;exact⟨rfl,xi _ (.inl rfl) (by show (.mok (.idl C):KP).p (a.tmps.getD 12 undef) w';rw[ae 12 (qu (by kernel_rfl))];exact Mok.q8 (k:=.idl C) iU hw)⟩
      | 2,ho,hd =>obtain rfl:=osi ho;exact⟨rfl,qg9 _ _ _ rfl qri #[a.tmps.getD 40 undef,a.tmps.getD 41 undef] (by simp[Act.eval]) (qtj _ _ C _ (hd 0 _ _ rfl rfl (by kernel_rfl)) (hd 1 _ _ rfl rfl (by kernel_rfl)))⟩
      | 3,ho,hd =>obtain rfl:=osi ho;exact⟨rfl,qrt _ true rfl (hd 2 _ _ rfl rfl (by kernel_rfl))⟩
      | 4,ho,hd =>obtain rfl:=osi ho;exact⟨rfl,xi _ (.inl rfl) (hd 3 _ _ rfl rfl (by kernel_rfl))⟩
      | 5,ho,hd =>obtain rfl:=osi ho;exact⟨qos 4 44 rfl rfl (by rw[ao];decide) (hd 4 _ _ rfl rfl (by kernel_rfl)),qh1 _ _ rfl _ (ae 8 (qu (by kernel_rfl))) _ (ldK (jY.q8 hw)) (Mok.q8 (k:=.cx K) kL hw)⟩
      | 6,ho,hd =>obtain rfl:=osi ho;exact⟨qos 4 44 rfl rfl (by rw[ao];decide) (hd 4 _ _ rfl rfl (by kernel_rfl)),xi _ (.inl rfl) (by show (.mok (.prs M):KP).p (a.tmps.getD 9 undef) w';rw[ae 9 (qu (by kernel_rfl))];exact Mok.q8 (k:=.prs M) fF hw)⟩
      | 7,ho,hd =>obtain rfl:=osi ho;exact⟨qos 4 44 rfl rfl (by rw[ao];decide) (hd 4 _ _ rfl rfl (by kernel_rfl)),xi _ (.inl rfl) (ae 10 (qu (by kernel_rfl)))⟩
      | 8,ho,hd =>obtain rfl:=osi ho;have f7:a.tmps.getD 47 undef = .int .i64 dd:=hd 7 _ _ rfl rfl (by kernel_rfl);exact⟨qos 4 44 rfl rfl (by rw[ao];decide) (hd 4 _ _ rfl rfl (by kernel_rfl)),qg9 _ _ _ rfl qr6 #[a.tmps.getD 45 undef,a.tmps.getD 46 undef,.int .i64 dd] (by rw[<-f7];simp[Act.eval]) (by rw[cQ,cC,NC];exact qqs _ _ K M _ (hd 5 _ _ rfl rfl (by kernel_rfl)) hK fQ (hd 6 _ _ rfl rfl (by kernel_rfl)) hI hG hE dd hd0 hd1)⟩
      | 9,ho,hd =>obtain rfl:=osi ho;exact⟨qos 4 44 rfl rfl (by rw[ao];decide) (hd 4 _ _ rfl rfl (by kernel_rfl)),qh1 _ _ rfl _ (ae 8 (qu (by kernel_rfl))) _ (ldK (jY.q8 hw)) (Mok.q8 (k:=.cx K) kL hw)⟩
      | 10,ho,hd =>obtain rfl:=osi ho;exact⟨qos 4 44 rfl rfl (by rw[ao];decide) (hd 4 _ _ rfl rfl (by kernel_rfl)),xi _ (.inl rfl) (by show (.mok (.prs M):KP).p (a.tmps.getD 9 undef) w';rw[ae 9 (qu (by kernel_rfl))];exact Mok.q8 (k:=.prs M) fF hw)⟩
      | 11,ho,hd =>obtain rfl:=osi ho;exact⟨qos 4 44 rfl rfl (by rw[ao];decide) (hd 4 _ _ rfl rfl (by kernel_rfl)),xi _ (.inl rfl) (ae 10 (qu (by kernel_rfl)))⟩
      | 12,ho,hd =>obtain rfl:=osi ho;have f11:a.tmps.getD 51 undef = .int .i64 dd:=hd 11 _ _ rfl rfl (by kernel_rfl);exact⟨qos 4 44 rfl rfl (by rw[ao];decide) (hd 4 _ _ rfl rfl (by kernel_rfl)),qg9 _ _ _ rfl qr9 #[a.tmps.getD 49 undef,a.tmps.getD 50 undef,.int .i64 dd] (by rw[<-f11];simp[Act.eval]) (by rw[cQ,cC,NC];exact qtn _ _ K M _ (hd 9 _ _ rfl rfl (by kernel_rfl)) hK fQ hG cJ Dk (hd 10 _ _ rfl rfl (by kernel_rfl)) na dd hd0 hd1)⟩
      | 13,ho,hd =>obtain rfl:=osi ho;exact⟨qos 4 44 rfl rfl (by rw[ao];decide) (hd 4 _ _ rfl rfl (by kernel_rfl)),qg9 _ _ _ rfl q9l #[a.tmps.getD 48 undef,a.tmps.getD 52 undef] (by simp[Act.eval]) (kEq _ _ _ _ _ _ (hd 8 _ _ rfl rfl (by kernel_rfl)) (hd 12 _ _ rfl rfl (by kernel_rfl)) fH ml XL)⟩
      | 14,ho,hd =>obtain rfl:=osi ho;exact⟨qos 4 44 rfl rfl (by rw[ao];decide) (hd 4 _ _ rfl rfl (by kernel_rfl)),qrt _ true rfl (hd 13 _ _ rfl rfl (by kernel_rfl))⟩
      | 15,ho,hd =>obtain rfl:=osi ho;exact⟨rfl,qsr _ _ _ rfl (hd 4 _ _ rfl rfl (by kernel_rfl)) (hd 14 _ _ rfl rfl (by kernel_rfl))⟩
      | i+16,ho,hd =>have:i+16 < 16:=(gp.1 ho).1;omega
     case done =>intro a w7 ao eH hf ae hw;have ht:a.tmps.getD 55 undef = .bool false:=hf 15 _ _ rfl rfl;refine eu _ _ (Met.intro (hJ _ _ ⟨a.tmps.getD 40 undef,a.tmps.getD 41 undef,a.tmps.getD 42 undef,a.tmps.getD 43 undef,a.tmps.getD 44 undef,a.tmps.getD 45 undef,a.tmps.getD 46 undef,a.tmps.getD 47 undef,a.tmps.getD 48 undef,a.tmps.getD 49 undef,a.tmps.getD 50 undef,a.tmps.getD 51 undef,a.tmps.getD 52 undef,a.tmps.getD 53 undef,a.tmps.getD 54 undef,a.tmps.getD 55 undef,⟨ht,lhd hw⟩,(q8z ao eH ae).trans ?_⟩));kernel_rfl
    case rest =>
     obtain⟨rfl,H8⟩:=hcut;obtain⟨w8,rk⟩ : ∃ w8,w8=wc:=⟨_,rfl⟩
     subst rk;have E8:=lhd (E7.out.q8 H8.out);have Jj:Sl w8 1 (.slice ya yn yc) (ints C):=Mok.q8 (k:=.idl C) HY.out.2.1 H8.out;have vG:C.length=yn:=by obtain⟨_,_,h3,_⟩:=Jj.open;rw[xl] at h3;omega
     obtain⟨CK,xS,_⟩:=Jj.open;unfold maxLen at xS;have SA:=lhd (aiq Jj vG);obtain⟨m3,kN⟩ : ∃ m3,m3=min yn 3:=⟨_,rfl⟩
     have SB:min (yn:Int) 3=(m3:Int):=by rw[kN];omega
     have XM:(m3:Int)<=yc:=by omega
     have XN:m3<=yn:=by omega
     clear Jj vG kN;go_wp2_with fail;go_loopg [62] m3 (fun g i wx=>∃ t:Nat,t+g=m3/\i = .int .i64 t/\Hid (Below w8.heap.size w8 wx))
     case atStart=>exact⟨0,by omega,rfl,(show Hid _ from Below.refl _ _)⟩
     case round =>
      obtain⟨t,XH,rfl,HT⟩:=hrel;have ET:=lhd (E8.out.q8 HT.out);cases gk with
      | zero =>
       have NA:t=m3:=by omega
       have NB:¬ ((t:Int) < (m3:Int)):=by omega
       go_wp2_with fail;go_roundg gk
       case measure=>omega
       case rel=>exact⟨d+1,by omega,qh (by have:=dJ.out;omega),ET⟩
      | succ gt =>
       have NA:t < m3:=by omega
       have NB:(t:Int) < (m3:Int):=by omega
       obtain⟨id,hid⟩ : ∃ id,C[t]? = some id:=⟨_,g8 (by rw[SA.out.2];omega)⟩
       obtain⟨_,_,_,y4,y5⟩:=SA.out.1.open;obtain⟨ad,cu⟩:=sadq y4 (by omega)
       subst cu;have d0:wr.cell? (ad.add t)=some (.int .i64 id):=Cx.q8 HT.out (y5 ad rfl _ _ (by simp[ints,hid]));have jS:I64 id:=by have hm:=gh hid;rw[S8.out] at hm;obtain⟨hi,lo,_,_,_,_,_,e,_⟩:=qqy HK.out.2.2.1 HK.out.2.2.2.1 HK.out.2.2.2.2.2.1 dd;rw[e] at hm;obtain⟨⟨y,hy,h1,_⟩,_⟩:=(qiu HK.out.2.2.1).1 hm;exact q4s HC.out.1 (HK.out.1.cok HC.out.1) (h1 ▸ gG hy)
       have XO:=lhd jS;clear hid y4 y5 jS;go_upto_region 13 with fail
       go_cut [75] from 66 to 74 (fun x wx=>x=Value.bool false/\Hid (Below wr.heap.size wr wx))
       case first =>
        rename_i J K2 hJ eu;have jY:=ET.out.bv;have kL:=ET.out.cx;have fF:=ET.out.pr;have hK:=HK.out.1;have fQ:=HK.out.2.1;have hG:=HK.out.2.2.1;have cJ:=HK.out.2.2.2.1;have hI:=HK.out.2.2.2.2.1;have na:=HK.out.2.2.2.2.2.2.2;have jS:=XO.out;refine q1a rfl (fun i v w=>(([.mok (.cx K),.mok (.prs M),.val (.int .i64 id),.fk (.cf (upX K M id) 180 5000),.mok (.cx K),.mok (.prs M),.val (.int .i64 id),.fk (.cf (upX K M id) 180 5000),.val (.bool true),.val (.bool false)] : List KP).getD i .any).p v w) 123 rfl (by kernel_rfl) (by kernel_rfl) (fun i v w w' h hb=>KP.q8 _ _ _ _ h hb) ?step ?done
        case step =>
         intro i o ho a w' hw hd ae ao
         match i,ho,hd with
         | 0,ho,hd =>obtain rfl:=osi ho;exact⟨rfl,qh1 _ _ rfl _ (ae 8 (qu (by kernel_rfl))) _ (ldK (jY.q8 hw)) (Mok.q8 (k:=.cx K) kL hw)⟩
         | 1,ho,hd =>obtain rfl:=osi ho;exact⟨rfl,xi _ (.inl rfl) (by show (.mok (.prs M):KP).p (a.tmps.getD 9 undef) w';rw[ae 9 (qu (by kernel_rfl))];exact Mok.q8 (k:=.prs M) fF hw)⟩
         | 2,ho,hd =>obtain rfl:=osi ho;exact⟨rfl,xi _ (.inl rfl) (ae 14 (qu (by kernel_rfl)))⟩
         | 3,ho,hd =>obtain rfl:=osi ho;have f2:a.tmps.getD 68 undef = .int .i64 id:=hd 2 _ _ rfl rfl (by kernel_rfl);exact⟨rfl,qg9 _ _ _ rfl qbg #[a.tmps.getD 66 undef,a.tmps.getD 67 undef,.int .i64 id] (by rw[<-f2];simp[Act.eval]) (qt8 _ _ K M _ (hd 0 _ _ rfl rfl (by kernel_rfl)) hK fQ hG (hd 1 _ _ rfl rfl (by kernel_rfl)) hI id jS)⟩
         | 4,ho,hd =>obtain rfl:=osi ho;exact⟨rfl,qh1 _ _ rfl _ (ae 8 (qu (by kernel_rfl))) _ (ldK (jY.q8 hw)) (Mok.q8 (k:=.cx K) kL hw)⟩
         | 5,ho,hd =>obtain rfl:=osi ho;exact⟨rfl,xi _ (.inl rfl) (by show (.mok (.prs M):KP).p (a.tmps.getD 9 undef) w';rw[ae 9 (qu (by kernel_rfl))];exact Mok.q8 (k:=.prs M) fF hw)⟩
         | 6,ho,hd =>obtain rfl:=osi ho;exact⟨rfl,xi _ (.inl rfl) (ae 14 (qu (by kernel_rfl)))⟩
         | 7,ho,hd =>obtain rfl:=osi ho;have f6:a.tmps.getD 72 undef = .int .i64 id:=hd 6 _ _ rfl rfl (by kernel_rfl);exact⟨rfl,qg9 _ _ _ rfl qs8 #[a.tmps.getD 70 undef,a.tmps.getD 71 undef,.int .i64 id] (by rw[<-f6];simp[Act.eval]) (qtm _ _ K M _ (hd 4 _ _ rfl rfl (by kernel_rfl)) hK fQ hG cJ (hd 5 _ _ rfl rfl (by kernel_rfl)) na id jS)⟩
         | 8,ho,hd =>obtain rfl:=osi ho;exact⟨rfl,qg9 _ _ _ rfl q0u #[a.tmps.getD 69 undef,a.tmps.getD 73 undef] (by simp[Act.eval]) (qsn _ _ _ _ _ _ _ _ (hd 3 _ _ rfl rfl (by kernel_rfl)) (hd 7 _ _ rfl rfl (by kernel_rfl)))⟩
         | 9,ho,hd =>obtain rfl:=osi ho;exact⟨rfl,qrt _ true rfl (hd 8 _ _ rfl rfl (by kernel_rfl))⟩
         | i+10,ho,hd =>have:i+10 < 10:=(gp.1 ho).1;omega
        case done =>intro a w7 ao eH hf ae hw;have ht:a.tmps.getD 75 undef = .bool false:=hf 9 _ _ rfl rfl;refine eu _ _ (Met.intro (hJ _ _ ⟨a.tmps.getD 66 undef,a.tmps.getD 67 undef,a.tmps.getD 68 undef,a.tmps.getD 69 undef,a.tmps.getD 70 undef,a.tmps.getD 71 undef,a.tmps.getD 72 undef,a.tmps.getD 73 undef,a.tmps.getD 74 undef,a.tmps.getD 75 undef,⟨ht,lhd hw⟩,(q8z ao eH ae).trans ?_⟩));kernel_rfl
       case rest =>
        obtain⟨rfl,HZ⟩:=hcut;go_wp2_with fail;go_roundg gt
        case measure=>omega
        case rel=>exact⟨t+1,by omega,qh (by omega),(show Hid _ from (btr HT.out HZ.out))⟩
end Go.Proofs.YtlhicnfeajejhaaGreatDoor
