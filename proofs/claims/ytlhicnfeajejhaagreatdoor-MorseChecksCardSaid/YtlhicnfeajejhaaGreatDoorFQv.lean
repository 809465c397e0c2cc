/- Steps towards MorseChecks. Conditions: none. -/
import Derived.Test.YtlhicnfeajejhaaGreatDoorFQs
set_option maxRecDepth 1000000
set_option maxHeartbeats 16000000
namespace Go.Cx
open Go.Proofs.YtlhicnfeajejhaaGreatDoor
section
variable {K:List Cl}
theorem qg6 {m:List (Int×Int)} (h:xk K zz zz m=none):j8 K m=42:=by
 unfold j8;rw[show (fun _=>0:Int->Int)=zz from rfl,h]
theorem qg7 (G:Good K) {m:List (Int×Int)} {st:(Int->Int)×(Int->Int)} (h:xk K zz zz m=some st) (hc:∃ c,yp K st.1 c):j8 K m=43:=by
 classical
 unfold j8;rw[show (fun _=>0:Int->Int)=zz from rfl,h];obtain⟨c,hc⟩:=hc;refine if_pos ?_;rcases q0e m _ _ st h c (q46 G hc) with h2 | ⟨p,hp,rfl⟩
 ·exact absurd rfl h2
 ·exact⟨p,hp,hc⟩
theorem qjo {m:List (Int×Int)} {st:(Int->Int)×(Int->Int)} (h:xk K zz zz m=some st) (hc:¬ ∃ c,yp K st.1 c):j8 K m=0:=by
 classical
 unfold j8;rw[show (fun _=>0:Int->Int)=zz from rfl,h];exact if_neg fun ⟨p,_,hp⟩=>hc ⟨_,hp⟩
theorem qjp {ps:List (Int×Int)} {k:Nat} {p:Int×Int} {hi lo:Int->Int} (hp:ps[k]? = some p) (h:xk K zz zz (ps.take k)=some (hi,lo)) (hf:kc K hi lo p.1 p.2=true):xk K zz zz (ps.take (k+1))=some (pu hi p.1 p.2,pu lo p.2 p.1):=by
 rw[gq,hp];show xk K zz zz (ps.take k++[p])=_;rw[q14,h];show (if kc K hi lo p.1 p.2=true then _ else none)=_;rw[if_pos hf]
theorem qjq {ps:List (Int×Int)} {k:Nat} {p:Int×Int} {hi lo:Int->Int} (hp:ps[k]? = some p) (h:xk K zz zz (ps.take k)=some (hi,lo)) (hf:kc K hi lo p.1 p.2=false):xk K zz zz ps=none:=by
 have h1:xk K zz zz (ps.take (k+1))=none:=by
  rw[gq,hp];show xk K zz zz (ps.take k++[p])=_;rw[q14,h];show (if kc K hi lo p.1 p.2=true then _ else none)=_;rw[if_neg (by rw[hf];exact Bool.false_ne_true)]
 rw[<-gr (k+1) ps];exact q3i _ _ h1
end
end Go.Cx
namespace Go.Proofs.YtlhicnfeajejhaaGreatDoor
open Go.RowKit Go.Cx
attribute [local go_sem ↓] Go.wp_at_zero Go.wp_at_succ
theorem qmb (v pvv:Value) (l:List Ce) (ps:List (Int×Int)) (w:World) (h:SlC w v l) (hl:l.length<=4000) (aX:∀ x∈l,x.s.length<=1099511627776) (G:Cx.Good (l.map Ce.cl)) (hc:chk (l.map Ce.cl)=(0,0)) (hp:Sl w 2 pvv (pv ps)) (cD:ps.length<=1000000) :
  Calls Tryz.prog 50 #[.agg #[v],pvv] w fun e w'=>e = .returned (.int .i64 (j8 (l.map Ce.cl) ps))/\Below w.heap.size w w':=by
 obtain⟨a,n,cap,rfl⟩:=qg h.1;obtain⟨pa,pn,pc,rfl⟩:=qg hp;have jN:ps.length=pn:=by
  obtain⟨_,_,h3,_⟩:=hp.open;rw[kf] at h3;omega
 rw[jN] at cD;obtain⟨W,hW⟩ : ∃ W:World,W=w.alloc (.cells #[.slice a n cap] 26):=⟨_,rfl⟩
 have hB:Below w.heap.size w W:=by rw[hW];exact(Below.refl _ w).alloc (nlr _) _
 have b0:W.cell? ⟨w.heap.size,0,none⟩=some (.slice a n cap):=by rw[hW];exact qd w _ _ (0,0) 0
 have rv:=qma _ l W (h.q8 hB) hl aX G hc;obtain⟨o9,sH,_⟩:=hp.open;unfold maxLen at sH;obtain⟨K,hK⟩ : ∃ K,K=l.map Ce.cl:=⟨_,rfl⟩
 have HH:=lhd (aiq (h.q8 hB) (aiq (hp.q8 hB) (aiq jN (aiq hB (aiq b0 (aiq rv (aiq hK (aiq aX hl))))))));have HG:=lhd (show Cx.Good K from hK ▸ G);have DF:=lhd hW;rw[<-hK];clear h aX G hc hp jN hB b0 rv hl hK hW;go_enter Tryz.func50,Tryz.ntmps50;go_wp2_with fail;rw[<-DF.out];refine HH.out.2.2.2.2.2.1.mono ?_;rintro e w1 ⟨rfl,ai⟩;have H1:=lhd ai;clear ai;go_wp2_with fail;go_loopw [7] (fun p wr=>∃ k:Nat,p = .int .i64 k/\k<=pn/\Hid ((∃ hi lo,xk K zz zz (ps.take k)=some (hi,lo))/\Below W.heap.size W wr)) (fun p _=>pn - (vI p).toNat)
 case atStart=>exact⟨0,rfl,gp _,(show Hid _ from⟨⟨zz,zz,by rw[List.take_zero,xk]⟩,H1.out⟩)⟩
 case round =>
  obtain⟨k,rfl,hk,HI⟩:=hrel;obtain⟨⟨hi,lo,bW⟩,aQ⟩:=HI.out;have qW:∀ (U:World) (x:Value) (y z:Int),Below W.heap.size W U->x = .slice a n cap->Calls Tryz.prog 114 #[.agg #[x],.int .i64 y,.int .i64 z] U fun e w'=>e = .returned (.int .i64 (sgn K z y))/\Below U.heap.size U w':=fun U x y z hU hx=>by
   rw[hx,HH.out.2.2.2.2.2.2.1];exact qjb _ l y z U (HH.out.1.q8 hU) (by have:=HH.out.2.2.2.2.2.2.2.2;omega) HH.out.2.2.2.2.2.2.2.1 (by rw[<-HH.out.2.2.2.2.2.2.1];exact HG.out)
  have HS:=lhd (aiq bW (aiq aQ qW));clear bW aQ qW;by_cases hlt:k < pn
  ·obtain⟨p,KR⟩ : ∃ p,ps[k]? = some p:=⟨_,g8 (by rw[HH.out.2.2.1];exact hlt)⟩
   obtain⟨_,_,_,h5,h6⟩:=HH.out.2.1.open;obtain⟨ad,bI⟩ : ∃ ad,pa=some ad:=by
    cases pa with
    | none=>have:=h5 rfl;omega
    | some ad=>exact⟨ad,rfl⟩
   subst bI;have hg:=kv ps k p KR;have oZ:∀ U,Below W.heap.size W U->U.cell? ⟨w.heap.size,0,none⟩=some (.slice a n cap)/\U.cell? (ad.add (k*2))=some (.int .i64 p.1)/\U.cell? ⟨(ad.add (k*2)).block,(ad.add (k*2)).off+1,none⟩=some (.int .i64 p.2):=fun U hU=>by
    refine⟨Cx.q8 hU HH.out.2.2.2.2.1,Cx.q8 hU (h6 ad rfl _ _ hg.1),?_⟩;rw[qi _ _ _ (by omega)];exact Cx.q8 hU (h6 ad rfl _ _ hg.2)
   have D5:∀ (U:World) (c:Int),Below W.heap.size W U->Calls Tryz.prog 107 #[.slice (some ad) k pc,.int .i64 c] U fun e w'=>e = .returned (.bool (pdB hi lo c))/\Below U.heap.size U w':=fun U c hU=>by
    have hs:Sl U 2 (.slice (some ad) k pc) (pv (ps.take k)):=by
     have:=(HH.out.2.1.q8 hU).take (k:=k) (by omega);rw[qbl ps k (by rw[HH.out.2.2.1];omega)] at this;exact this
    refine(qja _ (ps.take k) c U hs (by rw[gh];omega)).mono ?_;rintro e w' ⟨q,rfl,hq,hb⟩;refine⟨?_,hb⟩;rw[show q=pdB hi lo c from Bool.eq_iff_iff.2 (hq.trans (qol HG.out HS.out.1 c).symm)]
   have B8:Below W.heap.size W wr.drew:=qb HS.out.2.1 1;have HF:=lhd (aiq oZ D5);have HP:=lhd KR;have ey:(k:Int)<=pc:=by omega
   have om:(k:Int) < pn:=by omega
   clear h5 h6 hg oZ D5 KR;go_wp2_with fail
   go_region_held_law (fun U=>U.cell? ⟨w.heap.size,0,none⟩=some (.slice a n cap)/\U.cell? (ad.add (k*2))=some (.int .i64 p.1)/\U.cell? ⟨(ad.add (k*2)).block,(ad.add (k*2)).off+1,none⟩=some (.int .i64 p.2)) (first | exact HF.out.1 _ B8 | exact HF.out.1 _ B9 | fail)
    (first | (go_at_call 107;refine(HF.out.2 _ p.1 B8).mono ?_;rintro e w9 ⟨rfl,nU⟩;have B9:Below W.heap.size W w9:=B8.trans (nU.mono B8.size)))
   have En:Below W.heap.size W w9.drew:=qb B9 1;obtain⟨q1,eR⟩ : ∃ q,q=pdB hi lo p.1:=⟨_,rfl⟩
   rw[<-eR];have DT:=lhd eR;clear nU B9 B8 eR;go_wp2_with fail
   go_region_held_law (fun U=>U.cell? ⟨w.heap.size,0,none⟩=some (.slice a n cap)/\U.cell? (ad.add (k*2))=some (.int .i64 p.1)/\U.cell? ⟨(ad.add (k*2)).block,(ad.add (k*2)).off+1,none⟩=some (.int .i64 p.2)) (first | exact HF.out.1 _ En | exact HF.out.1 _ FT | fail)
    (first | (go_at_call 107;refine(HF.out.2 _ p.2 En).mono ?_;rintro e oH ⟨rfl,iN⟩;have FT:Below W.heap.size W oH:=En.trans (iN.mono En.size)))
   have Eo:Below W.heap.size W oH.drew:=qb FT 1;obtain⟨q2,iF⟩ : ∃ q,q=pdB hi lo p.2:=⟨_,rfl⟩
   rw[<-iF];have FU:=lhd (aiq iF FT);clear iN FT En iF;have mR:kc K hi lo p.1 p.2=false->j8 K ps=42:=fun hf=>qg6 (qjq HP.out HS.out.1 hf)
   have HE:=lhd mR;clear mR;have eH:∀ U,Below W.heap.size W U->Below w.heap.size w U:=fun U hU=>HH.out.2.2.2.1.trans (hU.mono HH.out.2.2.2.1.size)
   have HL:=lhd eH;clear eH;cases q1 with
   | true =>
    go_wp2_with fail
    go_quiet (fail)
    go_wp2;go_ret;refine⟨?_,HL.out _ (qb FU.out.2 _)⟩;rw[HE.out (by unfold kc;rw[<-DT.out];simp)];rfl
   | false =>
    cases q2 with
    | true =>
     go_wp2_with fail
     go_quiet (fail)
     go_wp2;go_ret;refine⟨?_,HL.out _ (qb FU.out.2 _)⟩;rw[HE.out (by unfold kc;rw[<-FU.out.1];simp)];rfl
    | false =>
     obtain⟨sv,oJ⟩ : ∃ sv,sv=sgn K p.2 p.1:=⟨_,rfl⟩
     obtain⟨bv,lV⟩ : ∃ bv,(sv == 0)=bv:=⟨_,rfl⟩
     have Ep:kc K hi lo p.1 p.2=!bv:=by
      unfold kc;rw[<-DT.out,<-FU.out.1,<-oJ,<-lV];simp[bne]
     have PL:=lhd Ep;have fN:∀ U,Below W.heap.size W U->Calls Tryz.prog 114 #[.agg #[.slice a n cap],.int .i64 p.1,.int .i64 p.2] U fun e w'=>e = .returned (.int .i64 sv)/\Below U.heap.size U w':=fun U hU=>by
      rw[oJ];exact HS.out.2.2 U _ p.1 p.2 hU rfl
     have BQ:=lhd fN;clear Ep fN oJ;go_wp2_with fail
     go_region_held_law (fun U=>U.cell? ⟨w.heap.size,0,none⟩=some (.slice a n cap)/\U.cell? (ad.add (k*2))=some (.int .i64 p.1)/\U.cell? ⟨(ad.add (k*2)).block,(ad.add (k*2)).off+1,none⟩=some (.int .i64 p.2)) (first | exact HF.out.1 _ Eo | exact HF.out.1 _ KS | fail)
      (first | (go_at_call 114;refine(BQ.out _ Eo).mono ?_;rintro e oI ⟨rfl,ff⟩;have KS:Below W.heap.size W oI:=Eo.trans (ff.mono Eo.size)))
     have HB:=lhd KS;clear ff KS Eo;cases bv with
     | true =>
      go_wp2_with fail;go_ret;refine⟨?_,HL.out _ HB.out⟩;rw[HE.out PL.out];rfl
     | false =>
      go_wp2_with fail;go_roundw
      case measure=>simp[vI];omega
      case rel=>exact⟨k+1,qh (by omega),by omega,(show Hid _ from⟨⟨_,_,qjp HP.out HS.out.1 PL.out⟩,HB.out⟩)⟩
  ·have om:¬ (k:Int) < pn:=by omega
   have bW:xk K zz zz ps=some (hi,lo):=by
    have:=HS.out.1
    rwa [ge (by rw[HH.out.2.2.1];omega)] at this
   have iT:=qm8 _ (.slice pa pn pc) l ps wr (HH.out.1.q8 HS.out.2.1) (by have:=HH.out.2.2.2.2.2.2.2.2;omega) HH.out.2.2.2.2.2.2.2.1 (by rw[<-HH.out.2.2.2.2.2.2.1];exact HG.out) (HH.out.2.1.q8 HS.out.2.1) (by rw[HH.out.2.2.1];exact cD);rw[<-HH.out.2.2.2.2.2.2.1] at iT;have KT:=qjl HG.out bW;obtain⟨b,hb⟩ : ∃ b,b=qg3 K ps:=⟨_,rfl⟩
   rw[<-hb] at iT KT;have d0:=Cx.q8 HS.out.2.1 HH.out.2.2.2.2.1;have HR:=lhd (aiq iT (aiq KT bW));clear iT KT bW hb;go_wp2_with fail;refine HR.out.1.mono ?_;rintro e Xa ⟨rfl,sD⟩;have HF:=lhd (HH.out.2.2.2.1.trans ((HS.out.2.1.trans (sD.mono HS.out.2.1.size)).mono HH.out.2.2.2.1.size));clear sD d0;cases b with
   | true =>
    go_wp2_with fail;go_ret;refine⟨?_,HF.out⟩;rw[qg7 HG.out HR.out.2.2 (HR.out.2.1.1 (by simp))];rfl
   | false =>
    go_wp2_with fail;go_ret;refine⟨?_,HF.out⟩;rw[qjo HR.out.2.2 fun hc=>by have:=HR.out.2.1.2 hc;simp at this];rfl
theorem q7a:∀ args w,(callFunc 17 args).run Tryz.prog w = .ok (.enter 17 args) w:=k8 Tryz.func17 (by kernel_rfl) (by kernel_rfl)
theorem qoq (n m:Int) (w:World) (h1:1<=m) (h2:m<=1000000000):Calls Tryz.prog 17 #[.int .i64 n,.int .i64 m] w fun e w'=>e = .returned (.int .i64 (n % m))/\Below w.heap.size w w':=by
 have hm:¬ m=0:=by omega
 have h3:=Int.lt_tmod_of_pos n (show 0 < m by omega);have h4:=Int.tmod_lt_of_pos n (show 0 < m by omega);have he:=mod_eq n m h1;have HE:=lhd he;clear he;go_enter Tryz.func17,Tryz.ntmps17;go_wp2;go_ret;exact⟨by rw[<-HE.out];rfl,Below.refl _ _⟩
end Go.Proofs.YtlhicnfeajejhaaGreatDoor
