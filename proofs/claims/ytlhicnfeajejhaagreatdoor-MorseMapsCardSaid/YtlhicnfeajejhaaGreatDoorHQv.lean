/- Steps towards MorseMaps. Conditions: none. -/
import Derived.Test.YtlhicnfeajejhaaGreatDoorHQs
set_option maxRecDepth 1000000
set_option maxHeartbeats 16000000
namespace Go.Proofs.YtlhicnfeajejhaaGreatDoor
open Go.RowKit Go.Cx
attribute [local go_sem ↓] Go.wp_at_zero Go.wp_at_succ
theorem qjn {w w':World} {st g n c:Nat} {xs:List Value} {row:Option Nat} (h:Sl w st (.slice (some ⟨g,0,none⟩) n c) xs) (hg:w.grownBy w' row) (aq:row≠some g):Sl w' st (.slice (some ⟨g,0,none⟩) n c) xs:=by
 obtain⟨h1,h2,h3,h4,h5⟩:=h.open;refine⟨_,n,c,rfl,h1,h2,h3,(fun e=>by cases e),fun ad ha j u hj=>?_⟩;obtain rfl:=osi ha;have:=h5 ⟨g,0,none⟩ rfl j u hj;rw[Addr.add_lit] at this ⊢;exact ql hg this fun k hk e=>aq (by rw[hk];exact congrArg some e.symm)
end Go.Proofs.YtlhicnfeajejhaaGreatDoor
namespace Go.Cx
open Go.Proofs.YtlhicnfeajejhaaGreatDoor
section
variable {K:List Cl}
theorem qg6 {m:List (Int×Int)} (h:xk K zz zz m=none):j8 K m=42:=by
 unfold j8;rw[show (fun _=>0:Int->Int)=zz from rfl,h]
theorem qg7 (G:Good K) {m:List (Int×Int)} {st:(Int->Int)×(Int->Int)} (h:xk K zz zz m=some st) (hc:∃ c,yp K st.1 c):j8 K m=43:=by
 classical
 unfold j8;rw[show (fun _=>0:Int->Int)=zz from rfl,h];obtain⟨c,hc⟩:=hc;refine if_pos ?_;rcases q0e m _ _ st h c (q46 G hc) with h2 | ⟨p,hp,rfl⟩
 ·exact absurd rfl h2
 ·exact⟨p,hp,hc⟩
theorem qjo {m:List (Int×Int)} {st:(Int->Int)×(Int->Int)} (h:xk K zz zz m=some st) (hc:¬ ∃ c,yp K st.1 c):j8 K m=0:=by
 classical
 unfold j8;rw[show (fun _=>0:Int->Int)=zz from rfl,h];exact if_neg fun ⟨p,_,hp⟩=>hc ⟨_,hp⟩
theorem qjp {ps:List (Int×Int)} {k:Nat} {p:Int×Int} {hi lo:Int->Int} (hp:ps[k]? = some p) (h:xk K zz zz (ps.take k)=some (hi,lo)) (hf:kc K hi lo p.1 p.2=true):xk K zz zz (ps.take (k+1))=some (pu hi p.1 p.2,pu lo p.2 p.1):=by
 rw[gq,hp];show xk K zz zz (ps.take k++[p])=_;rw[q14,h];show (if kc K hi lo p.1 p.2=true then _ else none)=_;rw[if_pos hf]
theorem qjq {ps:List (Int×Int)} {k:Nat} {p:Int×Int} {hi lo:Int->Int} (hp:ps[k]? = some p) (h:xk K zz zz (ps.take k)=some (hi,lo)) (hf:kc K hi lo p.1 p.2=false):xk K zz zz ps=none:=by
 have h1:xk K zz zz (ps.take (k+1))=none:=by
  rw[gq,hp];show xk K zz zz (ps.take k++[p])=_;rw[q14,h];show (if kc K hi lo p.1 p.2=true then _ else none)=_;rw[if_neg (by rw[hf];exact Bool.false_ne_true)]
 rw[<-gr (k+1) ps];exact q3i _ _ h1
end
end Go.Cx
namespace Go.Proofs.YtlhicnfeajejhaaGreatDoor
open Go.RowKit Go.Cx
attribute [local go_sem ↓] Go.wp_at_zero Go.wp_at_succ
theorem qmb (v pvv:Value) (l:List Ce) (ps:List (Int×Int)) (w:World) (h:SlC w v l) (hl:l.length<=4000) (aW:∀ x∈l,x.s.length<=1099511627776) (G:Cx.Good (l.map Ce.cl)) (hc:chk (l.map Ce.cl)=(0,0)) (hp:Sl w 2 pvv (pv ps)) (dy:ps.length<=1000000) :
  Calls Tryz.prog 50 #[.agg #[v],pvv] w fun e w'=>e = .returned (.int .i64 (j8 (l.map Ce.cl) ps))/\Below w.heap.size w w':=by
 obtain⟨a,n,cap,rfl⟩:=qg h.1;obtain⟨pa,pn,pc,rfl⟩:=qg hp;have lJ:ps.length=pn:=by
  obtain⟨_,_,h3,_⟩:=hp.open;rw[yq] at h3;omega
 rw[lJ] at dy;obtain⟨W,hW⟩ : ∃ W:World,W=w.alloc (.cells #[.slice a n cap] 26):=⟨_,rfl⟩
 have hB:Below w.heap.size w W:=by rw[hW];exact(Below.refl _ w).alloc (nlr _) _
 have b0:W.cell? ⟨w.heap.size,0,none⟩=some (.slice a n cap):=by rw[hW];exact qd w _ _ (0,0) 0
 have GL:=qma _ l W (h.q8 hB) hl aW G hc;obtain⟨pZ,pj,_⟩:=hp.open;unfold maxLen at pj;obtain⟨K,hK⟩ : ∃ K,K=l.map Ce.cl:=⟨_,rfl⟩
 have HH:=lhd (aiq (h.q8 hB) (aiq (hp.q8 hB) (aiq lJ (aiq hB (aiq b0 (aiq GL (aiq hK (aiq aW hl))))))));have HG:=lhd (show Cx.Good K from hK ▸ G);have AM:=lhd hW;rw[<-hK];clear h aW G hc hp lJ hB b0 GL hl hK hW;go_enter Tryz.func50,Tryz.ntmps50;go_wp2_with fail;rw[<-AM.out];refine HH.out.2.2.2.2.2.1.mono ?_;rintro e w1 ⟨rfl,aj⟩;have H1:=lhd aj;clear aj;go_wp2_with fail;go_loopw [7] (fun p wr=>∃ k:Nat,p = .int .i64 k/\k<=pn/\Hid ((∃ hi lo,xk K zz zz (ps.take k)=some (hi,lo))/\Below W.heap.size W wr)) (fun p _=>pn - (vI p).toNat)
 case atStart=>exact⟨0,rfl,gp _,(show Hid _ from⟨⟨zz,zz,by rw[List.take_zero,xk]⟩,H1.out⟩)⟩
 case round =>
  obtain⟨k,rfl,hk,HI⟩:=hrel;obtain⟨⟨hi,lo,cz⟩,bM⟩:=HI.out;have sN:∀ (U:World) (x:Value) (y z:Int),Below W.heap.size W U->x = .slice a n cap->Calls Tryz.prog 114 #[.agg #[x],.int .i64 y,.int .i64 z] U fun e w'=>e = .returned (.int .i64 (sgn K z y))/\Below U.heap.size U w':=fun U x y z hU hx=>by
   rw[hx,HH.out.2.2.2.2.2.2.1];exact qjb _ l y z U (HH.out.1.q8 hU) (by have:=HH.out.2.2.2.2.2.2.2.2;omega) HH.out.2.2.2.2.2.2.2.1 (by rw[<-HH.out.2.2.2.2.2.2.1];exact HG.out)
  have HS:=lhd (aiq cz (aiq bM sN));clear cz bM sN;by_cases hlt:k < pn
  ·obtain⟨p,Na⟩ : ∃ p,ps[k]? = some p:=⟨_,g8 (by rw[HH.out.2.2.1];exact hlt)⟩
   obtain⟨_,_,_,h5,h6⟩:=HH.out.2.1.open;obtain⟨ad,ck⟩ : ∃ ad,pa=some ad:=by
    cases pa with
    | none=>have:=h5 rfl;omega
    | some ad=>exact⟨ad,rfl⟩
   subst ck;have hg:=kv ps k p Na;have lD:∀ U,Below W.heap.size W U->U.cell? ⟨w.heap.size,0,none⟩=some (.slice a n cap)/\U.cell? (ad.add (k*2))=some (.int .i64 p.1)/\U.cell? ⟨(ad.add (k*2)).block,(ad.add (k*2)).off+1,none⟩=some (.int .i64 p.2):=fun U hU=>by
    refine⟨Cx.q8 hU HH.out.2.2.2.2.1,Cx.q8 hU (h6 ad rfl _ _ hg.1),?_⟩;rw[qi _ _ _ (by omega)];exact Cx.q8 hU (h6 ad rfl _ _ hg.2)
   have uJ:∀ (U:World) (c:Int),Below W.heap.size W U->Calls Tryz.prog 107 #[.slice (some ad) k pc,.int .i64 c] U fun e w'=>e = .returned (.bool (pdB hi lo c))/\Below U.heap.size U w':=fun U c hU=>by
    have hs:Sl U 2 (.slice (some ad) k pc) (pv (ps.take k)):=by
     have:=(HH.out.2.1.q8 hU).take (k:=k) (by omega);rw[qbl ps k (by rw[HH.out.2.2.1];omega)] at this;exact this
    refine(qja _ (ps.take k) c U hs (by rw[gd];omega)).mono ?_;rintro e w' ⟨q,rfl,hq,hb⟩;refine⟨?_,hb⟩;rw[show q=pdB hi lo c from Bool.eq_iff_iff.2 (hq.trans (qol HG.out HS.out.1 c).symm)]
   have B8:Below W.heap.size W wr.drew:=qb HS.out.2.1 1;have HF:=lhd (aiq lD uJ);have HP:=lhd Na;have fD:(k:Int)<=pc:=by omega
   have me:(k:Int) < pn:=by omega
   clear h5 h6 hg lD uJ Na;go_wp2_with fail
   go_region_held_law (fun U=>U.cell? ⟨w.heap.size,0,none⟩=some (.slice a n cap)/\U.cell? (ad.add (k*2))=some (.int .i64 p.1)/\U.cell? ⟨(ad.add (k*2)).block,(ad.add (k*2)).off+1,none⟩=some (.int .i64 p.2)) (first | exact HF.out.1 _ B8 | exact HF.out.1 _ B9 | fail)
    (first | (go_at_call 107;refine(HF.out.2 _ p.1 B8).mono ?_;rintro e w9 ⟨rfl,lR⟩;have B9:Below W.heap.size W w9:=B8.trans (lR.mono B8.size)))
   have FW:Below W.heap.size W w9.drew:=qb B9 1;obtain⟨q1,ft⟩ : ∃ q,q=pdB hi lo p.1:=⟨_,rfl⟩
   rw[<-ft];have ID:=lhd ft;clear lR B9 B8 ft;go_wp2_with fail
   go_region_held_law (fun U=>U.cell? ⟨w.heap.size,0,none⟩=some (.slice a n cap)/\U.cell? (ad.add (k*2))=some (.int .i64 p.1)/\U.cell? ⟨(ad.add (k*2)).block,(ad.add (k*2)).off+1,none⟩=some (.int .i64 p.2)) (first | exact HF.out.1 _ FW | exact HF.out.1 _ IK | fail)
    (first | (go_at_call 107;refine(HF.out.2 _ p.2 FW).mono ?_;rintro e qJ ⟨rfl,kO⟩;have IK:Below W.heap.size W qJ:=FW.trans (kO.mono FW.size)))
   have FX:Below W.heap.size W qJ.drew:=qb IK 1;obtain⟨q2,kE⟩ : ∃ q,q=pdB hi lo p.2:=⟨_,rfl⟩
   rw[<-kE];have IL:=lhd (aiq kE IK);clear kO IK FW kE;have lx:kc K hi lo p.1 p.2=false->j8 K ps=42:=fun hf=>qg6 (qjq HP.out HS.out.1 hf)
   have HE:=lhd lx;clear lx;have eA:∀ U,Below W.heap.size W U->Below w.heap.size w U:=fun U hU=>HH.out.2.2.2.1.trans (hU.mono HH.out.2.2.2.1.size)
   have HL:=lhd eA;clear eA;cases q1 with
   | true =>
    go_wp2_with fail
    go_quiet (fail)
    go_wp2;go_ret;refine⟨?_,HL.out _ (qb IL.out.2 _)⟩;rw[HE.out (by unfold kc;rw[<-ID.out];simp)];rfl
   | false =>
    cases q2 with
    | true =>
     go_wp2_with fail
     go_quiet (fail)
     go_wp2;go_ret;refine⟨?_,HL.out _ (qb IL.out.2 _)⟩;rw[HE.out (by unfold kc;rw[<-IL.out.1];simp)];rfl
    | false =>
     obtain⟨sv,qL⟩ : ∃ sv,sv=sgn K p.2 p.1:=⟨_,rfl⟩
     obtain⟨bv,kX⟩ : ∃ bv,(sv == 0)=bv:=⟨_,rfl⟩
     have FY:kc K hi lo p.1 p.2=!bv:=by
      unfold kc;rw[<-ID.out,<-IL.out.1,<-qL,<-kX];simp[bne]
     have RZ:=lhd FY;have jC:∀ U,Below W.heap.size W U->Calls Tryz.prog 114 #[.agg #[.slice a n cap],.int .i64 p.1,.int .i64 p.2] U fun e w'=>e = .returned (.int .i64 sv)/\Below U.heap.size U w':=fun U hU=>by
      rw[qL];exact HS.out.2.2 U _ p.1 p.2 hU rfl
     have Dn:=lhd jC;clear FY jC qL;go_wp2_with fail
     go_region_held_law (fun U=>U.cell? ⟨w.heap.size,0,none⟩=some (.slice a n cap)/\U.cell? (ad.add (k*2))=some (.int .i64 p.1)/\U.cell? ⟨(ad.add (k*2)).block,(ad.add (k*2)).off+1,none⟩=some (.int .i64 p.2)) (first | exact HF.out.1 _ FX | exact HF.out.1 _ Nb | fail)
      (first | (go_at_call 114;refine(Dn.out _ FX).mono ?_;rintro e qK ⟨rfl,im⟩;have Nb:Below W.heap.size W qK:=FX.trans (im.mono FX.size)))
     have HB:=lhd Nb;clear im Nb FX;cases bv with
     | true =>
      go_wp2_with fail;go_ret;refine⟨?_,HL.out _ HB.out⟩;rw[HE.out RZ.out];rfl
     | false =>
      go_wp2_with fail;go_roundw
      case measure=>simp[vI];omega
      case rel=>exact⟨k+1,qh (by omega),by omega,(show Hid _ from⟨⟨_,_,qjp HP.out HS.out.1 RZ.out⟩,HB.out⟩)⟩
  ·have me:¬ (k:Int) < pn:=by omega
   have cz:xk K zz zz ps=some (hi,lo):=by
    have:=HS.out.1
    rwa [gm (by rw[HH.out.2.2.1];omega)] at this
   have kU:=qm8 _ (.slice pa pn pc) l ps wr (HH.out.1.q8 HS.out.2.1) (by have:=HH.out.2.2.2.2.2.2.2.2;omega) HH.out.2.2.2.2.2.2.2.1 (by rw[<-HH.out.2.2.2.2.2.2.1];exact HG.out) (HH.out.2.1.q8 HS.out.2.1) (by rw[HH.out.2.2.1];exact dy);rw[<-HH.out.2.2.2.2.2.2.1] at kU;have Nc:=qjl HG.out cz;obtain⟨b,hb⟩ : ∃ b,b=qg3 K ps:=⟨_,rfl⟩
   rw[<-hb] at kU Nc;have d0:=Cx.q8 HS.out.2.1 HH.out.2.2.2.2.1;have HR:=lhd (aiq kU (aiq Nc cz));clear kU Nc cz hb;go_wp2_with fail;refine HR.out.1.mono ?_;rintro e ZG ⟨rfl,ug⟩;have HF:=lhd (HH.out.2.2.2.1.trans ((HS.out.2.1.trans (ug.mono HS.out.2.1.size)).mono HH.out.2.2.2.1.size));clear ug d0;cases b with
   | true =>
    go_wp2_with fail;go_ret;refine⟨?_,HF.out⟩;rw[qg7 HG.out HR.out.2.2 (HR.out.2.1.1 (by simp))];rfl
   | false =>
    go_wp2_with fail;go_ret;refine⟨?_,HF.out⟩;rw[qjo HR.out.2.2 fun hc=>by have:=HR.out.2.1.2 hc;simp at this];rfl
inductive Sk
 | any | val (u:Value) | emp (b:Nat) | row (b:Nat) (M:List (Int×Int)) | one (x y:Int)
def Sk.holds:Sk->Value->World->Prop
 | .any,_,_=>True
 | .val u,v,_=>v=u
 | .emp b,v,w=>∃ g,v = .slice (some ⟨g,0,none⟩) 0 0/\b<=g/\w.heap[g]? = some (.cells #[] 50 (0,0))
 | .row b M,v,w=>w.ownsRow b 50 2 v M.length (pv M)
 | .one x y,v,w=>∃ g,v = .slice (some ⟨g,0,none⟩) 1 1/\Sl w 2 v [.int .i64 x,.int .i64 y]
theorem Sk.q8 {k:Sk} {v:Value} {w w':World} (h:k.holds v w) (hb:Below w.heap.size w w'):k.holds v w':=by
 cases k with
 | any=>trivial
 | val u=>exact h
 | emp b =>
  obtain⟨g,h1,h2,h3⟩:=h;exact⟨g,h1,h2,(hb.block g (gv.1 h3).1).trans h3⟩
 | row b M=>exact qa h hb
 | one x y =>
  obtain⟨g,h1,h2⟩:=h;exact⟨g,h1,h2.q8 hb⟩
theorem Sk.qg8 {x y:Int} {v:Value} {w w':World} (h:(Sk.one x y).holds v w) {g:Nat} (hg:w.heap[g]? = some (.cells #[] 50 (0,0))) (hw:w.grownBy w' (some g)):(Sk.one x y).holds v w':=by
 obtain⟨g',rfl,h2⟩:=h;refine⟨g',rfl,qjn h2 hw fun e=>?_⟩;have e:g=g':=osi e;subst e;have:=h2.open.2.2.2.2 ⟨g,0,none⟩ rfl 0 _ rfl;rw[show (⟨g,0,none⟩ : Addr).add 0=⟨g,0,none⟩ from rfl,qju hg] at this;simp at this
theorem q7a:∀ args w,(callFunc 17 args).run Tryz.prog w = .ok (.enter 17 args) w:=k8 Tryz.func17 (by kernel_rfl) (by kernel_rfl)
def qop (k j:Nat):Bool:=(k == 2 && j == 0) || (k == 14 && (j == 0 || j == 2 || j == 13))
def qpr (k j:Nat):Bool:=(k == 2 && (j == 14 || j == 15)) || (k == 14 && j == 15)
theorem qoq (n m:Int) (w:World) (h1:1<=m) (h2:m<=1000000000):Calls Tryz.prog 17 #[.int .i64 n,.int .i64 m] w fun e w'=>e = .returned (.int .i64 (n % m))/\Below w.heap.size w w':=by
 have hm:¬ m=0:=by omega
 have h3:=Int.lt_tmod_of_pos n (show 0 < m by omega);have h4:=Int.tmod_lt_of_pos n (show 0 < m by omega);have he:=mod_eq n m h1;have HE:=lhd he;clear he;go_enter Tryz.func17,Tryz.ntmps17;go_wp2;go_ret;exact⟨by rw[<-HE.out];rfl,Below.refl _ _⟩
theorem qor (v lv:Value) (l:List Ce) (cs:List Int) (w:World) (h:SlC w v l) (hl:l.length<=4000) (aW:∀ x∈l,x.s.length<=1099511627776) (G:Cx.Good (l.map Ce.cl)) (hc:chk (l.map Ce.cl)=(0,0)) (hk:Sl w 1 lv (ints cs)) (aZ:cs.length<=1000) :
  Calls Tryz.prog 44 #[.agg #[v],lv] w fun e w'=>∃ r M,e = .returned r/\M.length<=cs.length/\j8 (l.map Ce.cl) M=0/\w'.ownsRow w.heap.size 50 2 r M.length (pv M)/\Below w.heap.size w w':=by
 obtain⟨a,n,cap,rfl⟩:=qg h.1;obtain⟨ca,cn,cc,rfl⟩:=qg hk;have hlen:l.length=n:=by
  obtain⟨_,_,h3,_⟩:=h.1.open;rw[qt Ce.qp] at h3;omega
 have rU:cs.length=cn:=by
  obtain⟨_,_,h3,_⟩:=hk.open;rw[xl] at h3;omega
 obtain⟨Fg,Nd,_⟩:=h.1.open;obtain⟨Jo,Nf,_⟩:=hk.open;unfold maxLen at Nd Nf;obtain⟨W,hW⟩ : ∃ W:World,W=w.alloc (.cells #[.slice a n cap] 26):=⟨_,rfl⟩
 have hB:Below w.heap.size w W:=by rw[hW];exact(Below.refl _ w).alloc (nlr _) _
 have b0:W.cell? ⟨w.heap.size,0,none⟩=some (.slice a n cap):=by rw[hW];exact qd w _ _ (0,0) 0
 obtain⟨K,hK⟩ : ∃ K,K=l.map Ce.cl:=⟨_,rfl⟩
 have HH:=lhd (aiq (h.q8 hB) (aiq (hk.q8 hB) (aiq hlen (aiq rU (aiq hB (aiq b0 (aiq hK (aiq aW hc))))))));have HG:=lhd (show Cx.Good K from hK ▸ G);have AM:=lhd hW;have GP:n<=4000:=by omega
 have Xw:cn<=1000:=by omega
 rw[<-hK];clear h aW G hc hk hlen rU hB b0 hl aZ hK hW;go_enter Tryz.func44,Tryz.ntmps44;go_wp2_with fail;rw[<-AM.out];go_loopw [5,6] (fun p5 p6 wr=>∃ (k:Nat) (A:List (Int×Int)),p6 = .int .i64 k/\k<=n/\A.length<=k*64/\Hid (wr.ownsRow W.heap.size 50 2 p5 A.length (pv A)/\Below W.heap.size W wr)) (fun _ p6 _=>n - (vI p6).toNat)
 case atStart=>exact⟨0,[],rfl,gp _,gp _,(show Hid _ from⟨World.ownsRow_nil _ _ _ _,Below.refl _ _⟩)⟩
 case round =>
  obtain⟨k,A,rfl,nC,hA,HI⟩:=hrel;obtain⟨sa,sc,Cr⟩:=qj HI.out.1;subst Cr;have b1:=Cx.q8 HI.out.2 HH.out.2.2.2.2.2.1;by_cases hlt:k < n
  ·obtain⟨x,hx⟩ : ∃ x,l[k]? = some x:=⟨_,g8 (by rw[HH.out.2.2.1];exact hlt)⟩
   obtain⟨_,_,_,h5,h6⟩:=HH.out.1.1.open;obtain⟨ad,ck⟩ : ∃ ad,a=some ad:=by
    cases a with
    | none=>have:=h5 rfl;omega
    | some ad=>exact⟨ad,rfl⟩
   subst ck;obtain⟨e0,e1,e2⟩:=zh l k x hx;have fe:=gh hx;have oY:=HH.out.1.2 x fe;have fZ:x.s.length=x.n:=by
    obtain⟨_,_,h3,_⟩:=(show Sl W 2 (.slice x.a x.n x.c) _ from oY).open;rw[qt Sd.qp] at h3;omega
   have Ep:x.n<=64:=by
    have h8:x.cl∈K:=by rw[HH.out.2.2.2.2.2.2.1];exact gI fe
    have:=HG.out.few _ h8;have:x.s.length<=64:=this;omega
   have lD:∀ U,Below W.heap.size W U->U.cell? ⟨w.heap.size,0,none⟩=some (.slice (some ad) n cap)/\U.cell? (ad.add (k*3))=some (.int .i64 x.id)/\U.cell? ⟨(ad.add (k*3)).block,(ad.add (k*3)).off+2,none⟩=some (.slice x.a x.n x.c):=fun U hU=>by
    refine⟨Cx.q8 hU HH.out.2.2.2.2.2.1,Cx.q8 hU (h6 ad rfl _ _ e0),?_⟩;rw[qi _ _ _ (by omega)];exact Cx.q8 hU (h6 ad rfl _ _ e2)
   have HX:=lhd (aiq lD (aiq oY fZ));have me:(k:Int) < n:=by omega
   clear hx h5 h6 e0 e1 e2 fe oY fZ lD;go_wp2_with fail;go_loopw [5,7] (fun p5 p7 wr=>∃ (j:Nat) (A:List (Int×Int)),p7 = .int .i64 j/\j<=x.n/\A.length<=k*64+j/\Hid (wr.ownsRow W.heap.size 50 2 p5 A.length (pv A)/\Below W.heap.size W wr)) (fun _ p7 _=>x.n - (vI p7).toNat)
   case atStart=>exact⟨0,A,rfl,gp _,by omega,HI⟩
   case round =>
    obtain⟨j,A,rfl,hj,hA,HJ⟩:=hrel;obtain⟨sa,sc,Cr⟩:=qj HJ.out.1;subst Cr;obtain⟨d0,d1,d2⟩:=HX.out.1 wr HJ.out.2;by_cases jO:j < x.n
    ·obtain⟨s,hs⟩ : ∃ s,x.s[j]? = some s:=⟨_,g8 (by rw[HX.out.2.2];exact jO)⟩
     obtain⟨_,_,_,h5,h6⟩:=(show Sl wr 2 (.slice x.a x.n x.c) _ from HX.out.2.1.q8 HJ.out.2).open;obtain⟨yd,jH⟩ : ∃ ad,x.a=some ad:=by
      cases ha:x.a with
      | none=>have:=h5 ha;omega
      | some ad=>exact⟨ad,rfl⟩
     obtain⟨e0,_⟩:=zw x.s j s hs;have ds:wr.cell? (yd.add (j*2))=some (.int .i64 s.c):=h6 yd jH _ _ e0;rw[jH] at d2;have FZ:∀ U,Below W.heap.size W U->U.cell? ⟨w.heap.size,0,none⟩=some (.slice (some ad) n cap)/\U.cell? (ad.add (k*3))=some (.int .i64 x.id)/\U.cell? ⟨(ad.add (k*3)).block,(ad.add (k*3)).off+2,none⟩=some (.slice (some yd) x.n x.c)/\U.cell? (yd.add (j*2))=some (.int .i64 s.c):=fun U hU=>by
      obtain⟨g1,g2,g3⟩:=HX.out.1 U hU;rw[jH] at g3;obtain⟨_,_,_,_,h7⟩:=(show Sl U 2 (.slice x.a x.n x.c) _ from HX.out.2.1.q8 hU).open;exact⟨g1,g2,g3,h7 yd jH _ _ e0⟩
     have dM:=lhd FZ;have IF:(j:Int) < x.n:=by omega
     have me:(k:Int) < n:=by omega
     have HA:=lhd HJ.out.1;have hz:W.heap.size<=wr.heap.size:=HJ.out.2.size;have Sa:A.length<=1000000:=by omega
     obtain⟨m,hm⟩ : ∃ m,m=A.length:=⟨_,rfl⟩
     have ag:wr.ownsRow W.heap.size 50 2 (.slice sa m sc) m (pv A):=by rw[hm];exact HJ.out.1
     have HO:=lhd (aiq ag hm);rw[<-hm] at Sa hA ⊢;clear hs h5 h6 e0 jH b1 ag hm FZ;go_wp2_with fail
     go_region_held3 (fun U=>U.cell? ⟨w.heap.size,0,none⟩=some (.slice (some ad) n cap)/\U.cell? (ad.add (k*3))=some (.int .i64 x.id)/\U.cell? ⟨(ad.add (k*3)).block,(ad.add (k*3)).off+2,none⟩=some (.slice (some yd) x.n x.c)/\U.cell? (yd.add (j*2))=some (.int .i64 s.c))
      (first | exact⟨by assumption,by assumption,by assumption,by assumption⟩ | exact⟨qk (by assumption) _,qk (by assumption) _,qk (by assumption) _,qk (by assumption) _⟩)
      (first | ((refine ju ((wr.alloc (.cells #[.int .i64 s.c,.int .i64 x.id] 50)).drew) rfl _ _ 48 rfl W.heap.size 50 jw Tryz.underlying48 rfl (by decide) (by decide) (.slice sa m sc) m (pv A) (by simp[Act.eval]) (World.ownsRow.drew (HO.out.1.alloc _)) (.slice (some ⟨wr.heap.size,0,none⟩) 1 1) 1 [.int .i64 s.c,.int .i64 x.id] (by simp[Act.eval]) ((q13 wr 50 2 [.int .i64 s.c,.int .i64 x.id] 1 rfl (by unfold maxLen;omega)).drew) rfl (q9j _ _) (by omega) (gl hz (by show wr.heap.size<=(wr.alloc (.cells #[.int .i64 s.c,.int .i64 x.id] 50)).heap.size;simp)) ?_;intro r3 w3 da aO;have Ng:=HJ.out.2.trans ((qb ((Below.refl W.heap.size wr).alloc hz (.cells #[.int .i64 s.c,.int .i64 x.id] 50)) 1).trans aO);obtain⟨g0,g1,g2,g3⟩:=dM.out w3 Ng;have R3:=lhd (aiq da Ng);clear da aO Ng)))
     all_goals
      have cA:w3.ownsRow W.heap.size 50 2 r3 (A++[(s.c,x.id)]).length (pv (A++[(s.c,x.id)])):=by
       have h1:=R3.out.1;rw[show pv A++[.int .i64 s.c,.int .i64 x.id]=pv (A++[(s.c,x.id)]) by rw[q6z];rfl] at h1;exact zm h1 (by rw[gc,HO.out.2];rfl)
      obtain⟨ra,rc,fV⟩:=qj cA;subst fV;have Hj:=lhd cA;clear cA g0 g1 g2 g3 d0 d1 d2 ds;go_wp2_with fail;go_roundw
      case measure=>simp[vI];omega
      case rel=>exact⟨j+1,A++[(s.c,x.id)],qh (by omega),by omega,by rw[gc];show A.length+1<=_;have:=HO.out.2;omega,(show Hid _ from⟨Hj.out,R3.out.2⟩)⟩
    ·have IF:¬ (j:Int) < x.n:=by omega
     go_wp2_with fail;go_roundw
     case measure=>simp[vI];omega
     case rel=>exact⟨k+1,A,qh (by omega),by omega,by omega,HJ⟩
  ·have me:¬ (k:Int) < n:=by omega
   obtain⟨N,hN⟩ : ∃ N,N=A.length:=⟨_,rfl⟩
   have Sa:N<=256000:=by omega
   have HA:=lhd (aiq HI.out.1 (aiq HI.out.2 hN));rw[<-hN];clear hN hA;obtain⟨wo,dB⟩ : ∃ wo,wo=wr:=⟨_,rfl⟩
   subst dB;go_wp2_with fail;go_loopw [8,9] (fun p8 p9 wr=>∃ (i:Nat) (M:List (Int×Int)),p9 = .int .i64 i/\i<=cn/\M.length<=i/\Hid (j8 K M=0/\wr.ownsRow W.heap.size 50 2 p8 M.length (pv M)/\Below wo.heap.size wo wr)) (fun _ p9 _=>cn - (vI p9).toNat)
   case atStart=>exact⟨0,[],rfl,gp _,gp _,(show Hid _ from⟨qbb K,World.ownsRow_nil _ _ _ _,Below.refl _ _⟩)⟩
   case round =>
    obtain⟨i,M,rfl,hi,hM,HM⟩:=hrel;obtain⟨ma,mc,MZ⟩:=qj HM.out.2.1;subst MZ;obtain⟨m,hm⟩ : ∃ m,m=M.length:=⟨_,rfl⟩
    rw[<-hm] at hM ⊢;have Hm:=lhd hm;clear hm;by_cases nz:i < cn/\0 < N
    ·obtain⟨hi1,Xx⟩:=nz;have Ia:(i:Int) < cn:=by omega
     have ZH:(0:Int) < N:=by omega
     obtain⟨sg,ZI,Cr,_,_⟩:=HA.out.1.form (by rw[<-HA.out.2.2];omega);have Nh:sa=some ⟨sg,0,none⟩:=by injection Cr
     subst Nh;obtain⟨z,hz⟩ : ∃ z,cs[i]? = some z:=⟨_,g8 (by rw[HH.out.2.2.2.1];exact hi1)⟩
     obtain⟨_,_,_,h5,h6⟩:=HH.out.2.1.open;obtain⟨cd,pf⟩ : ∃ ad,ca=some ad:=by
      cases ca with
      | none=>have:=h5 rfl;omega
      | some ad=>exact⟨ad,rfl⟩
     subst pf;obtain⟨q,hq,Sb⟩ : ∃ q:Nat,z % (N:Int)=(q:Int)/\q < N:=by
      have h1:=Int.emod_nonneg z (show ((N:Int))≠0 by omega);have h2:=Int.emod_lt_of_pos z (show 0 < (N:Int) by omega);exact⟨(z % (N:Int)).toNat,by omega,by omega⟩
     obtain⟨p,hp⟩ : ∃ p,A[q]? = some p:=⟨_,g8 (by rw[<-HA.out.2.2];exact Sb)⟩
     have xL:Below W.heap.size W wr:=HI.out.2.trans (HM.out.2.2.mono HI.out.2.size);have lD:∀ U,Below wr.heap.size wr U->U.cell? (cd.add i)=some (.int .i64 z)/\U.cell? ⟨sg,q*2,none⟩=some (.int .i64 p.1)/\U.cell? ⟨sg,q*2+1,none⟩=some (.int .i64 p.2)/\Sl U 2 (.slice ma m mc) (pv M):=fun U hU=>by
      have hr:=qa (qa HA.out.1 HM.out.2.2) hU;have hj:=(ge.1 hp).1;have hg:=kv A q p hp;have hd:=Cx.q8 (xL.trans (hU.mono xL.size)) (h6 cd rfl i (.int .i64 z) (by simp[ints,hz]));refine⟨hd,(hr.cellAt _ (by omega)).trans hg.1,(hr.cellAt _ (by omega)).trans hg.2,?_⟩;rw[Hm.out];exact(Sl.qc HM.out.2.1).q8 hU
     have HF:=lhd (aiq lD (aiq hq (aiq Sb (aiq xL hp))));clear Cr hz h5 h6 hq hp lD xL;go_upto_region 13 with fail
     go_cut [10] from 60 to 74 (fun FE wx=>Hid (wx.ownsRow wr.heap.size 50 2 FE (M++[p]).length (pv (M++[p]))/\Below wr.heap.size wr wx))
     case first =>
      rename_i J K2 hJ iZ;have jU:=Hm.out;refine q74 rfl (fun i' v w=>(([.emp wr.heap.size,.val (.slice ma m mc),.row wr.heap.size M,.val (.slice (some ⟨sg,0,none⟩) N sc),.val (.slice (some cd) cn cc),.val (.int .i64 i),.val (.pointer (some (cd.add i))),.val (.int .i64 z),.val (.slice (some ⟨sg,0,none⟩) N sc),.val (.int .i64 N),.val (.int .i64 q),.val (.pointer (some ⟨sg,q*2,none⟩)),.val (.agg #[.int .i64 p.1,.int .i64 p.2]),.one p.1 p.2,.row wr.heap.size (M++[p]),.row wr.heap.size (M++[p])] : List Sk).getD i' .any).holds v w) qop (fun i j=>!(i == 15) || j == 14) qpr (fun k w' w''=>if k=2 then (∃ g,w'.heap[g]? = some (.cells #[] 50 (0,0))/\w'.grownBy w'' (some g))/\Below wr.heap.size w' w'' else if k=14 then Below wr.heap.size w' w'' else Below w'.heap.size w' w'') [0,0,0,0,0,0,0,0,0,0,0,0,0,0,2,14] 4 (by kernel_rfl) (by kernel_rfl) ?ks 81 rfl (by kernel_rfl) (by kernel_rfl) ?kf ?kr ?step ?done
      case ks =>
       intro k j h;unfold qop at h;simp only [Bool.or_eq_true,Bool.and_eq_true,beq_iff_eq] at h;rcases h with ⟨rfl,_⟩ | ⟨rfl,_⟩ <;> decide
      case kf =>
       intro k i' v w' w'' fO aq sX h hb;by_cases e9:k=2
       ·subst e9;rw[if_pos rfl] at hb;obtain⟨⟨g,dd,eW⟩,_⟩:=hb
        match i',fO,aq,sX,h with
        | 0,fO,_,_,_=>exact absurd fO (by decide)
        | 2,_,aq,_,_=>exact absurd rfl aq
        | 14,_,_,sX,_=>exact absurd sX (by decide)
        | 15,_,_,sX,_=>exact absurd sX (by decide)
        | 13,_,_,_,h=>exact Sk.qg8 h dd eW
        | 1,_,_,_,h=>exact h
        | 3,_,_,_,h=>exact h
        | 4,_,_,_,h=>exact h
        | 5,_,_,_,h=>exact h
        | 6,_,_,_,h=>exact h
        | 7,_,_,_,h=>exact h
        | 8,_,_,_,h=>exact h
        | 9,_,_,_,h=>exact h
        | 10,_,_,_,h=>exact h
        | 11,_,_,_,h=>exact h
        | 12,_,_,_,h=>exact h
        | n+16,_,_,_,h=>exact trivial
       ·rw[if_neg e9] at hb;by_cases Ga:k=14
        ·subst Ga
         match i',fO,aq,sX,h with
         | 0,fO,_,_,_=>exact absurd fO (by decide)
         | 2,fO,_,_,_=>exact absurd fO (by decide)
         | 13,fO,_,_,_=>exact absurd fO (by decide)
         | 14,_,aq,_,_=>exact absurd rfl aq
         | 15,_,_,sX,_=>exact absurd sX (by decide)
         | 1,_,_,_,h=>exact h
         | 3,_,_,_,h=>exact h
         | 4,_,_,_,h=>exact h
         | 5,_,_,_,h=>exact h
         | 6,_,_,_,h=>exact h
         | 7,_,_,_,h=>exact h
         | 8,_,_,_,h=>exact h
         | 9,_,_,_,h=>exact h
         | 10,_,_,_,h=>exact h
         | 11,_,_,_,h=>exact h
         | 12,_,_,_,h=>exact h
         | n+16,_,_,_,h=>exact trivial
        ·rw[if_neg Ga] at hb;exact Sk.q8 h hb
      case kr =>
       intro k w' w'' h1 h2;split at h2
       ·exact h2.2
       ·split at h2
        ·exact h2
        ·exact h2.mono h1.size
      case step =>
       intro i' o ho a w' hw hd ae az;obtain⟨fz,fx,fy,fM⟩:=HF.out.1 w' hw
       match i',ho,hd with
       | 0,ho,hd =>
        obtain rfl:=osi ho;exact⟨rfl,q5z 48 0 _ rfl #[] (by simp) (.slice (some ⟨w'.heap.size,0,none⟩) 0 0) (w'.alloc (.cells #[] 50)) (by simp[go_sem]) ⟨_,rfl,⟨w'.heap.size,rfl,hw.size,heap_alloc_new w' _⟩,(Below.refl _ _).alloc (nlr _) _⟩⟩
       | 1,ho,hd =>
        obtain rfl:=osi ho;exact⟨rfl,q1b _ (.inl rfl) ⟨_,rfl,ae 8 (qu (by kernel_rfl)),Below.refl _ _⟩⟩
       | 2,ho,hd =>
        obtain rfl:=osi ho;obtain⟨g,f0,Xy,Sc⟩ : (Sk.emp wr.heap.size).holds (a.tmps.getD 60 undef) w':=hd 0 _ _ rfl rfl (by kernel_rfl);have f1:a.tmps.getD 61 undef = .slice ma m mc:=hd 1 _ _ rfl rfl (by kernel_rfl);refine⟨rfl,q6b _ _ 48 rfl wr.heap.size 50 jw Tryz.underlying48 rfl (by decide) (by decide) (.slice (some ⟨g,0,none⟩) 0 0) 0 [] f0 ⟨rfl,.inr ⟨g,0,#[],rfl,Xy,Sc,nlr _,by unfold maxLen;omega,rfl,rfl⟩⟩ _ m (pv M) f1 fM (by rw[yq,Hm.out]) (q5i _) (by omega) hw.size ?_⟩;intro v' w2 hr hg hb;refine⟨v',rfl,?_,?_⟩
        ·show w2.ownsRow _ _ _ v' M.length (pv M);exact zm hr (by rw[<-Hm.out];omega)
        ·rw[if_pos rfl];exact⟨⟨g,Sc,hg⟩,hb⟩
       | 3,ho,hd =>
        obtain rfl:=osi ho;exact⟨rfl,q1b _ (.inl rfl) ⟨_,rfl,ae 5 (qu (by kernel_rfl)),Below.refl _ _⟩⟩
       | 4,ho,hd =>
        obtain rfl:=osi ho;exact⟨rfl,q1b _ (.inl rfl) ⟨_,rfl,ae 1 (qu (by kernel_rfl)),Below.refl _ _⟩⟩
       | 5,ho,hd =>
        obtain rfl:=osi ho;exact⟨rfl,q1b _ (.inl rfl) ⟨_,rfl,ae 9 (qu (by kernel_rfl)),Below.refl _ _⟩⟩
       | 6,ho,hd =>
        obtain rfl:=osi ho;have f0:a.tmps.getD 64 undef = .slice (some cd) cn cc:=hd 4 _ _ rfl rfl (by kernel_rfl);have f1:a.tmps.getD 65 undef = .int .i64 i:=hd 5 _ _ rfl rfl (by kernel_rfl);exact⟨rfl,qc9 22 _ _ rfl _ _ f0 f1 (.pointer (some (cd.add i))) (by simp[go_sem,Ia]) ⟨_,rfl,rfl,Below.refl _ _⟩⟩
       | 7,ho,hd =>
        obtain rfl:=osi ho;have f0:a.tmps.getD 66 undef = .pointer (some (cd.add i)):=hd 6 _ _ rfl rfl (by kernel_rfl);exact⟨rfl,q8o _ _ rfl _ f0 (.int .i64 z) (by simp[go_sem,fz]) ⟨_,rfl,rfl,Below.refl _ _⟩⟩
       | 8,ho,hd =>
        obtain rfl:=osi ho;exact⟨rfl,q1b _ (.inl rfl) ⟨_,rfl,ae 5 (qu (by kernel_rfl)),Below.refl _ _⟩⟩
       | 9,ho,hd =>
        obtain rfl:=osi ho;have f0:a.tmps.getD 68 undef = .slice (some ⟨sg,0,none⟩) N sc:=hd 8 _ _ rfl rfl (by kernel_rfl);exact⟨rfl,qi5 _ rfl Tryz.underlying48 _ _ _ f0 ⟨_,rfl,rfl,Below.refl _ _⟩⟩
       | 10,ho,hd =>
        obtain rfl:=osi ho;have f0:a.tmps.getD 67 undef = .int .i64 z:=hd 7 _ _ rfl rfl (by kernel_rfl);have f1:a.tmps.getD 69 undef = .int .i64 N:=hd 9 _ _ rfl rfl (by kernel_rfl);refine⟨rfl,qdj _ _ _ rfl q7a #[.int .i64 z,.int .i64 N] (by rw[<-f0,<-f1];simp[Act.eval]) ((qoq z N w' (by omega) (by omega)).mono ?_)⟩;rintro e w2 ⟨rfl,hb⟩;exact⟨_,rfl,_,rfl,by show Value.int .i64 (z % (N:Int))=_;rw[HF.out.2.1],hb⟩
       | 11,ho,hd =>
        obtain rfl:=osi ho;have f0:a.tmps.getD 63 undef = .slice (some ⟨sg,0,none⟩) N sc:=hd 3 _ _ rfl rfl (by kernel_rfl);have f1:a.tmps.getD 70 undef = .int .i64 q:=hd 10 _ _ rfl rfl (by kernel_rfl);have GW:(q:Int) < N:=by have:=HF.out.2.2.1;omega
        exact⟨rfl,qc9 48 _ _ rfl _ _ f0 f1 (.pointer (some ⟨sg,q*2,none⟩)) (by simp[go_sem,GW]) ⟨_,rfl,rfl,Below.refl _ _⟩⟩
       | 12,ho,hd =>
        obtain rfl:=osi ho;have f0:a.tmps.getD 71 undef = .pointer (some ⟨sg,q*2,none⟩):=hd 11 _ _ rfl rfl (by kernel_rfl);exact⟨rfl,q8o _ _ rfl _ f0 (.agg #[.int .i64 p.1,.int .i64 p.2]) (by simp[go_sem,fx,fy]) ⟨_,rfl,rfl,Below.refl _ _⟩⟩
       | 13,ho,hd =>
        obtain rfl:=osi ho;have f0:a.tmps.getD 72 undef = .agg #[.int .i64 p.1,.int .i64 p.2]:=hd 12 _ _ rfl rfl (by kernel_rfl);exact⟨rfl,q5z 48 1 _ rfl #[(0,.agg #[.int .i64 p.1,.int .i64 p.2])] (by rw[<-f0];simp[Act.eval]) _ _ (qpm w' p.1 p.2) ⟨_,rfl,⟨w'.heap.size,rfl,q13 w' 50 2 [.int .i64 p.1,.int .i64 p.2] 1 rfl (by unfold maxLen;omega)⟩,(Below.refl _ _).alloc (nlr _) _⟩⟩
       | 14,ho,hd =>
        obtain rfl:=osi ho;have f0:w'.ownsRow wr.heap.size 50 2 (a.tmps.getD 62 undef) M.length (pv M):=hd 2 _ _ rfl rfl (by kernel_rfl);obtain⟨g,f1,f2⟩ : (Sk.one p.1 p.2).holds (a.tmps.getD 73 undef) w':=hd 13 _ _ rfl rfl (by kernel_rfl);refine⟨rfl,q6b _ _ 48 rfl wr.heap.size 50 jw Tryz.underlying48 rfl (by decide) (by decide) _ M.length (pv M) rfl f0 _ 1 [.int .i64 p.1,.int .i64 p.2] rfl f2 rfl (q9j _ _) (by have:=Hm.out;omega) hw.size ?_⟩;intro v' w2 hr hg hb;refine⟨v',rfl,?_,?_⟩
        ·show w2.ownsRow _ _ _ v' (M++[p]).length (pv (M++[p]));rw[q6z,gc];exact hr
        ·rw[if_neg (by decide),if_pos rfl];exact hb
       | 15,ho,hd =>
        obtain rfl:=osi ho;have f0:w'.ownsRow wr.heap.size 50 2 (a.tmps.getD 74 undef) (M++[p]).length (pv (M++[p])):=hd 14 _ _ rfl rfl (by kernel_rfl);exact⟨rfl,q1b _ (.inr rfl) ⟨_,rfl,f0,Below.refl _ _⟩⟩
      case done =>
       intro a w' az jR hd ae hb;have f15:w'.ownsRow wr.heap.size 50 2 (a.tmps.getD 10 undef) (M++[p]).length (pv (M++[p])):=hd 15 _ _ rfl rfl (fun k=>by unfold qop;simp);refine iZ _ _ (Met.intro (hJ _ _ ⟨a.tmps.getD 10 undef,a.tmps.getD 60 undef,a.tmps.getD 61 undef,a.tmps.getD 62 undef,a.tmps.getD 63 undef,a.tmps.getD 64 undef,a.tmps.getD 65 undef,a.tmps.getD 66 undef,a.tmps.getD 67 undef,a.tmps.getD 68 undef,a.tmps.getD 69 undef,a.tmps.getD 70 undef,a.tmps.getD 71 undef,a.tmps.getD 72 undef,a.tmps.getD 73 undef,a.tmps.getD 74 undef,(show Hid _ from⟨f15,hb⟩),(q8z az jR ae).trans ?_⟩));kernel_rfl
     case rest =>
      obtain⟨Js,EA,Ni⟩:=qj hcut.out.1;subst Ni;have hlen:(M++[p]).length=m+1:=by rw[gc,<-Hm.out];rfl
      have Nj:Below W.heap.size W wc:=HF.out.2.2.2.1.trans (hcut.out.2.mono HF.out.2.2.2.1.size);have af:=qmb (.slice a n cap) (.slice Js (M++[p]).length EA) l (M++[p]) wc (HH.out.1.q8 Nj) (by have:=HH.out.2.2.1;omega) HH.out.2.2.2.2.2.2.2.1 (by rw[<-HH.out.2.2.2.2.2.2.1];exact HG.out) HH.out.2.2.2.2.2.2.2.2 (Sl.qc hcut.out.1) (by rw[hlen];omega);rw[<-HH.out.2.2.2.2.2.2.1] at af;obtain⟨E,hE⟩ : ∃ E,E=j8 K (M++[p]):=⟨_,rfl⟩
      rw[<-hE] at af;rw[hlen] at af ⊢;have c0:=Cx.q8 Nj HH.out.2.2.2.2.2.1;have Gb:wc.ownsRow W.heap.size 50 2 (.slice Js (m+1) EA) (M++[p]).length (pv (M++[p])):=by
       have h1:=qf hcut.out.1 HF.out.2.2.2.1.size;rw[hlen] at h1 ⊢;exact h1
      have HC:=lhd (aiq af (aiq hE (aiq Gb (aiq hcut.out.2 hlen))));clear af hE Gb Nj hlen hcut;go_wp2_with fail;refine HC.out.1.mono ?_;rintro e w4 ⟨rfl,aT⟩;have aF:Below wo.heap.size wo w4:=(HM.out.2.2.trans (HC.out.2.2.2.1.mono HM.out.2.2.size)).trans (aT.mono (gl HM.out.2.2.size HC.out.2.2.2.1.size));have cA:=qa HC.out.2.2.1 aT;have Se:=qa (qa HM.out.2.1 HC.out.2.2.2.1) aT;have H4:=lhd (aiq aF (aiq cA Se));clear aF cA Se aT c0;by_cases Nk:E=0
      ·subst Nk;go_wp2_with fail;go_roundw
       case measure=>simp[vI];omega
       case rel =>
        refine⟨i+1,M++[p],qh (by omega),by omega,by rw[HC.out.2.2.2.2];omega,(show Hid _ from⟨HC.out.2.1.symm,?_,H4.out.1⟩)⟩;have:=H4.out.2.1;rw[HC.out.2.2.2.2] at this ⊢;exact this
      ·have ZJ:(E == 0)=false:=by simpa using Nk
       clear Nk;go_wp2_with fail;go_roundw
       case measure=>simp[vI];omega
       case rel =>
        refine⟨i+1,M,qh (by omega),by omega,by have:=Hm.out;omega,(show Hid _ from⟨HM.out.1,?_,H4.out.1⟩)⟩;have:=H4.out.2.2;rw[<-Hm.out] at this ⊢;exact this
    ·have aB:(i:Int) < cn->¬ (0:Int) < N:=fun h1 h2=>nz ⟨by omega,by omega⟩
     have fin:∃ r M,Value.slice ma m mc=r/\M.length<=cs.length/\j8 K M=0/\wr.ownsRow w.heap.size 50 2 r M.length (pv M)/\Below w.heap.size w wr:=by
      refine⟨_,M,rfl,by have:=HH.out.2.2.2.1;have:=Hm.out;omega,HM.out.1,?_,HH.out.2.2.2.2.1.trans ((HI.out.2.trans (HM.out.2.2.mono HI.out.2.size)).mono HH.out.2.2.2.2.1.size)⟩;have h1:=qf HM.out.2.1 HH.out.2.2.2.2.1.size;rw[<-Hm.out] at h1 ⊢;exact h1
     have Gc:=lhd fin;clear fin;by_cases hi1:(i:Int) < cn
     ·have Xx:=aB hi1;clear aB nz;go_wp2_with fail;go_ret;obtain⟨r,M',e,h⟩:=Gc.out;subst e;exact⟨_,rfl,M',h⟩
     ·clear aB nz;go_wp2_with fail;go_ret;obtain⟨r,M',e,h⟩:=Gc.out;subst e;exact⟨_,rfl,M',h⟩
end Go.Proofs.YtlhicnfeajejhaaGreatDoor
namespace Go.Cx
open Go.Proofs.YtlhicnfeajejhaaGreatDoor
section
variable {K:List Cl} {hi lo:Int->Int}
theorem q70 (f g:Int->Int) (r:Int):∀ K:List Cl,q1q (fun d=>f d+g d) r K=q1q f r K+q1q g r K
 | []=>rfl
 | x :: K=>by
  show (f x.id+g x.id)*se x.s r+q1q _ r K=(f x.id*se x.s r+q1q f r K)+(g x.id*se x.s r+q1q g r K)
  rw[q70 f g r K,Int.add_mul];omega
theorem qjr {n:Nat} {f h f' h':Int->Int} (k:Clr K hi n f h f' h'):∀ d,h' d≠0->h d≠0\/∃ c,hi c=d/\hi c≠0:=by
 induction k with
 | done f h _=>exact fun d hd=>.inl hd
 | step n f h f' h' c h1 h2 _ _ ih =>
  intro d hd;rcases ih d hd with h3 | h3
  ·by_cases hc:d=hi c
   ·exact .inr ⟨c,hc.symm,h2⟩
   ·left
    have h3:h d+qw (hi c) (-(sgn K (hi c) c)*f c) d≠0:=h3;unfold qw at h3;rw[if_neg hc,bo] at h3;exact h3
  ·exact .inr h3
theorem qos {n:Nat} {f h f' h':Int->Int} (k:Clr K hi n f h f' h'):∀ d,f' d=f d+(q1q h' d K - q1q h d K):=by
 induction k with
 | done f h _=>intro d;omega
 | step n f h f' h' c h1 h2 _ _ ih =>
  intro d;rw[ih d,q70];have:bdD K (hi c) (-(sgn K (hi c) c)*f c) d=q1q (qw (hi c) (-(sgn K (hi c) c)*f c)) d K:=q5f _ _ _;show f d+bdD K (hi c) (-(sgn K (hi c) c)*f c) d+_=_;rw[this];omega
end
end Go.Cx
namespace Go.Proofs.YtlhicnfeajejhaaGreatDoor
open Go.RowKit Go.Cx
theorem qd0 (x:Cl) (K:List Cl):z8 (x :: K)=(x.s.map fun y=>(x.id,y))++z8 K:=rfl
theorem q8b:∀ {K:List Cl},KOk K->(z8 K).length<=19*K.length
 | [],_=>gp _
 | x :: K,h=>by
  have h1:=q8b (K:=K) fun y hy=>h y (.tail _ hy)
  have h2:=(h x (.head _)).2.1;rw[qd0,gc,gn,gx];omega
section
variable (v u:Value) (K:List Cl) (m:List (Int×Int)) (w:World) (h:(Mok.cx K).holds v w) (hK:KOk K) (hl:K.length<=180) (G:Cx.Good K) (hc:chk K=(0,0))
include h hK hl
end
end Go.Proofs.YtlhicnfeajejhaaGreatDoor
namespace Go.Proofs.YtlhicnfeajejhaaGreatDoor
open Go.RowKit Go.Cx
attribute [local go_sem ↓] Go.wp_at_zero Go.wp_at_succ
theorem qjt {K:List Cl} (G:Cx.Good K) (hK:KOk K) {M:List (Int×Int)} (hm:j8 K M=0):∀ p∈M,I64 p.1/\I64 p.2:=fun p hp=>by
 obtain⟨hi,lo,cz,MM,_⟩:=q84 G hm;obtain⟨h1,h2⟩:=(yl G M _ _ _ cz).2 p hp;have h1:hi p.1=p.2:=h1;have hs:=MM.sg p.1 (by rw[h1];exact h2);rw[h1] at hs;obtain⟨x,hx,y,hy,e1,e2,_⟩:=G.jm hs;exact⟨e2 ▸ (hK y hy).1.1,e1 ▸ (hK x hx).1.1⟩
end Go.Proofs.YtlhicnfeajejhaaGreatDoor
namespace Go.Proofs.YtlhicnfeajejhaaGreatDoor
open Go.RowKit Go.Cx
noncomputable def qrb (K:List Cl) (m:List (Int×Int)) (d:Int):List Int:=(List.range ((yt K m (d - 1)).length*(yt K m d).length)).map fun t=>bdE (canon K) (mhi K m) (mlo K m) d (t / (yt K m d).length) (t % (yt K m d).length)
theorem qt7 (K:List Cl) (m:List (Int×Int)) (d:Int):(qrb K m d).length=(yt K m (d - 1)).length*(yt K m d).length:=by unfold qrb;rw[gn,List.length_range]
theorem qr5 {K:List Cl} (G:Cx.Good K) (m:List (Int×Int)) (d:Int):(yt K m d).length<=K.length:=by
 unfold yt;split
 ·rw[G.cells.1];exact qri G _ _ _
 ·exact gp _
section
variable (v u:Value) (K:List Cl) (m:List (Int×Int)) (w:World) (h:(Mok.cx K).holds v w) (hK:KOk K) (hl:K.length<=180) (k:(Mok.prs m).holds u w) (hp:∀ p∈m,I64 p.1/\I64 p.2) (G:Cx.Good K) (hE:opE K m=0) (d:Int) (hd0 : -1000<=d) (hd1:d<=1000)
include h hK hl k hp G hE hd0 hd1
theorem qpu:Calls Tryz.prog 54 #[v,u,.int .i64 d] w fun e w'=>∃ E,e = .returned (.agg #[.int .i64 (yt K m (d - 1)).length,.int .i64 (yt K m d).length,.slice (some ⟨E,0,none⟩) ((yt K m (d - 1)).length*(yt K m d).length) ((yt K m (d - 1)).length*(yt K m d).length)])/\(∃ f,EW w' E ((yt K m (d - 1)).length*(yt K m d).length) f)/\(w.heap.size<=E/\E < w'.heap.size)/\(Mok.mat (yt K m (d - 1)).length (yt K m d).length (qrb K m d)).holds (.agg #[.int .i64 (yt K m (d - 1)).length,.int .i64 (yt K m d).length,.slice (some ⟨E,0,none⟩) ((yt K m (d - 1)).length*(yt K m d).length) ((yt K m (d - 1)).length*(yt K m d).length)]) w'/\Below w.heap.size w w':=by
 obtain⟨x,l,rfl,h1,h2⟩:=h;have bH:l.length<=180:=by rw[<-h2,gn] at hl;exact hl
 refine(qsa x u l m w h1 (by omega) (hK.cok h2) k hp d ⟨by omega,by omega⟩).mono ?_;rintro e w' ⟨hb,hr⟩;rw[h2] at hr;rcases hr with ⟨aq,_⟩ | ⟨_,E,nr,nc,rfl,rfl,rfl,h5,I6,Ci⟩
 ·exact absurd hE aq
 ·have n1:=qr5 G m (d - 1);have n2:=qr5 G m d;have hN:(yt K m (d - 1)).length*(yt K m d).length<=40000:=gl (Nat.mul_le_mul (show _<=200 by omega) (show _<=200 by omega)) (by decide);exact⟨E,rfl,⟨_,Ci⟩,⟨h5,I6⟩,⟨_,rfl,Ci.sl (by omega)⟩,hb⟩
theorem qqs:Calls Tryz.prog 54 #[v,u,.int .i64 d] w (Gvs (.mat (yt K m (d - 1)).length (yt K m d).length (qrb K m d)) w):=by
 refine(qpu v u K m w h hK hl k hp G hE d hd0 hd1).mono ?_;rintro e w' ⟨E,rfl,_,_,hm,hb⟩;exact⟨_,rfl,hm,hb⟩
end
theorem qt8 {K:List Cl} (G:Cx.Good K) (hc:chk K=(0,0)) {m:List (Int×Int)} (hm:j8 K m=0):opE K m=0:=by unfold opE;rw[hc,if_pos rfl,G.cells.1];exact hm
end Go.Proofs.YtlhicnfeajejhaaGreatDoor
