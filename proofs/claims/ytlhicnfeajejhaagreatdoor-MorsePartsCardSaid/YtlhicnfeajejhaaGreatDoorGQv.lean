/- Steps towards MorseParts. Conditions: none. -/
import Derived.Test.YtlhicnfeajejhaaGreatDoorGQs
set_option maxRecDepth 1000000
set_option maxHeartbeats 16000000
namespace Go.Proofs.YtlhicnfeajejhaaGreatDoor
open Go.RowKit Go.Cx
attribute [local go_sem ↓] Go.wp_at_zero Go.wp_at_succ
theorem qjn {w w':World} {st g n c:Nat} {xs:List Value} {row:Option Nat} (h:Sl w st (.slice (some ⟨g,0,none⟩) n c) xs) (hg:w.grownBy w' row) (al:row≠some g):Sl w' st (.slice (some ⟨g,0,none⟩) n c) xs:=by obtain⟨h1,h2,h3,h4,h5⟩:=h.open;refine⟨_,n,c,rfl,h1,h2,h3,(fun e=>by cases e),fun ad ha j u hj=>?_⟩;obtain rfl:=osi ha;have:=h5 ⟨g,0,none⟩ rfl j u hj;rw[Addr.add_lit] at this ⊢;exact ql hg this fun k hk e=>al (by rw[hk];exact congrArg some e.symm)
end Go.Proofs.YtlhicnfeajejhaaGreatDoor
namespace Go.Cx
open Go.Proofs.YtlhicnfeajejhaaGreatDoor
section
variable {K:List Cl}
theorem qg6 {m:List (Int×Int)} (h:xk K zz zz m=none):j8 K m=42:=by unfold j8;rw[show (fun _=>0:Int->Int)=zz from rfl,h]
theorem qg7 (G:Good K) {m:List (Int×Int)} {st:(Int->Int)×(Int->Int)} (h:xk K zz zz m=some st) (hc:∃ c,yp K st.1 c):j8 K m=43:=by
 classical
 unfold j8;rw[show (fun _=>0:Int->Int)=zz from rfl,h];obtain⟨c,hc⟩:=hc;refine if_pos ?_;rcases q0e m _ _ st h c (q46 G hc) with h2 | ⟨p,hp,rfl⟩
 ·exact absurd rfl h2
 ·exact⟨p,hp,hc⟩
theorem qjo {m:List (Int×Int)} {st:(Int->Int)×(Int->Int)} (h:xk K zz zz m=some st) (hc:¬ ∃ c,yp K st.1 c):j8 K m=0:=by
 classical
 unfold j8;rw[show (fun _=>0:Int->Int)=zz from rfl,h];exact if_neg fun ⟨p,_,hp⟩=>hc ⟨_,hp⟩
theorem qjp {ps:List (Int×Int)} {k:Nat} {p:Int×Int} {hi lo:Int->Int} (hp:ps[k]? = some p) (h:xk K zz zz (ps.take k)=some (hi,lo)) (hf:kc K hi lo p.1 p.2=true):xk K zz zz (ps.take (k+1))=some (pu hi p.1 p.2,pu lo p.2 p.1):=by rw[gq,hp];show xk K zz zz (ps.take k++[p])=_;rw[q14,h];show (if kc K hi lo p.1 p.2=true then _ else none)=_;rw[if_pos hf]
theorem qjq {ps:List (Int×Int)} {k:Nat} {p:Int×Int} {hi lo:Int->Int} (hp:ps[k]? = some p) (h:xk K zz zz (ps.take k)=some (hi,lo)) (hf:kc K hi lo p.1 p.2=false):xk K zz zz ps=none:=by
 have h1:xk K zz zz (ps.take (k+1))=none:=by rw[gq,hp];show xk K zz zz (ps.take k++[p])=_;rw[q14,h];show (if kc K hi lo p.1 p.2=true then _ else none)=_;rw[if_neg (by rw[hf];exact Bool.false_ne_true)]
 rw[<-gu (k+1) ps];exact q3i _ _ h1
end
end Go.Cx
namespace Go.Proofs.YtlhicnfeajejhaaGreatDoor
open Go.RowKit Go.Cx
attribute [local go_sem ↓] Go.wp_at_zero Go.wp_at_succ
theorem qmb (v pvv:Value) (l:List Ce) (ps:List (Int×Int)) (w:World) (h:SlC w v l) (hl:l.length<=4000) (aK:∀ x∈l,x.s.length<=1099511627776) (G:Cx.Good (l.map Ce.cl)) (hc:chk (l.map Ce.cl)=(0,0)) (hp:Sl w 2 pvv (pv ps)) (cm:ps.length<=1000000) :
  Calls Tryz.prog 50 #[.agg #[v],pvv] w fun e w'=>e = .returned (.int .i64 (j8 (l.map Ce.cl) ps))/\Below w.heap.size w w':=by
 obtain⟨a,n,cap,rfl⟩:=qg h.1;obtain⟨pa,pn,pc,rfl⟩:=qg hp;have iw:ps.length=pn:=by obtain⟨_,_,h3,_⟩:=hp.open;rw[yq] at h3;omega
 rw[iw] at cm;obtain⟨W,hW⟩ : ∃ W:World,W=w.alloc (.cells #[.slice a n cap] 26):=⟨_,rfl⟩
 have hB:Below w.heap.size w W:=by rw[hW];exact bal w _
 have b0:W.cell? ⟨w.heap.size,0,none⟩=some (.slice a n cap):=by rw[hW];exact qd w _ _ (0,0) 0
 have ll:=qma _ l W (h.q8 hB) hl aK G hc;obtain⟨oD,nk,_⟩:=hp.open;unfold maxLen at nk;obtain⟨K,hK⟩ : ∃ K,K=l.map Ce.cl:=⟨_,rfl⟩
 have HH:=lhd (aiq (h.q8 hB) (aiq (hp.q8 hB) (aiq iw (aiq hB (aiq b0 (aiq ll (aiq hK (aiq aK hl))))))));have HG:=lhd (show Cx.Good K from hK ▸ G);have ly:=lhd hW;rw[<-hK];clear h aK G hc hp iw hB b0 ll hl hK hW;go_enter Tryz.func50,Tryz.ntmps50;go_wp2_with fail;rw[<-ly.out];refine HH.out.2.2.2.2.2.1.mono ?_;rintro e w1 ⟨rfl,ai⟩;have H1:=lhd ai;clear ai;go_wp2_with fail;go_loopw [7] (fun p wr=>∃ k:Nat,p = .int .i64 k/\k<=pn/\Hid ((∃ hi lo,xk K zz zz (ps.take k)=some (hi,lo))/\Below W.heap.size W wr)) (fun p _=>pn - (vI p).toNat)
 case atStart=>exact⟨0,rfl,go _,(show Hid _ from⟨⟨zz,zz,by rw[List.take_zero,xk]⟩,H1.out⟩)⟩
 case round =>
  obtain⟨k,rfl,hk,HI⟩:=hrel;obtain⟨⟨hi,lo,aC⟩,aR⟩:=HI.out;have tZ:∀ (U:World) (x:Value) (y z:Int),Below W.heap.size W U->x = .slice a n cap->Calls Tryz.prog 114 #[.agg #[x],.int .i64 y,.int .i64 z] U fun e w'=>e = .returned (.int .i64 (sgn K z y))/\Below U.heap.size U w':=fun U x y z hU hx=>by rw[hx,HH.out.2.2.2.2.2.2.1];exact qjb _ l y z U (HH.out.1.q8 hU) (by have:=HH.out.2.2.2.2.2.2.2.2;omega) HH.out.2.2.2.2.2.2.2.1 (by rw[<-HH.out.2.2.2.2.2.2.1];exact HG.out)
  have HS:=lhd (aiq aC (aiq aR tZ));clear aC aR tZ;by_cases hlt:k < pn
  ·obtain⟨p,Na⟩ : ∃ p,ps[k]? = some p:=⟨_,g8 (by rw[HH.out.2.2.1];exact hlt)⟩
   obtain⟨_,_,_,h5,h6⟩:=HH.out.2.1.open;obtain⟨ad,cu⟩:=sadq h5 (by omega)
   subst cu;have hg:=kv ps k p Na;have mV:∀ U,Below W.heap.size W U->U.cell? ⟨w.heap.size,0,none⟩=some (.slice a n cap)/\U.cell? (ad.add (k*2))=some (.int .i64 p.1)/\U.cell? ⟨(ad.add (k*2)).block,(ad.add (k*2)).off+1,none⟩=some (.int .i64 p.2):=fun U hU=>by refine⟨Cx.q8 hU HH.out.2.2.2.2.1,Cx.q8 hU (h6 ad rfl _ _ hg.1),?_⟩;rw[qi _ _ _ (by omega)];exact Cx.q8 hU (h6 ad rfl _ _ hg.2)
   have rn:∀ (U:World) (c:Int),Below W.heap.size W U->Calls Tryz.prog 107 #[.slice (some ad) k pc,.int .i64 c] U fun e w'=>e = .returned (.bool (pdB hi lo c))/\Below U.heap.size U w':=fun U c hU=>by
    have hs:Sl U 2 (.slice (some ad) k pc) (pv (ps.take k)):=by have:=(HH.out.2.1.q8 hU).take (k:=k) (by omega);rw[qbl ps k (by rw[HH.out.2.2.1];omega)] at this;exact this
    refine(qja _ (ps.take k) c U hs (by rw[gd];omega)).mono ?_;rintro e w' ⟨q,rfl,hq,hb⟩;refine⟨?_,hb⟩;rw[show q=pdB hi lo c from Bool.eq_iff_iff.2 (hq.trans (qol HG.out HS.out.1 c).symm)]
   have B8:Below W.heap.size W wr.drew:=qb HS.out.2.1 1;have HF:=lhd (aiq mV rn);have HP:=lhd Na;have ig:(k:Int)<=pc:=by omega
   have pj:(k:Int) < pn:=by omega
   clear h5 h6 hg mV rn Na;go_wp2_with fail
   go_region_held_law (fun U=>U.cell? ⟨w.heap.size,0,none⟩=some (.slice a n cap)/\U.cell? (ad.add (k*2))=some (.int .i64 p.1)/\U.cell? ⟨(ad.add (k*2)).block,(ad.add (k*2)).off+1,none⟩=some (.int .i64 p.2)) (first | exact HF.out.1 _ B8 | exact HF.out.1 _ B9 | fail)
    (first | (go_at_call 107;refine(HF.out.2 _ p.1 B8).mono ?_;rintro e w9 ⟨rfl,lS⟩;have B9:Below W.heap.size W w9:=(btr B8 lS)))
   have G7:Below W.heap.size W w9.drew:=qb B9 1;obtain⟨q1,fW⟩ : ∃ q,q=pdB hi lo p.1:=⟨_,rfl⟩
   rw[<-fW];have IY:=lhd fW;clear lS B9 B8 fW;go_wp2_with fail
   go_region_held_law (fun U=>U.cell? ⟨w.heap.size,0,none⟩=some (.slice a n cap)/\U.cell? (ad.add (k*2))=some (.int .i64 p.1)/\U.cell? ⟨(ad.add (k*2)).block,(ad.add (k*2)).off+1,none⟩=some (.int .i64 p.2)) (first | exact HF.out.1 _ G7 | exact HF.out.1 _ Jc | fail)
    (first | (go_at_call 107;refine(HF.out.2 _ p.2 G7).mono ?_;rintro e om ⟨rfl,eM⟩;have Jc:Below W.heap.size W om:=(btr G7 eM)))
   have G8:Below W.heap.size W om.drew:=qb Jc 1;obtain⟨q2,lI⟩ : ∃ q,q=pdB hi lo p.2:=⟨_,rfl⟩
   rw[<-lI];have Jd:=lhd (aiq lI Jc);clear eM Jc G7 lI;have mP:kc K hi lo p.1 p.2=false->j8 K ps=42:=fun hf=>qg6 (qjq HP.out HS.out.1 hf)
   have HE:=lhd mP;clear mP;have i7:∀ U,Below W.heap.size W U->Below w.heap.size w U:=fun U hU=>(btr HH.out.2.2.2.1 hU)
   have HL:=lhd i7;clear i7;cases q1 with
   | true =>
    go_wp2_with fail
    go_quiet (fail)
    go_wp2;go_ret;refine⟨?_,HL.out _ (qb Jd.out.2 _)⟩;rw[HE.out (by unfold kc;rw[<-IY.out];simp)];rfl
   | false =>
    cases q2 with
    | true =>
     go_wp2_with fail
     go_quiet (fail)
     go_wp2;go_ret;refine⟨?_,HL.out _ (qb Jd.out.2 _)⟩;rw[HE.out (by unfold kc;rw[<-Jd.out.1];simp)];rfl
    | false =>
     obtain⟨sv,rS⟩ : ∃ sv,sv=sgn K p.2 p.1:=⟨_,rfl⟩
     obtain⟨bv,jY⟩ : ∃ bv,(sv == 0)=bv:=⟨_,rfl⟩
     have G9:kc K hi lo p.1 p.2=!bv:=by unfold kc;rw[<-IY.out,<-Jd.out.1,<-rS,<-jY];simp[bne]
     have Sb:=lhd G9;have kH:∀ U,Below W.heap.size W U->Calls Tryz.prog 114 #[.agg #[.slice a n cap],.int .i64 p.1,.int .i64 p.2] U fun e w'=>e = .returned (.int .i64 sv)/\Below U.heap.size U w':=fun U hU=>by rw[rS];exact HS.out.2.2 U _ p.1 p.2 hU rfl
     have Ed:=lhd kH;clear G9 kH rS;go_wp2_with fail
     go_region_held_law (fun U=>U.cell? ⟨w.heap.size,0,none⟩=some (.slice a n cap)/\U.cell? (ad.add (k*2))=some (.int .i64 p.1)/\U.cell? ⟨(ad.add (k*2)).block,(ad.add (k*2)).off+1,none⟩=some (.int .i64 p.2)) (first | exact HF.out.1 _ G8 | exact HF.out.1 _ Nb | fail)
      (first | (go_at_call 114;refine(Ed.out _ G8).mono ?_;rintro e pR ⟨rfl,eN⟩;have Nb:Below W.heap.size W pR:=(btr G8 eN)))
     have HB:=lhd Nb;clear eN Nb G8;cases bv with
     | true =>go_wp2_with fail;go_ret;refine⟨?_,HL.out _ HB.out⟩;rw[HE.out Sb.out];rfl
     | false =>
      go_wp2_with fail;go_roundw
      case measure=>simp[vI];omega
      case rel=>exact⟨k+1,qh (by omega),by omega,(show Hid _ from⟨⟨_,_,qjp HP.out HS.out.1 Sb.out⟩,HB.out⟩)⟩
  ·have pj:¬ (k:Int) < pn:=by omega
   have aC:xk K zz zz ps=some (hi,lo):=by
    have:=HS.out.1
    rwa [gm (by rw[HH.out.2.2.1];omega)] at this
   have mh:=qm8 _ (.slice pa pn pc) l ps wr (HH.out.1.q8 HS.out.2.1) (by have:=HH.out.2.2.2.2.2.2.2.2;omega) HH.out.2.2.2.2.2.2.2.1 (by rw[<-HH.out.2.2.2.2.2.2.1];exact HG.out) (HH.out.2.1.q8 HS.out.2.1) (by rw[HH.out.2.2.1];exact cm);rw[<-HH.out.2.2.2.2.2.2.1] at mh;have Nc:=qjl HG.out aC;obtain⟨b,hb⟩ : ∃ b,b=qg3 K ps:=⟨_,rfl⟩
   rw[<-hb] at mh Nc;have d0:=Cx.q8 HS.out.2.1 HH.out.2.2.2.2.1;have HR:=lhd (aiq mh (aiq Nc aC));clear mh Nc aC hb;go_wp2_with fail;refine HR.out.1.mono ?_;rintro e ZF ⟨rfl,vF⟩;have HF:=lhd (HH.out.2.2.2.1.trans (((btr HS.out.2.1 vF)).mono HH.out.2.2.2.1.size));clear vF d0;cases b with
   | true =>go_wp2_with fail;go_ret;refine⟨?_,HF.out⟩;rw[qg7 HG.out HR.out.2.2 (HR.out.2.1.1 (by simp))];rfl
   | false =>go_wp2_with fail;go_ret;refine⟨?_,HF.out⟩;rw[qjo HR.out.2.2 fun hc=>by have:=HR.out.2.1.2 hc;simp at this];rfl
inductive Sk
 | any | val (u:Value) | emp (b:Nat) | row (b:Nat) (M:List (Int×Int)) | one (x y:Int)
def Sk.holds:Sk->Value->World->Prop
 | .any,_,_=>True
 | .val u,v,_=>v=u
 | .emp b,v,w=>∃ g,v = .slice (some ⟨g,0,none⟩) 0 0/\b<=g/\w.heap[g]? = some (.cells #[] 50 (0,0))
 | .row b M,v,w=>w.ownsRow b 50 2 v M.length (pv M)
 | .one x y,v,w=>∃ g,v = .slice (some ⟨g,0,none⟩) 1 1/\Sl w 2 v [.int .i64 x,.int .i64 y]
theorem Sk.q8 {k:Sk} {v:Value} {w w':World} (h:k.holds v w) (hb:Below w.heap.size w w'):k.holds v w':=by
 cases k with
 | any=>trivial
 | val u=>exact h
 | emp b =>obtain⟨g,h1,h2,h3⟩:=h;exact⟨g,h1,h2,(hb.block g (gp.1 h3).1).trans h3⟩
 | row b M=>exact qa h hb
 | one x y =>obtain⟨g,h1,h2⟩:=h;exact⟨g,h1,h2.q8 hb⟩
theorem Sk.qg8 {x y:Int} {v:Value} {w w':World} (h:(Sk.one x y).holds v w) {g:Nat} (hg:w.heap[g]? = some (.cells #[] 50 (0,0))) (hw:w.grownBy w' (some g)):(Sk.one x y).holds v w':=by obtain⟨g',rfl,h2⟩:=h;refine⟨g',rfl,qjn h2 hw fun e=>?_⟩;have e:g=g':=osi e;subst e;have:=h2.open.2.2.2.2 ⟨g,0,none⟩ rfl 0 _ rfl;rw[show (⟨g,0,none⟩ : Addr).add 0=⟨g,0,none⟩ from rfl,qju hg] at this;simp at this
theorem q7a:∀ args w,(callFunc 17 args).run Tryz.prog w = .ok (.enter 17 args) w:=q7b Tryz.func17 (by kernel_rfl) (by kernel_rfl)
def qop (k j:Nat):Bool:=(k == 2 && j == 0) || (k == 14 && (j == 0 || j == 2 || j == 13))
def qpr (k j:Nat):Bool:=(k == 2 && (j == 14 || j == 15)) || (k == 14 && j == 15)
theorem qoq (n m:Int) (w:World) (h1:1<=m) (h2:m<=1000000000):Calls Tryz.prog 17 #[.int .i64 n,.int .i64 m] w fun e w'=>e = .returned (.int .i64 (n % m))/\Below w.heap.size w w':=by
 have hm:¬ m=0:=by omega
 have h3:=Int.lt_tmod_of_pos n (show 0 < m by omega);have h4:=Int.tmod_lt_of_pos n (show 0 < m by omega);have he:=mod_eq n m h1;have HE:=lhd he;clear he;go_enter Tryz.func17,Tryz.ntmps17;go_wp2;go_ret;exact⟨by rw[<-HE.out];rfl,Below.refl _ _⟩
theorem qor (v lv:Value) (l:List Ce) (cs:List Int) (w:World) (h:SlC w v l) (hl:l.length<=4000) (aK:∀ x∈l,x.s.length<=1099511627776) (G:Cx.Good (l.map Ce.cl)) (hc:chk (l.map Ce.cl)=(0,0)) (hk:Sl w 1 lv (ints cs)) (bF:cs.length<=1000) :
  Calls Tryz.prog 44 #[.agg #[v],lv] w fun e w'=>∃ r M,e = .returned r/\M.length<=cs.length/\j8 (l.map Ce.cl) M=0/\w'.ownsRow w.heap.size 50 2 r M.length (pv M)/\Below w.heap.size w w':=by
 obtain⟨a,n,cap,rfl⟩:=qg h.1;obtain⟨ca,cn,cc,rfl⟩:=qg hk;have hlen:l.length=n:=by obtain⟨_,_,h3,_⟩:=h.1.open;rw[qt Ce.qp] at h3;omega
 have tj:cs.length=cn:=by obtain⟨_,_,h3,_⟩:=hk.open;rw[xl] at h3;omega
 obtain⟨IP,Nd,_⟩:=h.1.open;obtain⟨GU,Nf,_⟩:=hk.open;unfold maxLen at Nd Nf;obtain⟨W,hW⟩ : ∃ W:World,W=w.alloc (.cells #[.slice a n cap] 26):=⟨_,rfl⟩
 have hB:Below w.heap.size w W:=by rw[hW];exact bal w _
 have b0:W.cell? ⟨w.heap.size,0,none⟩=some (.slice a n cap):=by rw[hW];exact qd w _ _ (0,0) 0
 obtain⟨K,hK⟩ : ∃ K,K=l.map Ce.cl:=⟨_,rfl⟩
 have HH:=lhd (aiq (h.q8 hB) (aiq (hk.q8 hB) (aiq hlen (aiq tj (aiq hB (aiq b0 (aiq hK (aiq aK hc))))))));have HG:=lhd (show Cx.Good K from hK ▸ G);have ly:=lhd hW;have Ik:n<=4000:=by omega
 have Xu:cn<=1000:=by omega
 rw[<-hK];clear h aK G hc hk hlen tj hB b0 hl bF hK hW;go_enter Tryz.func44,Tryz.ntmps44;go_wp2_with fail;rw[<-ly.out];go_loopw [5,6] (fun p5 p6 wr=>∃ (k:Nat) (A:List (Int×Int)),p6 = .int .i64 k/\k<=n/\A.length<=k*64/\Hid (wr.ownsRow W.heap.size 50 2 p5 A.length (pv A)/\Below W.heap.size W wr)) (fun _ p6 _=>n - (vI p6).toNat)
 case atStart=>exact⟨0,[],rfl,go _,go _,(show Hid _ from⟨World.ownsRow_nil _ _ _ _,Below.refl _ _⟩)⟩
 case round =>
  obtain⟨k,A,rfl,vE,hA,HI⟩:=hrel;obtain⟨sa,sc,Di⟩:=qj HI.out.1;subst Di;have b1:=Cx.q8 HI.out.2 HH.out.2.2.2.2.2.1;by_cases hlt:k < n
  ·obtain⟨x,hx⟩ : ∃ x,l[k]? = some x:=⟨_,g8 (by rw[HH.out.2.2.1];exact hlt)⟩
   obtain⟨_,_,_,h5,h6⟩:=HH.out.1.1.open;obtain⟨ad,cu⟩:=sadq h5 (by omega)
   subst cu;obtain⟨e0,e1,e2⟩:=zh l k x hx;have fK:=gh hx;have qT:=HH.out.1.2 x fK;have iT:x.s.length=x.n:=by obtain⟨_,_,h3,_⟩:=(show Sl W 2 (.slice x.a x.n x.c) _ from qT).open;rw[qt Sd.qp] at h3;omega
   have Fh:x.n<=64:=by
    have h8:x.cl∈K:=by rw[HH.out.2.2.2.2.2.2.1];exact gG fK
    have:=HG.out.few _ h8;have:x.s.length<=64:=this;omega
   have mV:∀ U,Below W.heap.size W U->U.cell? ⟨w.heap.size,0,none⟩=some (.slice (some ad) n cap)/\U.cell? (ad.add (k*3))=some (.int .i64 x.id)/\U.cell? ⟨(ad.add (k*3)).block,(ad.add (k*3)).off+2,none⟩=some (.slice x.a x.n x.c):=fun U hU=>by refine⟨Cx.q8 hU HH.out.2.2.2.2.2.1,Cx.q8 hU (h6 ad rfl _ _ e0),?_⟩;rw[qi _ _ _ (by omega)];exact Cx.q8 hU (h6 ad rfl _ _ e2)
   have HX:=lhd (aiq mV (aiq qT iT));have pj:(k:Int) < n:=by omega
   clear hx h5 h6 e0 e1 e2 fK qT iT mV;go_wp2_with fail;go_loopw [5,7] (fun p5 p7 wr=>∃ (j:Nat) (A:List (Int×Int)),p7 = .int .i64 j/\j<=x.n/\A.length<=k*64+j/\Hid (wr.ownsRow W.heap.size 50 2 p5 A.length (pv A)/\Below W.heap.size W wr)) (fun _ p7 _=>x.n - (vI p7).toNat)
   case atStart=>exact⟨0,A,rfl,go _,by omega,HI⟩
   case round =>
    obtain⟨j,A,rfl,hj,hA,HJ⟩:=hrel;obtain⟨sa,sc,Di⟩:=qj HJ.out.1;subst Di;obtain⟨d0,d1,d2⟩:=HX.out.1 wr HJ.out.2;by_cases ur:j < x.n
    ·obtain⟨s,hs⟩ : ∃ s,x.s[j]? = some s:=⟨_,g8 (by rw[HX.out.2.2];exact ur)⟩
     obtain⟨_,_,_,h5,h6⟩:=(show Sl wr 2 (.slice x.a x.n x.c) _ from HX.out.2.1.q8 HJ.out.2).open;obtain⟨yd,kV⟩ : ∃ ad,x.a=some ad:=by
      cases ha:x.a with
      | none=>have:=h5 ha;omega
      | some ad=>exact⟨ad,rfl⟩
     obtain⟨e0,_⟩:=zw x.s j s hs;have ds:wr.cell? (yd.add (j*2))=some (.int .i64 s.c):=h6 yd kV _ _ e0;rw[kV] at d2;have GA:∀ U,Below W.heap.size W U->U.cell? ⟨w.heap.size,0,none⟩=some (.slice (some ad) n cap)/\U.cell? (ad.add (k*3))=some (.int .i64 x.id)/\U.cell? ⟨(ad.add (k*3)).block,(ad.add (k*3)).off+2,none⟩=some (.slice (some yd) x.n x.c)/\U.cell? (yd.add (j*2))=some (.int .i64 s.c):=fun U hU=>by obtain⟨g1,g2,g3⟩:=HX.out.1 U hU;rw[kV] at g3;obtain⟨_,_,_,_,h7⟩:=(show Sl U 2 (.slice x.a x.n x.c) _ from HX.out.2.1.q8 hU).open;exact⟨g1,g2,g3,h7 yd kV _ _ e0⟩
     have eS:=lhd GA;have RG:(j:Int) < x.n:=by omega
     have pj:(k:Int) < n:=by omega
     have HA:=lhd HJ.out.1;have hz:W.heap.size<=wr.heap.size:=HJ.out.2.size;have Sc:A.length<=1000000:=by omega
     obtain⟨m,hm⟩ : ∃ m,m=A.length:=⟨_,rfl⟩
     have ah:wr.ownsRow W.heap.size 50 2 (.slice sa m sc) m (pv A):=by rw[hm];exact HJ.out.1
     have HO:=lhd (aiq ah hm);rw[<-hm] at Sc hA ⊢;clear hs h5 h6 e0 kV b1 ah hm GA;go_wp2_with fail
     go_region_held3 (fun U=>U.cell? ⟨w.heap.size,0,none⟩=some (.slice (some ad) n cap)/\U.cell? (ad.add (k*3))=some (.int .i64 x.id)/\U.cell? ⟨(ad.add (k*3)).block,(ad.add (k*3)).off+2,none⟩=some (.slice (some yd) x.n x.c)/\U.cell? (yd.add (j*2))=some (.int .i64 s.c))
      (first | exact⟨by assumption,by assumption,by assumption,by assumption⟩ | exact⟨qk (by assumption) _,qk (by assumption) _,qk (by assumption) _,qk (by assumption) _⟩)
      (first | ((refine ju ((wr.alloc (.cells #[.int .i64 s.c,.int .i64 x.id] 50)).drew) rfl _ _ 48 rfl W.heap.size 50 jw Tryz.underlying48 rfl (by decide) (by decide) (.slice sa m sc) m (pv A) (by simp[Act.eval]) (World.ownsRow.drew (HO.out.1.alloc _)) (.slice (some ⟨wr.heap.size,0,none⟩) 1 1) 1 [.int .i64 s.c,.int .i64 x.id] (by simp[Act.eval]) ((q13 wr 50 2 [.int .i64 s.c,.int .i64 x.id] 1 rfl (by unfold maxLen;omega)).drew) rfl (q9j _ _) (by omega) (gl hz (by show wr.heap.size<=(wr.alloc (.cells #[.int .i64 s.c,.int .i64 x.id] 50)).heap.size;simp)) ?_;intro r3 w3 dE aQ;have Ng:=HJ.out.2.trans ((qb ((Below.refl W.heap.size wr).alloc hz (.cells #[.int .i64 s.c,.int .i64 x.id] 50)) 1).trans aQ);obtain⟨g0,g1,g2,g3⟩:=eS.out w3 Ng;have R3:=lhd (aiq dE Ng);clear dE aQ Ng)))
     all_goals
      have cD:w3.ownsRow W.heap.size 50 2 r3 (A++[(s.c,x.id)]).length (pv (A++[(s.c,x.id)])):=by have h1:=R3.out.1;rw[show pv A++[.int .i64 s.c,.int .i64 x.id]=pv (A++[(s.c,x.id)]) by rw[q6z];rfl] at h1;exact zm h1 (by rw[gc,HO.out.2];rfl)
      obtain⟨ra,rc,iX⟩:=qj cD;subst iX;have Iu:=lhd cD;clear cD g0 g1 g2 g3 d0 d1 d2 ds;go_wp2_with fail;go_roundw
      case measure=>simp[vI];omega
      case rel=>exact⟨j+1,A++[(s.c,x.id)],qh (by omega),by omega,by rw[gc];show A.length+1<=_;have:=HO.out.2;omega,(show Hid _ from⟨Iu.out,R3.out.2⟩)⟩
    ·have RG:¬ (j:Int) < x.n:=by omega
     go_wp2_with fail;go_roundw
     case measure=>simp[vI];omega
     case rel=>exact⟨k+1,A,qh (by omega),by omega,by omega,HJ⟩
  ·have pj:¬ (k:Int) < n:=by omega
   obtain⟨N,hN⟩ : ∃ N,N=A.length:=⟨_,rfl⟩
   have Sc:N<=256000:=by omega
   have HA:=lhd (aiq HI.out.1 (aiq HI.out.2 hN));rw[<-hN];clear hN hA;obtain⟨wo,de⟩ : ∃ wo,wo=wr:=⟨_,rfl⟩
   subst de;go_wp2_with fail;go_loopw [8,9] (fun p8 p9 wr=>∃ (i:Nat) (M:List (Int×Int)),p9 = .int .i64 i/\i<=cn/\M.length<=i/\Hid (j8 K M=0/\wr.ownsRow W.heap.size 50 2 p8 M.length (pv M)/\Below wo.heap.size wo wr)) (fun _ p9 _=>cn - (vI p9).toNat)
   case atStart=>exact⟨0,[],rfl,go _,go _,(show Hid _ from⟨qbb K,World.ownsRow_nil _ _ _ _,Below.refl _ _⟩)⟩
   case round =>
    obtain⟨i,M,rfl,hi,hM,HM⟩:=hrel;obtain⟨ma,mc,MZ⟩:=qj HM.out.2.1;subst MZ;obtain⟨m,hm⟩ : ∃ m,m=M.length:=⟨_,rfl⟩
    rw[<-hm] at hM ⊢;have Hm:=lhd hm;clear hm;by_cases oH:i < cn/\0 < N
    ·obtain⟨hi1,Xv⟩:=oH;have Ix:(i:Int) < cn:=by omega
     have ZG:(0:Int) < N:=by omega
     obtain⟨sg,ZH,Di,_,_⟩:=HA.out.1.form (by rw[<-HA.out.2.2];omega);have Nh:sa=some ⟨sg,0,none⟩:=by injection Di
     subst Nh;obtain⟨z,hz⟩ : ∃ z,cs[i]? = some z:=⟨_,g8 (by rw[HH.out.2.2.2.1];exact hi1)⟩
     obtain⟨_,_,_,h5,h6⟩:=HH.out.2.1.open;obtain⟨cd,CJ⟩:=sadq h5 (by omega)
     subst CJ;obtain⟨q,hq,Se⟩ : ∃ q:Nat,z % (N:Int)=(q:Int)/\q < N:=by have h1:=Int.emod_nonneg z (show ((N:Int))≠0 by omega);have h2:=Int.emod_lt_of_pos z (show 0 < (N:Int) by omega);exact⟨(z % (N:Int)).toNat,by omega,by omega⟩
     obtain⟨p,hp⟩ : ∃ p,A[q]? = some p:=⟨_,g8 (by rw[<-HA.out.2.2];exact Se)⟩
     have ib:Below W.heap.size W wr:=(btr HI.out.2 HM.out.2.2);have mV:∀ U,Below wr.heap.size wr U->U.cell? (cd.add i)=some (.int .i64 z)/\U.cell? ⟨sg,q*2,none⟩=some (.int .i64 p.1)/\U.cell? ⟨sg,q*2+1,none⟩=some (.int .i64 p.2)/\Sl U 2 (.slice ma m mc) (pv M):=fun U hU=>by have hr:=qa (qa HA.out.1 HM.out.2.2) hU;have hj:=(ge.1 hp).1;have hg:=kv A q p hp;have hd:=Cx.q8 ((btr ib hU)) (h6 cd rfl i (.int .i64 z) (by simp[ints,hz]));refine⟨hd,(hr.cellAt _ (by omega)).trans hg.1,(hr.cellAt _ (by omega)).trans hg.2,?_⟩;rw[Hm.out];exact(Sl.qc HM.out.2.1).q8 hU
     have HF:=lhd (aiq mV (aiq hq (aiq Se (aiq ib hp))));clear Di hz h5 h6 hq hp mV ib;go_upto_region 13 with fail
     go_cut [10] from 60 to 74 (fun Gp wx=>Hid (wx.ownsRow wr.heap.size 50 2 Gp (M++[p]).length (pv (M++[p]))/\Below wr.heap.size wr wx))
     case first =>
      rename_i J K2 hJ eu;have l5:=Hm.out;refine q74 rfl (fun i' v w=>(([.emp wr.heap.size,.val (.slice ma m mc),.row wr.heap.size M,.val (.slice (some ⟨sg,0,none⟩) N sc),.val (.slice (some cd) cn cc),.val (.int .i64 i),.val (.pointer (some (cd.add i))),.val (.int .i64 z),.val (.slice (some ⟨sg,0,none⟩) N sc),.val (.int .i64 N),.val (.int .i64 q),.val (.pointer (some ⟨sg,q*2,none⟩)),.val (.agg #[.int .i64 p.1,.int .i64 p.2]),.one p.1 p.2,.row wr.heap.size (M++[p]),.row wr.heap.size (M++[p])] : List Sk).getD i' .any).holds v w) qop (fun i j=>!(i == 15) || j == 14) qpr (fun k w' w''=>if k=2 then (∃ g,w'.heap[g]? = some (.cells #[] 50 (0,0))/\w'.grownBy w'' (some g))/\Below wr.heap.size w' w'' else if k=14 then Below wr.heap.size w' w'' else Below w'.heap.size w' w'') [0,0,0,0,0,0,0,0,0,0,0,0,0,0,2,14] 4 (by kernel_rfl) (by kernel_rfl) ?ks 81 rfl (by kernel_rfl) (by kernel_rfl) ?kf ?kr ?step ?done
      case ks =>intro k j h;unfold qop at h;simp only [Bool.or_eq_true,Bool.and_eq_true,beq_iff_eq] at h;rcases h with ⟨rfl,_⟩ | ⟨rfl,_⟩ <;> decide
      case kf =>
       intro k i' v w' w'' iB al uu h hb;by_cases ey:k=2
       ·subst ey;rw[if_pos rfl] at hb;obtain⟨⟨g,dt,fJ⟩,_⟩:=hb
        match i',iB,al,uu,h with
        | 0,iB,_,_,_=>exact absurd iB (by decide)
        | 2,_,al,_,_=>exact absurd rfl al
        | 14,_,_,uu,_=>exact absurd uu (by decide)
        | 15,_,_,uu,_=>exact absurd uu (by decide)
        | 13,_,_,_,h=>exact Sk.qg8 h dt fJ
        | 1,_,_,_,h=>exact h
        | 3,_,_,_,h=>exact h
        | 4,_,_,_,h=>exact h
        | 5,_,_,_,h=>exact h
        | 6,_,_,_,h=>exact h
        | 7,_,_,_,h=>exact h
        | 8,_,_,_,h=>exact h
        | 9,_,_,_,h=>exact h
        | 10,_,_,_,h=>exact h
        | 11,_,_,_,h=>exact h
        | 12,_,_,_,h=>exact h
        | n+16,_,_,_,h=>exact trivial
       ·rw[if_neg ey] at hb;by_cases GB:k=14
        ·subst GB
         match i',iB,al,uu,h with
         | 0,iB,_,_,_=>exact absurd iB (by decide)
         | 2,iB,_,_,_=>exact absurd iB (by decide)
         | 13,iB,_,_,_=>exact absurd iB (by decide)
         | 14,_,al,_,_=>exact absurd rfl al
         | 15,_,_,uu,_=>exact absurd uu (by decide)
         | 1,_,_,_,h=>exact h
         | 3,_,_,_,h=>exact h
         | 4,_,_,_,h=>exact h
         | 5,_,_,_,h=>exact h
         | 6,_,_,_,h=>exact h
         | 7,_,_,_,h=>exact h
         | 8,_,_,_,h=>exact h
         | 9,_,_,_,h=>exact h
         | 10,_,_,_,h=>exact h
         | 11,_,_,_,h=>exact h
         | 12,_,_,_,h=>exact h
         | n+16,_,_,_,h=>exact trivial
        ·rw[if_neg GB] at hb;exact Sk.q8 h hb
      case kr =>
       intro k w' w'' h1 h2;split at h2
       ·exact h2.2
       ·split at h2
        ·exact h2
        ·exact h2.mono h1.size
      case step =>
       intro i' o ho a w' hw hd ae ao;obtain⟨fz,fx,fy,fM⟩:=HF.out.1 w' hw
       match i',ho,hd with
       | 0,ho,hd =>obtain rfl:=osi ho;exact⟨rfl,q5z 48 0 _ rfl #[] (by simp) (.slice (some ⟨w'.heap.size,0,none⟩) 0 0) (w'.alloc (.cells #[] 50)) (by simp[go_sem]) ⟨_,rfl,⟨w'.heap.size,rfl,hw.size,heap_alloc_new w' _⟩,bal _ _⟩⟩
       | 1,ho,hd =>obtain rfl:=osi ho;exact⟨rfl,q1b _ (.inl rfl) ⟨_,rfl,ae 8 (qu (by kernel_rfl)),Below.refl _ _⟩⟩
       | 2,ho,hd =>
        obtain rfl:=osi ho;obtain⟨g,f0,Xw,Sf⟩ : (Sk.emp wr.heap.size).holds (a.tmps.getD 60 undef) w':=hd 0 _ _ rfl rfl (by kernel_rfl);have f1:a.tmps.getD 61 undef = .slice ma m mc:=hd 1 _ _ rfl rfl (by kernel_rfl);refine⟨rfl,q6b _ _ 48 rfl wr.heap.size 50 jw Tryz.underlying48 rfl (by decide) (by decide) (.slice (some ⟨g,0,none⟩) 0 0) 0 [] f0 ⟨rfl,.inr ⟨g,0,#[],rfl,Xw,Sf,nlr _,by unfold maxLen;omega,rfl,rfl⟩⟩ _ m (pv M) f1 fM (by rw[yq,Hm.out]) (q5i _) (by omega) hw.size ?_⟩;intro v' w2 hr hg hb;refine⟨v',rfl,?_,?_⟩
        ·show w2.ownsRow _ _ _ v' M.length (pv M);exact zm hr (by rw[<-Hm.out];omega)
        ·rw[if_pos rfl];exact⟨⟨g,Sf,hg⟩,hb⟩
       | 3,ho,hd =>obtain rfl:=osi ho;exact⟨rfl,q1b _ (.inl rfl) ⟨_,rfl,ae 5 (qu (by kernel_rfl)),Below.refl _ _⟩⟩
       | 4,ho,hd =>obtain rfl:=osi ho;exact⟨rfl,q1b _ (.inl rfl) ⟨_,rfl,ae 1 (qu (by kernel_rfl)),Below.refl _ _⟩⟩
       | 5,ho,hd =>obtain rfl:=osi ho;exact⟨rfl,q1b _ (.inl rfl) ⟨_,rfl,ae 9 (qu (by kernel_rfl)),Below.refl _ _⟩⟩
       | 6,ho,hd =>obtain rfl:=osi ho;exact⟨rfl,qc9 22 _ _ rfl _ _ (hd 4 _ _ rfl rfl (by kernel_rfl)) (hd 5 _ _ rfl rfl (by kernel_rfl)) (.pointer (some (cd.add i))) (by simp[go_sem,Ix]) ⟨_,rfl,rfl,Below.refl _ _⟩⟩
       | 7,ho,hd =>obtain rfl:=osi ho;exact⟨rfl,q8o _ _ rfl _ (hd 6 _ _ rfl rfl (by kernel_rfl)) (.int .i64 z) (by simp[go_sem,fz]) ⟨_,rfl,rfl,Below.refl _ _⟩⟩
       | 8,ho,hd =>obtain rfl:=osi ho;exact⟨rfl,q1b _ (.inl rfl) ⟨_,rfl,ae 5 (qu (by kernel_rfl)),Below.refl _ _⟩⟩
       | 9,ho,hd =>obtain rfl:=osi ho;exact⟨rfl,qi5 _ rfl Tryz.underlying48 _ _ _ (hd 8 _ _ rfl rfl (by kernel_rfl)) ⟨_,rfl,rfl,Below.refl _ _⟩⟩
       | 10,ho,hd =>obtain rfl:=osi ho;have f0:a.tmps.getD 67 undef = .int .i64 z:=hd 7 _ _ rfl rfl (by kernel_rfl);have f1:a.tmps.getD 69 undef = .int .i64 N:=hd 9 _ _ rfl rfl (by kernel_rfl);refine⟨rfl,qdj _ _ _ rfl q7a #[.int .i64 z,.int .i64 N] (by rw[<-f0,<-f1];simp[Act.eval]) ((qoq z N w' (by omega) (by omega)).mono ?_)⟩;rintro e w2 ⟨rfl,hb⟩;exact⟨_,rfl,_,rfl,by show Value.int .i64 (z % (N:Int))=_;rw[HF.out.2.1],hb⟩
       | 11,ho,hd =>
        obtain rfl:=osi ho;have f0:a.tmps.getD 63 undef = .slice (some ⟨sg,0,none⟩) N sc:=hd 3 _ _ rfl rfl (by kernel_rfl);have f1:a.tmps.getD 70 undef = .int .i64 q:=hd 10 _ _ rfl rfl (by kernel_rfl);have RU:(q:Int) < N:=by have:=HF.out.2.2.1;omega
        exact⟨rfl,qc9 48 _ _ rfl _ _ f0 f1 (.pointer (some ⟨sg,q*2,none⟩)) (by simp[go_sem,RU]) ⟨_,rfl,rfl,Below.refl _ _⟩⟩
       | 12,ho,hd =>obtain rfl:=osi ho;exact⟨rfl,q8o _ _ rfl _ (hd 11 _ _ rfl rfl (by kernel_rfl)) (.agg #[.int .i64 p.1,.int .i64 p.2]) (by simp[go_sem,fx,fy]) ⟨_,rfl,rfl,Below.refl _ _⟩⟩
       | 13,ho,hd =>obtain rfl:=osi ho;have f0:a.tmps.getD 72 undef = .agg #[.int .i64 p.1,.int .i64 p.2]:=hd 12 _ _ rfl rfl (by kernel_rfl);exact⟨rfl,q5z 48 1 _ rfl #[(0,.agg #[.int .i64 p.1,.int .i64 p.2])] (by rw[<-f0];simp[Act.eval]) _ _ (qpm w' p.1 p.2) ⟨_,rfl,⟨w'.heap.size,rfl,q13 w' 50 2 [.int .i64 p.1,.int .i64 p.2] 1 rfl (by unfold maxLen;omega)⟩,bal _ _⟩⟩
       | 14,ho,hd =>
        obtain rfl:=osi ho;obtain⟨g,f1,f2⟩ : (Sk.one p.1 p.2).holds (a.tmps.getD 73 undef) w':=hd 13 _ _ rfl rfl (by kernel_rfl);refine⟨rfl,q6b _ _ 48 rfl wr.heap.size 50 jw Tryz.underlying48 rfl (by decide) (by decide) _ M.length (pv M) rfl (hd 2 _ _ rfl rfl (by kernel_rfl)) _ 1 [.int .i64 p.1,.int .i64 p.2] rfl f2 rfl (q9j _ _) (by have:=Hm.out;omega) hw.size ?_⟩;intro v' w2 hr hg hb;refine⟨v',rfl,?_,?_⟩
        ·show w2.ownsRow _ _ _ v' (M++[p]).length (pv (M++[p]));rw[q6z,gc];exact hr
        ·rw[if_neg (by decide),if_pos rfl];exact hb
       | 15,ho,hd =>obtain rfl:=osi ho;have f0:w'.ownsRow wr.heap.size 50 2 (a.tmps.getD 74 undef) (M++[p]).length (pv (M++[p])):=hd 14 _ _ rfl rfl (by kernel_rfl);exact⟨rfl,q1b _ (.inr rfl) ⟨_,rfl,f0,Below.refl _ _⟩⟩
      case done =>intro a w' ao eH hd ae hb;have f15:w'.ownsRow wr.heap.size 50 2 (a.tmps.getD 10 undef) (M++[p]).length (pv (M++[p])):=hd 15 _ _ rfl rfl (fun k=>by unfold qop;simp);refine eu _ _ (Met.intro (hJ _ _ ⟨a.tmps.getD 10 undef,a.tmps.getD 60 undef,a.tmps.getD 61 undef,a.tmps.getD 62 undef,a.tmps.getD 63 undef,a.tmps.getD 64 undef,a.tmps.getD 65 undef,a.tmps.getD 66 undef,a.tmps.getD 67 undef,a.tmps.getD 68 undef,a.tmps.getD 69 undef,a.tmps.getD 70 undef,a.tmps.getD 71 undef,a.tmps.getD 72 undef,a.tmps.getD 73 undef,a.tmps.getD 74 undef,(show Hid _ from⟨f15,hb⟩),(q8z ao eH ae).trans ?_⟩));kernel_rfl
     case rest =>
      obtain⟨Sg,CX,Ni⟩:=qj hcut.out.1;subst Ni;have hlen:(M++[p]).length=m+1:=by rw[gc,<-Hm.out];rfl
      have Nj:Below W.heap.size W wc:=(btr HF.out.2.2.2.1 hcut.out.2);have af:=qmb (.slice a n cap) (.slice Sg (M++[p]).length CX) l (M++[p]) wc (HH.out.1.q8 Nj) (by have:=HH.out.2.2.1;omega) HH.out.2.2.2.2.2.2.2.1 (by rw[<-HH.out.2.2.2.2.2.2.1];exact HG.out) HH.out.2.2.2.2.2.2.2.2 (Sl.qc hcut.out.1) (by rw[hlen];omega);rw[<-HH.out.2.2.2.2.2.2.1] at af;obtain⟨E,hE⟩ : ∃ E,E=j8 K (M++[p]):=⟨_,rfl⟩
      rw[<-hE] at af;rw[hlen] at af ⊢;have c0:=Cx.q8 Nj HH.out.2.2.2.2.2.1;have GC:wc.ownsRow W.heap.size 50 2 (.slice Sg (m+1) CX) (M++[p]).length (pv (M++[p])):=by have h1:=qf hcut.out.1 HF.out.2.2.2.1.size;rw[hlen] at h1 ⊢;exact h1
      have HC:=lhd (aiq af (aiq hE (aiq GC (aiq hcut.out.2 hlen))));clear af hE GC Nj hlen hcut;go_wp2_with fail;refine HC.out.1.mono ?_;rintro e w4 ⟨rfl,aM⟩;have aD:Below wo.heap.size wo w4:=((btr HM.out.2.2 HC.out.2.2.2.1)).trans (aM.mono (gl HM.out.2.2.size HC.out.2.2.2.1.size));have cD:=qa HC.out.2.2.1 aM;have Sh:=qa (qa HM.out.2.1 HC.out.2.2.2.1) aM;have H4:=lhd (aiq aD (aiq cD Sh));clear aD cD Sh aM c0;by_cases mK:E=0
      ·subst mK;go_wp2_with fail;go_roundw
       case measure=>simp[vI];omega
       case rel =>refine⟨i+1,M++[p],qh (by omega),by omega,by rw[HC.out.2.2.2.2];omega,(show Hid _ from⟨HC.out.2.1.symm,?_,H4.out.1⟩)⟩;have:=H4.out.2.1;rw[HC.out.2.2.2.2] at this ⊢;exact this
      ·have ZI:(E == 0)=false:=by simpa using mK
       clear mK;go_wp2_with fail;go_roundw
       case measure=>simp[vI];omega
       case rel =>refine⟨i+1,M,qh (by omega),by omega,by have:=Hm.out;omega,(show Hid _ from⟨HM.out.1,?_,H4.out.1⟩)⟩;have:=H4.out.2.2;rw[<-Hm.out] at this ⊢;exact this
    ·have az:(i:Int) < cn->¬ (0:Int) < N:=fun h1 h2=>oH ⟨by omega,by omega⟩
     have fin:∃ r M,Value.slice ma m mc=r/\M.length<=cs.length/\j8 K M=0/\wr.ownsRow w.heap.size 50 2 r M.length (pv M)/\Below w.heap.size w wr:=by refine⟨_,M,rfl,by have:=HH.out.2.2.2.1;have:=Hm.out;omega,HM.out.1,?_,HH.out.2.2.2.2.1.trans (((btr HI.out.2 HM.out.2.2)).mono HH.out.2.2.2.2.1.size)⟩;have h1:=qf HM.out.2.1 HH.out.2.2.2.2.1.size;rw[<-Hm.out] at h1 ⊢;exact h1
     have GD:=lhd fin;clear fin;by_cases hi1:(i:Int) < cn
     ·have Xv:=az hi1;clear az oH;go_wp2_with fail;go_ret;obtain⟨r,M',e,h⟩:=GD.out;subst e;exact⟨_,rfl,M',h⟩
     ·clear az oH;go_wp2_with fail;go_ret;obtain⟨r,M',e,h⟩:=GD.out;subst e;exact⟨_,rfl,M',h⟩
end Go.Proofs.YtlhicnfeajejhaaGreatDoor
namespace Go.Proofs.YtlhicnfeajejhaaGreatDoor
open Go.RowKit Go.Cx
section
variable (v u:Value) (K:List Cl) (m:List (Int×Int)) (w:World) (h:(Mok.cx K).holds v w) (hK:KOk K) (hl:K.length<=180) (G:Cx.Good K) (hc:chk K=(0,0))
include h hK hl
end
theorem qrj:∀ args w,(callFunc 47 args).run Tryz.prog w = .ok (.enter 47 args) w:=q7b Tryz.func47 (by kernel_rfl) (by kernel_rfl)
end Go.Proofs.YtlhicnfeajejhaaGreatDoor
namespace Go.Proofs.YtlhicnfeajejhaaGreatDoor
open Go.RowKit Go.Cx
attribute [local go_sem ↓] Go.wp_at_zero Go.wp_at_succ
theorem qjt {K:List Cl} (G:Cx.Good K) (hK:KOk K) {M:List (Int×Int)} (hm:j8 K M=0):∀ p∈M,I64 p.1/\I64 p.2:=fun p hp=>by obtain⟨hi,lo,aC,MM,_⟩:=q84 G hm;obtain⟨h1,h2⟩:=(yl G M _ _ _ aC).2 p hp;have h1:hi p.1=p.2:=h1;have hs:=MM.sg p.1 (by rw[h1];exact h2);rw[h1] at hs;obtain⟨x,hx,y,hy,e1,e2,_⟩:=G.jm hs;exact⟨e2 ▸ (hK y hy).1.1,e1 ▸ (hK x hx).1.1⟩
end Go.Proofs.YtlhicnfeajejhaaGreatDoor
namespace Go.Proofs.YtlhicnfeajejhaaGreatDoor
open Go.RowKit Go.Cx
noncomputable def qd0 (K:List Cl) (m:List (Int×Int)) (d:Int):List Int:=(List.range ((yt K m (d - 1)).length*(yt K m d).length)).map fun t=>bdE (canon K) (mhi K m) (mlo K m) d (t / (yt K m d).length) (t % (yt K m d).length)
theorem qku (K:List Cl) (m:List (Int×Int)) (d:Int):(qd0 K m d).length=(yt K m (d - 1)).length*(yt K m d).length:=by unfold qd0;rw[gn,List.length_range]
theorem qqp {K:List Cl} (G:Cx.Good K) (m:List (Int×Int)) (d:Int):(yt K m d).length<=K.length:=by
 unfold yt;split
 ·rw[G.cells.1];exact qre G _ _ _
 ·exact go _
section
variable (v u:Value) (K:List Cl) (m:List (Int×Int)) (w:World) (h:(Mok.cx K).holds v w) (hK:KOk K) (hl:K.length<=180) (k:(Mok.prs m).holds u w) (hp:∀ p∈m,I64 p.1/\I64 p.2) (G:Cx.Good K) (hE:opE K m=0) (d:Int) (hd0 : -1000<=d) (hd1:d<=1000)
include h hK hl k hp G hE hd0 hd1
theorem qpu:Calls Tryz.prog 54 #[v,u,.int .i64 d] w fun e w'=>∃ E,e = .returned (.agg #[.int .i64 (yt K m (d - 1)).length,.int .i64 (yt K m d).length,.slice (some ⟨E,0,none⟩) ((yt K m (d - 1)).length*(yt K m d).length) ((yt K m (d - 1)).length*(yt K m d).length)])/\(∃ f,EW w' E ((yt K m (d - 1)).length*(yt K m d).length) f)/\(w.heap.size<=E/\E < w'.heap.size)/\(Mok.mat (yt K m (d - 1)).length (yt K m d).length (qd0 K m d)).holds (.agg #[.int .i64 (yt K m (d - 1)).length,.int .i64 (yt K m d).length,.slice (some ⟨E,0,none⟩) ((yt K m (d - 1)).length*(yt K m d).length) ((yt K m (d - 1)).length*(yt K m d).length)]) w'/\Below w.heap.size w w':=by
 obtain⟨x,l,rfl,h1,h2⟩:=h;have bL:l.length<=180:=by rw[<-h2,gn] at hl;exact hl
 refine(qsd x u l m w h1 (by omega) (hK.cok h2) k hp d ⟨by omega,by omega⟩).mono ?_;rintro e w' ⟨hb,hr⟩;rw[h2] at hr;rcases hr with ⟨al,_⟩ | ⟨_,E,nr,nc,rfl,rfl,rfl,h5,BF,uK⟩
 ·exact absurd hE al
 ·have n1:=qqp G m (d - 1);have n2:=qqp G m d;have hN:(yt K m (d - 1)).length*(yt K m d).length<=40000:=gl (Nat.mul_le_mul (show _<=200 by omega) (show _<=200 by omega)) (by decide);exact⟨E,rfl,⟨_,uK⟩,⟨h5,BF⟩,⟨_,rfl,uK.sl (by omega)⟩,hb⟩
theorem qqs:Calls Tryz.prog 54 #[v,u,.int .i64 d] w (Gvs (.mat (yt K m (d - 1)).length (yt K m d).length (qd0 K m d)) w):=by refine(qpu v u K m w h hK hl k hp G hE d hd0 hd1).mono ?_;rintro e w' ⟨E,rfl,_,_,hm,hb⟩;exact⟨_,rfl,hm,hb⟩
end
theorem qt0 {K:List Cl} (G:Cx.Good K) (hc:chk K=(0,0)) {m:List (Int×Int)} (hm:j8 K m=0):opE K m=0:=by unfold opE;rw[hc,if_pos rfl,G.cells.1];exact hm
end Go.Proofs.YtlhicnfeajejhaaGreatDoor
