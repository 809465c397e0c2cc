/- Steps towards MorseChecks. Conditions: none. -/
import Derived.Test.YtlhicnfeajejhaaGreatDoorFOb
import Derived.Test.YtlhicnfeajejhaaGreatDoorFOf
set_option maxRecDepth 1000000
set_option maxHeartbeats 16000000
namespace Go.Proofs.YtlhicnfeajejhaaGreatDoor
open Go.RowKit Go.Cx
attribute [local go_sem ↓] Go.wp_at_zero Go.wp_at_succ
theorem q10 {w:World} {base st n:Nat} {e:TypeId} {v:Value} {xs:List Value} (h:w.ownsRow base e st v n xs) {a:Addr} (ak:∀ b,v.ownBlock=some b->b≠a.block) (u:Value):(w.setCell a u).ownsRow base e st v n xs:=by
 obtain⟨h1,h2⟩:=h;refine⟨h1,?_⟩;rcases h2 with h2 | ⟨g,cap,cur,rfl,hg,hh,r⟩
 ·exact Or.inl h2
 ·exact Or.inr ⟨g,cap,cur,rfl,hg,by rw[Below.heap_setCell _ _ _ _ (ak g rfl)];exact hh,r⟩
theorem q3d {w:World} {a p:Addr} {u x:Value} (h:w.cell? p=some x) (ak:p≠a):(w.setCell a u).cell? p=some x:=by
 rw[World.cell?_setCell_other _ _ _ _ (fun e=>ak e.symm)];exact h
theorem SlI.ins {w:World} {v tv:Value} {ws:List Value} {A:List (List Int)} {t:List Int} {p:Nat} (au:Sl w 1 v (ws.take p++tv :: ws.drop p)) (hl:ws.length=A.length) (hp:p<=A.length)
  (he:∀ (i:Nat) (u:Value) (l:List Int),ws[i]? = some u->A[i]? = some l->Sl w 1 u (ints l)) (ht:Sl w 1 tv (ints t)):SlI w v (A.take p++t :: A.drop p):=by
 have h1:(ws.take p).length=p:=by rw[gh];omega
 have h2:(A.take p).length=p:=by rw[gh];omega
 refine⟨_,au,by simp[hl],fun i u l hu hl=>?_⟩;rcases Nat.lt_trichotomy i p with h | h | h
 ·rw[br (by omega),List.getElem?_take_of_lt h] at hu hl;exact he i u l hu hl
 ·subst h;rw[gO (by omega),h1,Nat.sub_self] at hu;rw[gO (by omega),h2,Nat.sub_self] at hl;simp at hu hl;subst hu hl;exact ht
 ·rw[gO (by omega),h1,show i - p=(i - p - 1)+1 by omega,List.getElem?_cons_succ,List.getElem?_drop,show p+(i - p - 1)=i - 1 by omega] at hu;rw[gO (by omega),h2,show i - p=(i - p - 1)+1 by omega,List.getElem?_cons_succ,List.getElem?_drop,show p+(i - p - 1)=i - 1 by omega] at hl;exact he _ u l hu hl
theorem SlI.qq2 {w:World} {ws:List Value} {A:List (List Int)} (hl:ws.length=A.length) (he:∀ (i:Nat) (u:Value) (l:List Int),ws[i]? = some u->A[i]? = some l->Sl w 1 u (ints l)):∀ u∈ws,u.oneCell'=true:=fun u hu=>by
 obtain⟨i,hi,e⟩:=List.mem_iff_getElem.1 hu;have hi2:i < A.length:=by omega
 have:=he i u _ (by rw[g8 hi,e]) (g8 hi2);obtain⟨_,_,_,rfl⟩:=qg this;rfl
theorem Tryz.q06:(Tryz.prog.info? 22).map (fun i=>(i.zero,i.size,i.bytes))=some (some (.slice none 0 0),1,24):=by kernel_rfl
theorem qag (n:Int):bits .and .i64 n 1=n % 2:=by
 have h1:(BitVec.ofInt 64 1).toNat=2 ^ 1 - 1:=by decide
 have key:(BitVec.ofInt 64 n &&& BitVec.ofInt 64 1).toNat=(n % ((2 ^ 64:Nat):Int)).toNat % 2 ^ 1:=by
  rw[BitVec.toNat_and,BitVec.toNat_ofInt,h1,Nat.and_two_pow_sub_one_eq_mod]
 show IntKind.i64.wrap ((BitVec.ofInt 64 n &&& BitVec.ofInt 64 1).toNat:Nat)=n % 2;rw[key,IntKind.wrap_i64];omega
theorem qnj (b j:Nat):bits .and .i64 (((b:Int)+1) / 2 ^ j) 1=(((b+1) / 2 ^ j % 2:Nat):Int):=by
 rw[qag];simp
def q1p (w:World) (base:Nat) (v:Value) (m:List Ce):Prop:=w.ownsRow base 75 3 v m.length (cat Ce.enc m)/\∀ x∈m,w.ownsRow base 108 2 x.sl x.s.length (cat Sd.enc x.s)
theorem q1p.slc {w:World} {base:Nat} {v:Value} {m:List Ce} (h:q1p w base v m):SlC w v m:=⟨Sl.qc h.1,fun x hx=>Sl.qc (h.2 x hx)⟩
theorem q1p.set {w:World} {base:Nat} {v:Value} {m:List Ce} (h:q1p w base v m) {a:Addr} (ha:a.block < base) (u:Value):q1p (w.setCell a u) base v m:=⟨ownsRow_setCell_below h.1 ha u,fun x hx=>ownsRow_setCell_below (h.2 x hx) ha u⟩
theorem q1p.mono {w:World} {base jE:Nat} {v:Value} {m:List Ce} (h:q1p w base v m) (hb:jE<=base):q1p w jE v m:=⟨qf h.1 hb,fun x hx=>qf (h.2 x hx) hb⟩
theorem qhr:∀ n:Nat,n<=4->wrap64 ((2:Int) ^ n)=((2 ^ n:Nat):Int)
 | 0,_=>by decide +kernel
 | 1,_=>by decide +kernel
 | 2,_=>by decide +kernel
 | 3,_=>by decide +kernel
 | 4,_=>by decide +kernel
 | n+5,h=>by omega
theorem q1e (v:Value) (ls:List (List Int)) (w:World) (h:SlI w v ls) (hn:ls.length<=12) (hs:∀ s∈ls,s.length<=4/\s.Pairwise (· < ·)/\∀ x∈s,0<=x/\x<=9223372036854775807) :
  Calls Tryz.prog 74 #[v] w fun e w'=>∃ r m,e = .returned (.agg #[r])/\m.map Ce.cl=q0m ls/\q1p w' w.heap.size r m/\Below w.heap.size w w':=by
 obtain⟨vs,hv,rV,tI⟩:=h;obtain⟨a,len,cap,rfl,h1,h2,h3,h4,h5⟩:=hv;unfold maxLen at h2;rw[gK] at h3;have bH:ls.length=len:=by omega
 rw[bH] at hn;have H3:=lhd h3;clear h3;have HL:=lhd bH;clear bH;have H4:=lhd h4;clear h4;have H5:=lhd h5;clear h5;have HE:=lhd tI;clear tI;have HS:=lhd hs;clear hs;have key:∀ (i:Nat),i < len->∃ s va vn vc,ls[i]? = some s/\vs[i]? = some (.slice va vn vc)/\Sl w 1 (.slice va vn vc) (ints s):=fun i hi=>by
  obtain⟨u,hu⟩ : ∃ u,vs[i]? = some u:=⟨_,g8 (by rw[H3.out];exact hi)⟩
  obtain⟨l,hl⟩ : ∃ l,ls[i]? = some l:=⟨_,g8 (by rw[HL.out];exact hi)⟩
  have h1:=HE.out i u l hu hl;obtain⟨va,vn,vc,rfl⟩:=qg h1;exact⟨l,va,vn,vc,hl,hu,h1⟩
 have ED:=lhd key;clear key;go_enter Tryz.func74,Tryz.ntmps74;go_wp2;obtain⟨W,hW⟩ : ∃ W:World,W=w.alloc (.cells #[.slice none 0 0] 26):=⟨_,rfl⟩
 rw[<-hW];have b0:Bv W w.heap.size (.slice none 0 0):=by rw[hW];exact Bv.new w _ _
 have hw:Below w.heap.size w W:=by rw[hW];exact(Below.refl _ _).alloc (nlr _) _
 have hz:W.heap.size=w.heap.size+1:=by rw[hW];simp
 have i7:=lhd b0;have HZ:=lhd hz;clear hW b0 hz;go_loopw [3,4] (fun o i wr=>∃ k:Nat,i = .int .i64 k/\k<=len/\Hid (SlI wr o (kg (ls.take k)))/\Below W.heap.size W wr) (fun _ i _=>len - (vI i).toNat)
 case atStart=>exact⟨0,rfl,gp _,(show Hid _ from SlI.nil _),Below.refl _ _⟩
 case round =>
  obtain⟨k,rfl,hk,HA,hB⟩:=hrel;have aL:Below w.heap.size w wr:=hw.trans (hB.mono hw.size);by_cases hlt:k < len
  ·obtain⟨ad,rfl⟩ : ∃ ad,a=some ad:=by
    cases a with
    | none=>have:=H4.out rfl;omega
    | some ad=>exact⟨ad,rfl⟩
   obtain⟨s,va,vn,vc,hls,oR,aX⟩:=ED.out k hlt;have d0:wr.cell? (ad.add k)=some (.slice va vn vc):=Cx.q8 aL (H5.out ad rfl k _ oR);obtain⟨s1,s2,s3⟩:=HS.out s (gd hls);have cZ:kg (ls.take (k+1))=kt s (kg (ls.take k)) (2 ^ s.length - 1):=by rw[gq,hls];exact qfc _ _
   have Ij:(kg (ls.take k)).length<=k*15:=by
    have:=q3v (ls.take k) (fun s hs=>(HS.out s (gU hs)).1);rw[gh] at this;omega
   have dc:=lhd cZ;have jH:=lhd (aX.q8 aL);have rA:=lhd s2;have Ik:=lhd s3;obtain⟨A0,fi⟩ : ∃ A,A=kg (ls.take k):=⟨_,rfl⟩
   rw[<-fi] at HA dc Ij;have Il:=lhd fi;clear cZ oR hls aX s2 s3 fi;obtain⟨wo,db⟩ : ∃ wo:World,wo=wr:=⟨_,rfl⟩
   subst db;go_wp2_with fail;refine(qp2 _ s _ jH.out rA.out Ik.out (by omega)).mono ?_;rintro e w1 ⟨r,rfl,hr,ai⟩;have al:Below wo.heap.size wo w1:=ai;have E9:=lhd (HA.out.q8 ai);obtain⟨ra,rc,fM⟩:=qj hr;subst fM;obtain⟨n,jM⟩ : ∃ n,n=s.length:=⟨_,rfl⟩
   have M0:=lhd (Sl.qc hr);rw[<-jM] at M0 dc s1 ⊢;have HN:=lhd jM;obtain⟨N,hN⟩ : ∃ N,N=2 ^ n:=⟨_,rfl⟩
   have Rr:N<=16/\1<=N:=by rw[hN];exact⟨bt (n:=2) (by decide) s1,Nat.one_le_two_pow⟩
   have Im:wrap64 ((2:Int) ^ n)=(N:Int):=by rw[hN];exact qhr n s1
   rw[<-hN] at dc;have M3:=lhd hN;clear ai hr d0 jH jM hN;go_wp2;go_loopw [3,7] (fun o i wr=>∃ b:Nat,i = .int .i64 ((b:Int)+1)/\b<=N - 1/\Hid (SlI wr o (kt s A0 b))/\Below w1.heap.size w1 wr) (fun _ i _=>N - (vI i).toNat)
   case atStart=>exact⟨0,rfl,gp _,(show Hid _ from E9.out),Below.refl _ _⟩
   case round =>
    obtain⟨b,rfl,hb,Io,aw⟩:=hrel;by_cases ou:(b:Int)+1 < N
    ·have Ip:Below w.heap.size w wr:=aL.trans ((al.trans (aw.mono al.size)).mono aL.size);obtain⟨wm,ly⟩ : ∃ wm:World,wm=wr:=⟨_,rfl⟩
     subst ly;go_wp2_with fail;rw[Im];go_loopw [8,9] (fun o i wr=>∃ j:Nat,i = .int .i64 j/\j<=n/\Hid (wr.ownsRow wm.heap.size 3 1 o (j7 (s.take j) (b+1)).length (ints (j7 (s.take j) (b+1))))/\Below wm.heap.size wm wr) (fun _ i _=>n - (vI i).toNat)
     case atStart=>exact⟨0,rfl,gp _,(show Hid _ from World.ownsRow_nil _ _ _ _),Below.refl _ _⟩
     case round =>
      obtain⟨j,rfl,hj,HT,aB⟩:=hrel;by_cases tM:j < n
      ·obtain⟨h2,h3,h4,h5,h6⟩:=M0.out.open;obtain⟨rd,rfl⟩ : ∃ ad,ra=some ad:=by
        cases ra with
        | none=>have:=h5 rfl;omega
        | some ad=>exact⟨ad,rfl⟩
       obtain⟨y,hy⟩ : ∃ y,s[j]? = some y:=⟨_,g8 (by rw[<-HN.out];exact tM)⟩
       have c0:wr.cell? (rd.add j)=some (.int .i64 y):=Cx.q8 ((aw.trans (aB.mono aw.size))) (h6 rd rfl j _ (by simp[ints,hy]));have o3:j7 (s.take (j+1)) (b+1)=j7 (s.take j) (b+1)++(if (b+1) / 2 ^ j % 2=1 then [y] else []):=by
        rw[gq,hy];have:=q7r (s.take j) y (b+1);rw[gh,<-HN.out,bB (by omega)] at this;exact this
       have pE:=lhd o3;clear h2 h3 h4 h5 h6 hy o3;have pF:=qnj b j;have ly:wm.heap.size<=wr.heap.size:=aB.size;have Iq:=qae (s.take j) (b+1);rw[gh] at Iq;by_cases hc:(b+1) / 2 ^ j % 2=1
       ·rw[hc] at pF;rw[if_pos hc] at pE;clear hc;go_wp2_with (at_builtin;refine qo (W:=wm) rfl _ _ 22 rfl wm.heap.size 3 Tryz.xg Tryz.underlying22 rfl (by decide) (by decide) _ _ _ rfl HT.out [.int .i64 y] rfl rfl (q5v _) ?sa1 aB ?sa2 ?_)
        case sa1=>omega
        case sa2=>exact ly
        intro v5 w5 cH _ aT;have F5:=lhd (aiq cH aT);clear cH aT;go_wp2;go_roundw
        case measure=>simp[vI];omega
        case rel =>
         refine⟨j+1,qh (by omega),by omega,(show Hid _ from ?_),F5.out.2⟩;rw[pE.out,j3,gl];exact F5.out.1
       ·have eZ:(b+1) / 2 ^ j % 2=0:=by omega
        rw[eZ] at pF;rw[if_neg hc,gQ] at pE;clear hc eZ;go_wp2;go_roundw
        case measure=>simp[vI];omega
        case rel=>exact⟨j+1,qh (by omega),by omega,(show Hid _ from by rw[pE.out];exact HT.out),aB⟩
      ·have Ir:j=n:=by omega
       have oM:s.take j=s:=ge (by rw[<-HN.out];omega);rw[oM] at HT;obtain⟨t,ht⟩ : ∃ t,t=j7 s (b+1):=⟨_,rfl⟩
       rw[<-ht] at HT;have Rs:=lhd ht;clear Ir oM ht;obtain⟨ta,tc,Rt⟩:=qj HT.out;subst Rt;have wL:=q67 s A0 b;have Is:b<=16:=by omega
       have BW:=lhd (Io.out.q8 aB);have M4:=lhd (Sl.qc HT.out);obtain⟨A,hA⟩ : ∃ A,A=kt s A0 b:=⟨_,rfl⟩
       rw[<-hA] at BW wL;have It:A.length<=1099511627776:=by omega
       have uh:kt s A0 (b+1)=q24 A t:=by rw[q2o,<-hA,<-Rs.out]
       have Bc:=lhd uh;have VO:=lhd hA;clear uh hA;go_wp2_with fail;refine(qdx _ _ A t _ BW.out M4.out It).mono ?_;rintro e w6 ⟨rfl,dJ⟩;obtain⟨p,hp⟩ : ∃ p,p=plc A t:=⟨_,rfl⟩
       obtain⟨q,hq⟩ : ∃ q,q=q34 A t:=⟨_,rfl⟩
       rw[<-hp,<-hq];have cD:p<=A.length:=by rw[hp];exact q8u A t
       have fJ:Below wm.heap.size wm w6:=aB.trans (dJ.mono aB.size);have M5:=lhd (BW.out.q8 dJ);have Ru:=lhd (M4.out.q8 dJ);have Iu:=lhd (aiq hp hq);clear hp hq dJ;cases q with
       | true =>
        have dN:q24 A t=A:=by unfold q24;rw[<-Iu.out.2];rfl
        have BA:=lhd dN;clear dN;go_wp2;go_roundw
        case measure=>simp[vI];omega
        case rel=>exact⟨b+1,qh (by omega),by omega,(show Hid _ from by rw[Bc.out,BA.out];exact M5.out),aw.trans (fJ.mono aw.size)⟩
       | false =>
        have dN:q24 A t=A.take p++t :: A.drop p:=by unfold q24;rw[<-Iu.out.2,<-Iu.out.1];rfl
        have BA:=lhd dN;clear dN;obtain⟨ws,BX,ui,Ae⟩:=M5.out;have eh:=SlI.qq2 ui Ae;obtain⟨oa,on,oc,nw,g1,g2,g3,g4,g5⟩:=BX;subst nw;have rB:on=A.length:=by omega
        have BY:Sl w6 1 (.slice oa on oc) ws:=⟨oa,on,oc,rfl,g1,g2,g3,g4,g5⟩
        have kO:=lhd (aiq BY (aiq ui (aiq Ae eh)));have Af:=lhd rB;have jN:p<=on:=by omega
        have o9:p<=oc:=by omega
        have Rv:on<=1099511627776:=by omega
        unfold maxLen at g2;have G4:=lhd g4;have oA:wm.heap.size<=w6.heap.size:=fJ.size;have fin:∀ (u:Value) (w':World),w'.ownsRow w6.heap.size 22 1 u (p+(1+(on - p))) (ws.take p++([Value.slice ta t.length tc]++ws.drop p))->Below w6.heap.size w6 w'->SlI w' u (kt s A0 (b+1))/\Below w1.heap.size w1 w':=fun u w' h1 h2=>by
         refine⟨?_,aw.trans ((fJ.trans (h2.mono oA)).mono aw.size)⟩;rw[Bc.out,BA.out];exact SlI.ins (Sl.qc h1) kO.out.2.1 (by omega) (fun i u l hu hl=>(kO.out.2.2.1 i u l hu hl).q8 h2) (Ru.out.q8 h2)
        have aP:=lhd fin;have uf:(ws.drop p).length=(on - p)*1:=by rw[gC];omega
        have oM:(ws.take p).length=p*1:=by rw[gh];omega
        have rC:=lhd (aiq uf oM);clear BY ui Ae eh g3 g4 g5 fin uf oM rB;cases oa with
        | none =>
         have Rw:oc=0:=G4.out rfl;subst Rw;obtain rfl:p=0:=by omega
         obtain rfl:on=0:=by omega
         have uj:Sl (w6.alloc (.cells #[.slice ta t.length tc] 22)) 1 (.slice none 0 0) (ws.drop 0):=(kO.out.1).alloc _;go_wp2_with (at_builtin;refine qm (W:=w6) rfl _ _ 95 rfl w6.heap.size 22 Tryz.q06 Tryz.underlying95 rfl (by decide) (by decide) _ _ _ rfl (vq w6 22 1 1 [.slice ta t.length tc] rfl (by unfold maxLen;omega)) _ (0 - 0) (ws.drop 0) rfl uj rC.out.1 (fun u hu=>kO.out.2.2.2 u (bu hu)) ?ran ((Below.refl _ w6).alloc (nlr _) _) ?rbn ?_)
         case ran=>omega
         case rbn=>simp
         intro v7 w7 mo _ iH;have ny:w6.heap.size<=w7.heap.size:=iH.size;have R7:=lhd mo;have uk:Sl (w7.alloc (.cells #[] 22)) 1 (.slice none 0 0) (ws.take 0):=by
          have:=((kO.out.1.q8 iH).alloc (.cells #[] 22)).take (k:=0) jN;simpa using this
         have BZ:=lhd iH;clear mo iH;go_wp2_with (at_builtin;refine qm (W:=w7) rfl _ _ 95 rfl w7.heap.size 22 Tryz.q06 Tryz.underlying95 rfl (by decide) (by decide) _ _ _ rfl (zj w7 22 1) _ 0 (ws.take 0) rfl uk rC.out.2 (fun u hu=>kO.out.2.2.2 u (gU hu)) ?rcn ((Below.refl _ w7).alloc (nlr _) _) ?rdn ?_)
         case rcn=>omega
         case rdn=>simp
         intro v8 w8 jA _ mq;have uo:Sl w8 1 v7 ([Value.slice ta t.length tc]++ws.drop 0):=Sl.qc (qa R7.out mq);go_wp2_with (at_builtin;refine qm (W:=w7) rfl _ _ 95 rfl w7.heap.size 22 Tryz.q06 Tryz.underlying95 rfl (by decide) (by decide) _ _ _ rfl jA _ (1+(0 - 0)) ([Value.slice ta t.length tc]++ws.drop 0) rfl uo ?ren ?rfn ?rgn mq ?rhn ?_)
         case ren=>rw[gl,rC.out.1];show 1+_=_;omega
         case rfn=>exact fun u hu=>(gF.1 hu).elim (fun h=>by simp at h;subst h;rfl) (fun h=>kO.out.2.2.2 u (bu h))
         case rgn=>omega
         case rhn=>exact mq.size
         intro v9 w9 pG _ l9;have F9:=lhd (aP.out v9 w9 (qf (zm pG (by omega)) ny) (BZ.out.trans (l9.mono ny)));clear jA mq pG l9 uj uk uo;go_wp2;go_roundw
         case measure=>simp[vI];omega
         case rel=>exact⟨b+1,qh (by omega),by omega,(show Hid _ from F9.out.1),F9.out.2⟩
        | some od =>
         have VP:(p:Int)<=oc:=by omega
         have VQ:(p:Int)<=on:=by omega
         by_cases Ca:oc=p
         ·subst Ca;have uj:Sl (w6.alloc (.cells #[.slice ta t.length tc] 22)) 1 (.slice (some od) 0 0) (ws.drop oc):=by
           have hd:ws.drop oc=[]:=gu (by rw[rC.out.1];omega);rw[hd];exact Sl.empty _ _ _ _ (by unfold maxLen;omega)
          go_wp2_with (at_builtin;refine qm (W:=w6) rfl _ _ 95 rfl w6.heap.size 22 Tryz.q06 Tryz.underlying95 rfl (by decide) (by decide) _ _ _ rfl (vq w6 22 1 1 [.slice ta t.length tc] rfl (by unfold maxLen;omega)) _ (on - oc) (ws.drop oc) rfl uj rC.out.1 (fun u hu=>kO.out.2.2.2 u (bu hu)) ?raa ((Below.refl _ w6).alloc (nlr _) _) ?rba ?_)
          case raa=>omega
          case rba=>simp
          intro v7 w7 mo _ iH;have ny:w6.heap.size<=w7.heap.size:=iH.size;have R7:=lhd mo;have uk:Sl (w7.alloc (.cells #[] 22)) 1 (.slice (some od) oc oc) (ws.take oc):=by
           have:=((kO.out.1.q8 iH).alloc (.cells #[] 22)).take (k:=oc) jN;simpa using this
          have BZ:=lhd iH;clear mo iH;go_wp2_with (at_builtin;refine qm (W:=w7) rfl _ _ 95 rfl w7.heap.size 22 Tryz.q06 Tryz.underlying95 rfl (by decide) (by decide) _ _ _ rfl (zj w7 22 1) _ oc (ws.take oc) rfl uk rC.out.2 (fun u hu=>kO.out.2.2.2 u (gU hu)) ?rca ((Below.refl _ w7).alloc (nlr _) _) ?rda ?_)
          case rca=>omega
          case rda=>simp
          intro v8 w8 jA _ mq;have uo:Sl w8 1 v7 ([Value.slice ta t.length tc]++ws.drop oc):=Sl.qc (qa R7.out mq);go_wp2_with (at_builtin;refine qm (W:=w7) rfl _ _ 95 rfl w7.heap.size 22 Tryz.q06 Tryz.underlying95 rfl (by decide) (by decide) _ _ _ rfl jA _ (1+(on - oc)) ([Value.slice ta t.length tc]++ws.drop oc) rfl uo ?rea ?rfa ?rga mq ?rha ?_)
          case rea=>rw[gl,rC.out.1];show 1+_=_;omega
          case rfa=>exact fun u hu=>(gF.1 hu).elim (fun h=>by simp at h;subst h;rfl) (fun h=>kO.out.2.2.2 u (bu h))
          case rga=>omega
          case rha=>exact mq.size
          intro v9 w9 pG _ l9;have F9:=lhd (aP.out v9 w9 (qf (zm pG (by omega)) ny) (BZ.out.trans (l9.mono ny)));clear jA mq pG l9 uj uk uo;go_wp2;go_roundw
          case measure=>simp[vI];omega
          case rel=>exact⟨b+1,qh (by omega),by omega,(show Hid _ from F9.out.1),F9.out.2⟩
         ·have uj:Sl (w6.alloc (.cells #[.slice ta t.length tc] 22)) 1 (.slice (some (od.add p)) (on - p) (oc - p)) (ws.drop p):=by
           have:=(kO.out.1.alloc (.cells #[.slice ta t.length tc] 22)).drop jN;simpa using this
          go_wp2_with (at_builtin;refine qm (W:=w6) rfl _ _ 95 rfl w6.heap.size 22 Tryz.q06 Tryz.underlying95 rfl (by decide) (by decide) _ _ _ rfl (vq w6 22 1 1 [.slice ta t.length tc] rfl (by unfold maxLen;omega)) _ (on - p) (ws.drop p) rfl uj rC.out.1 (fun u hu=>kO.out.2.2.2 u (bu hu)) ?rab ((Below.refl _ w6).alloc (nlr _) _) ?rbb ?_)
          case rab=>omega
          case rbb=>simp
          intro v7 w7 mo _ iH;have ny:w6.heap.size<=w7.heap.size:=iH.size;have R7:=lhd mo;have uk:Sl (w7.alloc (.cells #[] 22)) 1 (.slice (some od) p oc) (ws.take p):=by
           have:=((kO.out.1.q8 iH).alloc (.cells #[] 22)).take (k:=p) jN;simpa using this
          have BZ:=lhd iH;clear mo iH;go_wp2_with (at_builtin;refine qm (W:=w7) rfl _ _ 95 rfl w7.heap.size 22 Tryz.q06 Tryz.underlying95 rfl (by decide) (by decide) _ _ _ rfl (zj w7 22 1) _ p (ws.take p) rfl uk rC.out.2 (fun u hu=>kO.out.2.2.2 u (gU hu)) ?rcb ((Below.refl _ w7).alloc (nlr _) _) ?rdb ?_)
          case rcb=>omega
          case rdb=>simp
          intro v8 w8 jA _ mq;have uo:Sl w8 1 v7 ([Value.slice ta t.length tc]++ws.drop p):=Sl.qc (qa R7.out mq);go_wp2_with (at_builtin;refine qm (W:=w7) rfl _ _ 95 rfl w7.heap.size 22 Tryz.q06 Tryz.underlying95 rfl (by decide) (by decide) _ _ _ rfl jA _ (1+(on - p)) ([Value.slice ta t.length tc]++ws.drop p) rfl uo ?reb ?rfb ?rgb mq ?rhb ?_)
          case reb=>rw[gl,rC.out.1];show 1+_=_;omega
          case rfb=>exact fun u hu=>(gF.1 hu).elim (fun h=>by simp at h;subst h;rfl) (fun h=>kO.out.2.2.2 u (bu h))
          case rgb=>omega
          case rhb=>exact mq.size
          intro v9 w9 pG _ l9;have F9:=lhd (aP.out v9 w9 (qf (zm pG (by omega)) ny) (BZ.out.trans (l9.mono ny)));clear jA mq pG l9 uj uk uo;go_wp2;go_roundw
          case measure=>simp[vI];omega
          case rel=>exact⟨b+1,qh (by omega),by omega,(show Hid _ from F9.out.1),F9.out.2⟩
    ·have Is:b=N - 1:=by omega
     have da:SlI wr u3 (kg (ls.take (k+1))):=by rw[dc.out,<-Is];exact Io.out
     have wL:=q67 s A0 b;obtain⟨ws,BX,ui,_⟩:=Io.out;obtain⟨oa,on,oc,nw,_,_,g3,_,_⟩:=BX;subst nw;have rB:on<=4000:=by omega
     have Rx:(on:Int)<=4000:=by omega
     have Iv:=lhd da;have Ip:Below W.heap.size W wr:=hB.trans ((al.trans (aw.mono al.size)).mono hB.size);clear da g3 ui wL Is rB;go_wp2;go_roundw
     case measure=>simp[vI];omega
     case rel=>exact⟨k+1,qh (by omega),by omega,Iv,Ip⟩
  ·have aR:k=len:=by omega
   have dw:ls.take k=ls:=ge (by rw[HL.out];omega);rw[dw] at HA;have wM:=q3v ls (fun s hs=>(HS.out s hs).1);have wN:=q8x ls (fun s hs=>(HS.out s hs).1);rw[HL.out] at wM;obtain⟨A,hA⟩ : ∃ A,A=kg ls:=⟨_,rfl⟩
   have M6:=lhd (show q0m ls=xf A A.length by unfold q0m;rw[hA]);rw[<-hA] at HA wM wN;have Ij:A.length<=180:=by omega
   obtain⟨ws,BX,ui,Ae⟩:=HA.out;obtain⟨oa,on,oc,nw,g1,g2,g3,g4,g5⟩:=BX;subst nw;unfold maxLen at g2;have rB:on=A.length:=by omega
   have Af:=lhd rB;have iY:=lhd wN;have M7:=lhd (aiq ui Ae);have G4:=lhd g4;have G5:=lhd g5;have Iw:on<=180:=by omega
   rw[<-Af.out] at M6;have ca:=(i7.out.below hB (by have:=HZ.out;omega))
   have Ix:=lhd ca;clear aR dw wM wN hA Ij ui Ae g3 g4 g5 ca rB;obtain⟨wq,Ry⟩ : ∃ wq:World,wq=wr:=⟨_,rfl⟩
   subst Ry;go_wp2;obtain⟨V2,Cb⟩ : ∃ V:World,V=wq.alloc (.cells #[.slice none 0 0] 26):=⟨_,rfl⟩
   rw[<-Cb];have Iy:Bv V2 wq.heap.size (.slice none 0 0):=by rw[Cb];exact Bv.new _ _ _
   have aD:Below wq.heap.size wq V2:=by rw[Cb];exact(Below.refl _ _).alloc (nlr _) _
   have Cc:V2.heap.size=wq.heap.size+1:=by rw[Cb];simp
   have M8:=lhd Cc;clear Cb Cc;go_loopw [14] (fun i wr=>∃ (i0:Nat) (m:List Ce) (u:Value),i = .int .i64 i0/\i0<=on/\m.length=i0/\Hid (wr.ownsRow V2.heap.size 75 3 u i0 (cat Ce.enc m))/\Hid (∀ x∈m,wr.ownsRow V2.heap.size 108 2 x.sl x.s.length (cat Sd.enc x.s))/\Hid (m.map Ce.cl=xf A i0)/\Hid (Bv wr wq.heap.size u)/\Below wq.heap.size wq wr/\V2.heap.size<=wr.heap.size) (fun i _=>on - (vI i).toNat)
   case atStart=>exact⟨0,[],_,rfl,gp _,rfl,(show Hid _ from World.ownsRow_nil _ _ _ _),(show Hid _ from fun x hx=>by simp at hx),(show Hid _ from rfl),(show Hid _ from Iy),aD,nlr _⟩
   case round =>
    obtain⟨i0,m,u,rfl,hi,eV,HR,HF,Ag,EF,bU,mh⟩:=hrel;have Iz:Below w.heap.size w wr:=aL.trans (bU.mono aL.size);by_cases iw:i0 < on
    ·obtain⟨od,EH⟩ : ∃ ad,oa=some ad:=by
      cases oa with
      | none=>have:=G4.out rfl;omega
      | some ad=>exact⟨ad,rfl⟩
     subst EH;obtain⟨tv,I0⟩ : ∃ tv,ws[i0]? = some tv:=⟨_,g8 (by rw[M7.out.1,<-Af.out];exact iw)⟩
     obtain⟨x,hx⟩ : ∃ x,A[i0]? = some x:=⟨_,g8 (by rw[<-Af.out];exact iw)⟩
     have s7:=M7.out.2 i0 tv x I0 hx;obtain⟨xa,xn,xc,oB⟩:=qg s7;subst oB;have BD:=iY.out x (gd hx);obtain⟨q1,q2,q3,q4,q5⟩:=s7.open;rw[xl,gK] at q3;unfold maxLen at q2;rw[q3] at BD;have Cd:xf A (i0+1)=xf A i0++[xy A i0 x]:=by rw[q4o,gI,hx];rfl
     have Rz:=lhd Cd;have I1:=lhd q3;have R0:=lhd q4;have VR:=lhd q5;have I2:=lhd s7;have M9:=lhd (G5.out od rfl i0 _ I0);have c0:wr.cell? (od.add i0)=some (.slice xa xn xc):=Cx.q8 bU M9.out;obtain⟨wo,db⟩ : ∃ wo:World,wo=wr:=⟨_,rfl⟩
     subst db;clear I0 hx s7 q3 q4 q5 Cd;go_wp2;obtain⟨V3,uq⟩ : ∃ V:World,V=wo.alloc (.cells #[.int .i64 ((i0:Int)+1),.int .i64 ((xn:Int) - 1),.slice none 0 0] 75):=⟨_,rfl⟩
     rw[<-uq];have v0:V3.cell? ⟨wo.heap.size,0,none⟩=some (.int .i64 ((i0:Int)+1)):=by rw[uq];exact qd wo #[.int .i64 ((i0:Int)+1),.int .i64 ((xn:Int) - 1),.slice none 0 0] 75 (0,0) 0
     have v1:V3.cell? ⟨wo.heap.size,1,none⟩=some (.int .i64 ((xn:Int) - 1)):=by rw[uq];exact qd wo #[.int .i64 ((i0:Int)+1),.int .i64 ((xn:Int) - 1),.slice none 0 0] 75 (0,0) 1
     have v2:V3.cell? ⟨wo.heap.size,2,none⟩=some (.slice none 0 0):=by rw[uq];exact qd wo #[.int .i64 ((i0:Int)+1),.int .i64 ((xn:Int) - 1),.slice none 0 0] 75 (0,0) 2
     have vf:V3.frozen? ⟨wo.heap.size,2,none⟩=false:=by rw[uq];exact jz (heap_alloc_new wo _) 2
     have I3:Below wo.heap.size wo V3:=by rw[uq];exact(Below.refl _ wo).alloc (nlr _) _
     have R4:=lhd (show V3.heap.size=wo.heap.size+1 by rw[uq];simp);clear uq;go_loopw [16] (fun i wr=>∃ (k:Nat) (sv:Value),i = .int .i64 k/\k<=xn/\(0 < k->1 < xn)/\Hid (wr.ownsRow (wo.heap.size+1) 108 2 sv k (cat Sd.enc (z7 A x k))) ∧
      wr.cell? ⟨wo.heap.size,0,none⟩=some (.int .i64 ((i0:Int)+1))/\wr.cell? ⟨wo.heap.size,1,none⟩=some (.int .i64 ((xn:Int) - 1))/\wr.cell? ⟨wo.heap.size,2,none⟩=some sv/\wr.frozen? ⟨wo.heap.size,2,none⟩=false/\Below wo.heap.size wo wr/\Hid (wo.heap.size+1<=wr.heap.size)) (fun i _=>xn - (vI i).toNat)
     case atStart=>exact⟨0,_,rfl,gp _,by omega,(show Hid _ from World.ownsRow_nil _ _ _ _),v0,v1,v2,vf,I3,(show Hid _ from by show wo.heap.size+1<=V3.heap.size;have:=R4.out;omega)⟩
     case round =>
      clear v0 v1 v2 vf c0;obtain⟨kk,sv,rfl,rU,ey,ur,c0,c1,c2,cf,dT,MA⟩:=hrel;have kP:Below wq.heap.size wq wr:=bU.trans (dT.mono bU.size);have d0:wr.cell? (od.add i0)=some (.slice xa xn xc):=Cx.q8 kP M9.out;by_cases rD:kk < xn/\1 < xn
      ·obtain⟨s8,eM⟩:=rD;have R5:(0:Int) < (xn:Int) - 1:=by omega
       obtain⟨xd,uu⟩ : ∃ ad,xa=some ad:=by
        cases xa with
        | none=>have:=R0.out rfl;omega
        | some ad=>exact⟨ad,rfl⟩
       subst uu;have rl:(kk:Int)<=xc:=by omega
       have R6:(kk:Int)+1<=xc:=by omega
       have ng:(kk:Int)+1<=xn:=by omega
       have dr:(0:Int)<=(kk:Int)+1:=by omega
       have R8:IntKind.i64.wrap ((kk:Int)+1)=(kk:Int)+1:=IntWalk.i64_in _ (by omega);have MB:Sl wr 1 (.slice (some xd) xn xc) (ints x):=I2.out.q8 kP;have MC:=lhd MB;have o7:(ints x).length=xn:=by rw[xl];exact I1.out
       have cZ:((ints x).take kk).length=kk*1:=by rw[gh,o7];omega
       have Cf:((ints x).drop (kk+1)).length=(xn - (kk+1))*1:=by rw[gC,o7];omega
       have wO:=lhd (aiq cZ Cf);have eh:∀ u∈ints x,u.oneCell'=true:=q65 x;have Cg:=lhd eh;have rT:∀ (w':World),Below wr.heap.size wr w'->Sl w' 1 (.slice (some xd) kk xc) ((ints x).take kk):=fun w' hb=>by
        have:=(MC.out.q8 hb).take (k:=kk) (by omega);simpa using this
       have tG:∀ (w':World) (p:Prop) [Decidable p],(p↔xc=kk+1)->Below wr.heap.size wr w'->Sl w' 1 (.slice (if p then some xd else some (xd.add (kk+1))) (xn - (kk+1)) (xc - (kk+1))) ((ints x).drop (kk+1)):=fun w' p _ hp hb=>by
        split
        ·rename_i iD;have:=hp.1 iD;have hd:(ints x).drop (kk+1)=[]:=gu (by rw[wO.out.2];omega);rw[hd,show xn - (kk+1)=0 by omega];exact Sl.empty _ _ _ _ (by unfold maxLen;omega)
        ·have:=(MC.out.q8 hb).drop (k:=kk+1) (by omega);simpa using this
       have I4:=lhd rT;have rA:=lhd tG;clear MB o7 cZ Cf eh rT tG;have MD:Below wr.heap.size wr ((wr.alloc (.cells #[] 3)).drew):=qb ((Below.refl _ wr).alloc (nlr _) _) 1;have ME:=lhd MD;clear MD;go_wp2_with fail
       go_region_held3 (fun w'=>w'.cell? (od.add i0)=some (.slice (some xd) xn xc))
        (first | assumption | exact qk (by assumption) _ | fail)
        (first
         |(refine ju ((wr.alloc (.cells #[] 3)).drew) rfl _ _ 22 rfl wr.heap.size 3 Tryz.xg Tryz.underlying22 rfl (by decide) (by decide) _ 0 [] rfl (vq wr.drew 3 1 0 [] rfl (by unfold maxLen;omega)) _ kk ((ints x).take kk) rfl (by simp[Act.eval];exact I4.out _ ME.out) wO.out.1 (fun u hu=>Cg.out u (gU hu)) (by omega) (by show wr.heap.size<=(wr.alloc (.cells #[] 3)).heap.size;simp) ?_;intro r1 w2 fj Ch;have aQ:Below wr.heap.size wr w2:=ME.out.trans Ch;have y0:=Cx.q8 aQ d0;have R1:=lhd (aiq fj aQ);clear fj Ch aQ)
         |(go_must (refine ju w2 rfl _ _ 22 rfl wr.heap.size 3 Tryz.xg Tryz.underlying22 rfl (by decide) (by decide) r1 (0+kk) ([]++(ints x).take kk) rfl R1.out.1 _ (xn - (kk+1)) ((ints x).drop (kk+1)) rfl (by simp[Act.eval];exact rA.out _ _ Iff.rfl R1.out.2) wO.out.2 (fun u hu=>Cg.out u (bu hu)) (by omega) R1.out.2.size ?_;intro r2 w3 cB Ci;have wP:Below wr.heap.size wr w3:=R1.out.2.trans Ci;have y1:=Cx.q8 wP d0;have R2:=lhd (aiq cB wP);clear cB Ci wP)))
       all_goals
        generalize (if xc=kk+1 then some xd else some (⟨xd.block,xd.off+(kk+1),none⟩ : Addr))=s130;have s9:Below wo.heap.size wo w3:=dT.trans (R2.out.2.mono dT.size);have MF:SlI w3 (.slice (some od) on oc) A:=HA.out.q8 (bU.trans (s9.mono bU.size));have BW:=lhd MF;have MG:Sl w3 1 r2 (ints (x.take kk++x.drop (kk+1))):=by
         have:=Sl.qc R2.out.1;rw[j3,show ints (x.take kk)=(ints x).take kk from q49 _ _,show ints (x.drop (kk+1))=(ints x).drop (kk+1) by simp[ints,List.map_drop]];exact this
        have R9:=lhd MG;have It:A.length<=1099511627776:=by rw[<-Af.out];omega
        have s0:=Cx.q8 R2.out.2 c0;have s1:=Cx.q8 R2.out.2 c1;have s2:=Cx.q8 R2.out.2 c2;have sf:w3.frozen? ⟨wo.heap.size,2,none⟩=false:=qv R2.out.2 (World.block_lt_of_cell? wr _ c2) cf;have I5:=lhd (qa ur.out R2.out.2);have kI:wo.heap.size+1<=w3.heap.size:=gn MA.out R2.out.2.size;clear MF MG c0 c1 c2 cf y0 y1 d0;go_wp2_with fail;refine(qdx _ _ A (x.take kk++x.drop (kk+1)) _ BW.out R9.out It).mono ?_;rintro e w4 ⟨rfl,cP⟩;obtain⟨pp,iD⟩ : ∃ p,p=plc A (x.take kk++x.drop (kk+1)):=⟨_,rfl⟩
        obtain⟨qq,nz⟩ : ∃ q,q=q34 A (x.take kk++x.drop (kk+1)):=⟨_,rfl⟩
        rw[<-iD,<-nz];have cD:pp<=180:=by have:=q8u A (x.take kk++x.drop (kk+1));rw[<-iD,<-Af.out] at this;omega
        obtain⟨rr,Ah⟩ : ∃ r,r=kk % 2:=⟨_,rfl⟩
        have nf:rr<=1:=by omega
        have RA:(kk:Int).tmod 2=(rr:Int):=by rw[Int.tmod_eq_emod_of_nonneg (by omega),Ah];omega
        have RB:IntKind.i64.wrap ((pp:Int)+1)=(pp:Int)+1:=IntWalk.i64_in _ (by omega);have RC:IntKind.i64.wrap (2*(rr:Int))=2*(rr:Int):=IntWalk.i64_in _ (by omega);have RD:IntKind.i64.wrap (1 - 2*(rr:Int))=1 - 2*(rr:Int):=IntWalk.i64_in _ (by omega);have iA:z7 A x (kk+1)=z7 A x kk++[⟨(pp:Int)+1,1 - 2*(rr:Int)⟩]:=by rw[qc3,iD,Ah]
        have vZ:=lhd iA;have t0:=Cx.q8 cP s0;have t1:=Cx.q8 cP s1;have t2:=Cx.q8 cP s2;have tf:w4.frozen? ⟨wo.heap.size,2,none⟩=false:=qv cP (World.block_lt_of_cell? w3 _ s2) sf;have wQ:=lhd (qa I5.out cP);have I6:wo.heap.size+1<=w4.heap.size:=gn kI cP.size;have Cj:=lhd (s9.trans (cP.mono s9.size));clear iD nz Ah iA s0 s1 s2 sf cP s9;go_wp2_with (at_builtin;go_loud (refine qo (W:=w4) rfl _ _ 73 rfl (wo.heap.size+1) 108 Tryz.q05 Tryz.underlying73 rfl (by decide) (by decide) _ _ _ rfl wQ.out [.int .i64 ((pp:Int)+1),.int .i64 (1 - 2*(rr:Int))] rfl rfl (fun u hu=>by simp at hu;rcases hu with rfl | rfl <;> rfl) (by omega) (Below.refl _ _) I6 ?_));intro v5 w5 cH ed _;have ak:∀ b,sv.ownBlock=some b->wo.heap.size≠b:=fun b e=>by have:=(wQ.out.lt b e).1;omega
        have z0:=ql ed t0 ak;have z1:=ql ed t1 ak;have z2:=ql ed t2 ak;have zf:w5.frozen? ⟨wo.heap.size,2,none⟩=false:=(ed.frozen_far ⟨wo.heap.size,2,none⟩ (World.block_lt_of_cell? w4 _ t2) (fun e=>ak _ e.symm rfl)).trans tf;have aT:Below wo.heap.size wo w5:=Cj.out.grown ed (by omega) (fun b e=>by have:=(wQ.out.lt b e).1;omega);have zT:=ed.size;obtain⟨f4,f5,l8⟩:=qj cH;subst l8;have F5:=lhd (aiq cH (aiq aT (aiq z0 (aiq z1 zT))));clear cH ed aT z0 z1 zT t0 t1 t2 tf ak;go_wp2;go_roundw
        case measure=>simp[vI];omega
        case rel =>
         obtain⟨cH,aT,z0,z1,zT⟩:=F5.out;refine⟨kk+1,_,qh (by omega),by omega,fun _=>eM,(show Hid _ from ?_),q3d z0 (by simp),q3d z1 (by simp),World.cell?_setCell_same' _ _ _ (by rw[z2];rfl),by simpa [World.frozen?_setCell] using zf,aT.setCell (nlr _) _,(show Hid _ from by show _<=_;simp[World.setCell];omega)⟩;rw[vZ.out,x9,q1c];exact ownsRow_setCell_below cH (by show wo.heap.size < _;omega) _
      ·have iA:z7 A x kk=z7 A x (if 1 < x.length then x.length else 0):=by
        congr 1
        rw[I1.out];by_cases h1:1 < xn
        ·rw[if_pos h1];omega
        ·rw[if_neg h1];omega
       have fq:(z7 A x kk).length=kk:=by simp[z7]
       have aX:(z7 A x kk).length<=1099511627776:=by rw[fq];omega
       have mj:=lhd (Sl.qc ur.out);have s8:kk < xn->¬ ((0:Int) < (xn:Int) - 1):=fun _=>by omega
       have RE:wo.heap.size<=wr.heap.size:=dT.size;have fin:∀ (r:Value) (w6:World),w6.ownsRow wr.heap.size 108 2 r kk (cat Sd.enc (zx (z7 A x kk)))->Below wr.heap.size wr w6 →
         w6.cell? ⟨wo.heap.size,0,none⟩=some (.int .i64 ((i0:Int)+1))/\w6.cell? ⟨wo.heap.size,1,none⟩=some (.int .i64 ((xn:Int) - 1))/\w6.cell? ⟨wo.heap.size,2,none⟩=some sv/\w6.frozen? ⟨wo.heap.size,2,none⟩=false ∧
         w6.cell? ⟨wq.heap.size,0,none⟩=some u/\w6.frozen? ⟨wq.heap.size,0,none⟩=false ∧
         ((w6.setCell ⟨wo.heap.size,2,none⟩ r).ownsRow V2.heap.size 75 3 u i0 (cat Ce.enc m)/\V2.heap.size<=w6.heap.size ∧
          ∀ (v8:Value) (w8:World),w8.ownsRow V2.heap.size 75 3 v8 (i0+1) (cat Ce.enc m++[.int .i64 ((i0:Int)+1),.int .i64 ((xn:Int) - 1),r])->(w6.setCell ⟨wo.heap.size,2,none⟩ r).grownBy w8 u.ownBlock →
           w8.cell? ⟨wq.heap.size,0,none⟩=some u/\w8.frozen? ⟨wq.heap.size,0,none⟩=false/\∃ m':List Ce,m'.length=i0+1/\Hid ((w8.setCell ⟨wq.heap.size,0,none⟩ v8).ownsRow V2.heap.size 75 3 v8 (i0+1) (cat Ce.enc m')) ∧
            Hid (∀ y∈m',(w8.setCell ⟨wq.heap.size,0,none⟩ v8).ownsRow V2.heap.size 108 2 y.sl y.s.length (cat Sd.enc y.s))/\Hid (m'.map Ce.cl=xf A (i0+1))/\Hid (Bv (w8.setCell ⟨wq.heap.size,0,none⟩ v8) wq.heap.size v8)/\Below wq.heap.size wq (w8.setCell ⟨wq.heap.size,0,none⟩ v8)/\V2.heap.size<=(w8.setCell ⟨wq.heap.size,0,none⟩ v8).heap.size):=fun r w6 dB dJ=>by
        have VS:wq.heap.size < V2.heap.size:=by have:=M8.out;omega
        have fJ:Below wo.heap.size wo w6:=dT.trans (dJ.mono RE);obtain⟨n0,n1⟩:=EF.out.q8 fJ;have EI:∀ b,u.ownBlock=some b->V2.heap.size<=b/\b < wo.heap.size:=fun b e=>HR.out.lt b e
        have RF:=qa HR.out fJ;have Ck:(w6.setCell ⟨wo.heap.size,2,none⟩ r).ownsRow V2.heap.size 75 3 u i0 (cat Ce.enc m):=q10 RF (fun b e=>by have:=EI b e;show b≠wo.heap.size;omega) _;have VT:=fJ.size;have e2:=Cx.q8 dJ c2;refine⟨Cx.q8 dJ c0,Cx.q8 dJ c1,e2,qv dJ (World.block_lt_of_cell? wr _ c2) cf,n0,n1,Ck,by omega,fun v8 w8 h1 h2=>?_⟩;have p0:w8.cell? ⟨wq.heap.size,0,none⟩=some u:=ql h2 (q3d n0 (by intro e;injection e with e _;omega)) (fun b e=>by have:=EI b e;show wq.heap.size≠b;omega);have wR:(w6.setCell ⟨wo.heap.size,2,none⟩ r).heap.size=w6.heap.size:=by simp[World.setCell]
        have p1:w8.frozen? ⟨wq.heap.size,0,none⟩=false:=(h2.frozen_far ⟨wq.heap.size,0,none⟩ (by rw[wR];show wq.heap.size < _;omega) (fun e=>by have h9:V2.heap.size<=wq.heap.size:=(EI _ e.symm).1;omega)).trans (by simpa [World.frozen?_setCell] using n1);have RG:=h2.size;rw[wR] at RG;obtain⟨ra,rc,fM⟩:=qj dB;have mo:(w6.setCell ⟨wo.heap.size,2,none⟩ r).ownsRow V2.heap.size 108 2 r kk (cat Sd.enc (zx (z7 A x kk))):=q10 (qf dB (by omega)) (fun b e=>by have:=(dB.lt b e).1;have:=MA.out;show b≠wo.heap.size;omega) _;have jA:=mo.kept h2 (q1d mo Ck (by decide));have I7:(zx (z7 A x kk)).length=kk:=by rw[q23,fq]
        refine⟨p0,p1,m++[⟨(i0:Int)+1,(xn:Int) - 1,ra,kk,rc,zx (z7 A x kk)⟩],by simp[eV],?_,?_,?_,(show Hid _ from Bv.put ⟨p0,p1⟩ _),?_,by simp[World.setCell];omega⟩
        ·show World.ownsRow _ _ _ _ _ _ _;have:=q10 (a:=⟨wq.heap.size,0,none⟩) h1 (fun b e=>by have:=(h1.lt b e).1;show b≠wq.heap.size;omega) v8;rw[x9,q1c];rw[fM] at this;exact this
        ·show ∀ y∈_,_;intro y hy;rcases gF.1 hy with hy | hy
         ·have g1:=HF.out y hy;have g2:=q10 (a:=⟨wo.heap.size,2,none⟩) (qa g1 fJ) (fun b e=>by have:=(g1.lt b e).2;show b≠wo.heap.size;omega) r;have g3:=g2.kept h2 (q1d g2 Ck (by decide));exact q10 g3 (fun b e=>by have:=(g1.lt b e).1;show b≠wq.heap.size;omega) _
         ·simp only [List.mem_singleton] at hy;subst hy;have g3:=q10 (a:=⟨wq.heap.size,0,none⟩) jA (fun b e=>by have:=(dB.lt b e).1;show b≠wq.heap.size;omega) v8;show World.ownsRow _ _ _ _ (.slice ra kk rc) (zx (z7 A x kk)).length _;rw[I7];rw[fM] at g3;exact g3
        ·show _=_;rw[bo,Ag.out,Rz.out]
         congr 1
         show [(⟨(i0:Int)+1,(xn:Int) - 1,zx (z7 A x kk)⟩ : Cl)]=[xy A i0 x]
         unfold xy;rw[iA,I1.out]
        ·have jB:Below wq.heap.size wq (w6.setCell ⟨wo.heap.size,2,none⟩ r):=(bU.trans (fJ.mono bU.size)).setCell (show wq.heap.size<=wo.heap.size from bU.size) _;exact(jB.grown h2 (by rw[wR];omega) (fun b e=>by have:=EI b e;omega)).setCell (nlr _) _
       have aP:=lhd fin;clear fin iA;by_cases oC:kk < xn
       ·have Cm:=s8 oC;go_wp2_with fail;refine(q8w _ (z7 A x kk) _ mj.out aX).mono ?_;rintro e w6 ⟨r,rfl,dB,dJ⟩;obtain⟨wS,wT,wU⟩:=qj dB;subst wU;rw[fq] at dB ⊢;obtain⟨t0,t1,t2,tf,tb,RH,fin⟩:=aP.out _ w6 dB dJ;have aJ:=lhd fin;have EJ:=lhd (show (w6.setCell ⟨wo.heap.size,2,none⟩ (.slice wS kk wT)).heap.size=w6.heap.size by simp[World.setCell]);have pH:=lhd (fin.1);have ny:V2.heap.size<=w6.heap.size:=fin.2.1;clear dB dJ fin;go_wp2_with (at_builtin;go_loud (refine qo (W:=w6.setCell ⟨wo.heap.size,2,none⟩ (.slice wS kk wT)) rfl _ _ 24 rfl V2.heap.size 75 Tryz.ke Tryz.underlying24 rfl (by decide) (by decide) _ _ _ rfl pH.out [.int .i64 ((i0:Int)+1),.int .i64 ((xn:Int) - 1),.slice wS kk wT] (by rw[EJ.out];rfl) rfl (fun u hu=>by simp at hu;rcases hu with rfl | rfl | rfl <;> rfl) (by omega) (Below.refl _ _) (by simp[World.setCell];exact ny) ?_));intro v8 w8 jA Co _;obtain⟨y0,y1,m',eR,iF,I8,I9,IA,IB,uv⟩:=aJ.out.2.2 v8 w8 jA Co;obtain⟨f4,f5,l8⟩:=qj jA;subst l8;clear jA Co;go_wp2;go_roundw
        case measure=>simp[vI];omega
        case rel=>exact⟨i0+1,m',_,qh (by omega),by omega,eR,iF,I8,I9,IA,IB,uv⟩
       ·have RI:¬ ((kk:Int) < xn):=by omega
        go_wp2_with fail;refine(q8w _ (z7 A x kk) _ mj.out aX).mono ?_;rintro e w6 ⟨r,rfl,dB,dJ⟩;obtain⟨wS,wT,wU⟩:=qj dB;subst wU;rw[fq] at dB ⊢;obtain⟨t0,t1,t2,tf,tb,RH,fin⟩:=aP.out _ w6 dB dJ;have aJ:=lhd fin;have EJ:=lhd (show (w6.setCell ⟨wo.heap.size,2,none⟩ (.slice wS kk wT)).heap.size=w6.heap.size by simp[World.setCell]);have pH:=lhd (fin.1);have ny:V2.heap.size<=w6.heap.size:=fin.2.1;clear dB dJ fin;go_wp2_with (at_builtin;go_loud (refine qo (W:=w6.setCell ⟨wo.heap.size,2,none⟩ (.slice wS kk wT)) rfl _ _ 24 rfl V2.heap.size 75 Tryz.ke Tryz.underlying24 rfl (by decide) (by decide) _ _ _ rfl pH.out [.int .i64 ((i0:Int)+1),.int .i64 ((xn:Int) - 1),.slice wS kk wT] (by rw[EJ.out];rfl) rfl (fun u hu=>by simp at hu;rcases hu with rfl | rfl | rfl <;> rfl) (by omega) (Below.refl _ _) (by simp[World.setCell];exact ny) ?_));intro v8 w8 jA Co _;obtain⟨y0,y1,m',eR,iF,I8,I9,IA,IB,uv⟩:=aJ.out.2.2 v8 w8 jA Co;obtain⟨f4,f5,l8⟩:=qj jA;subst l8;clear jA Co;go_wp2;go_roundw
        case measure=>simp[vI];omega
        case rel=>exact⟨i0+1,m',_,qh (by omega),by omega,eR,iF,I8,I9,IA,IB,uv⟩
    ·have hie:i0=on:=by omega
     obtain⟨a2,cT,wV⟩:=qj HR.out;subst wV;obtain⟨r0,r1⟩:=Ix.out.q8 bU;obtain⟨p0,p1⟩:=EF.out;have RJ:w.heap.size < V2.heap.size:=by have:=M8.out;have:=aL.size;omega
     have fin:m.map Ce.cl=q0m ls/\q1p (wr.setCell ⟨w.heap.size,0,none⟩ (.slice a2 i0 cT)) w.heap.size (.slice a2 i0 cT) m/\Below w.heap.size w (wr.setCell ⟨w.heap.size,0,none⟩ (.slice a2 i0 cT)):=by
      refine⟨by rw[Ag.out,M6.out,hie],q1p.mono (q1p.set (a:=⟨w.heap.size,0,none⟩) (base:=V2.heap.size) ⟨zm HR.out eV.symm,HF.out⟩ RJ _) (by omega),Iz.setCell (nlr _) _⟩
     have aP:=lhd fin;clear fin hie;go_wp2_with fail;refine bodyPost_ret (v:=.agg #[.slice a2 i0 cT]) (by simp[results,Tryz.results74,go_sem,(Bv.put (w:=wr) (b:=w.heap.size) ⟨r0,r1⟩ (.slice a2 i0 cT)).1]) rfl ?_;exact⟨.slice a2 i0 cT,m,rfl,aP.out.1,aP.out.2.1,aP.out.2.2⟩
end Go.Proofs.YtlhicnfeajejhaaGreatDoor
