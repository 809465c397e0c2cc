/- Steps towards MorseParts. Conditions: none. -/
import Derived.Test.YtlhicnfeajejhaaGreatDoorGOb
import Derived.Test.YtlhicnfeajejhaaGreatDoorGOf
set_option maxRecDepth 1000000
set_option maxHeartbeats 16000000
namespace Go.Proofs.YtlhicnfeajejhaaGreatDoor
open Go.RowKit Go.Cx
attribute [local go_sem ↓] Go.wp_at_zero Go.wp_at_succ
theorem q10 {w:World} {base st n:Nat} {e:TypeId} {v:Value} {xs:List Value} (h:w.ownsRow base e st v n xs) {a:Addr} (al:∀ b,v.ownBlock=some b->b≠a.block) (u:Value):(w.setCell a u).ownsRow base e st v n xs:=by
 obtain⟨h1,h2⟩:=h;refine⟨h1,?_⟩;rcases h2 with h2 | ⟨g,cap,cur,rfl,hg,hh,r⟩
 ·exact Or.inl h2
 ·exact Or.inr ⟨g,cap,cur,rfl,hg,by rw[Below.heap_setCell _ _ _ _ (al g rfl)];exact hh,r⟩
theorem q3d {w:World} {a p:Addr} {u x:Value} (h:w.cell? p=some x) (al:p≠a):(w.setCell a u).cell? p=some x:=by rw[World.cell?_setCell_other _ _ _ _ (fun e=>al e.symm)];exact h
theorem SlI.ins {w:World} {v tv:Value} {ws:List Value} {A:List (List Int)} {t:List Int} {p:Nat} (aA:Sl w 1 v (ws.take p++tv :: ws.drop p)) (hl:ws.length=A.length) (hp:p<=A.length)
  (he:∀ (i:Nat) (u:Value) (l:List Int),ws[i]? = some u->A[i]? = some l->Sl w 1 u (ints l)) (ht:Sl w 1 tv (ints t)):SlI w v (A.take p++t :: A.drop p):=by
 have h1:(ws.take p).length=p:=by rw[gd];omega
 have h2:(A.take p).length=p:=by rw[gd];omega
 refine⟨_,aA,by simp[hl],fun i u l hu hl=>?_⟩;rcases Nat.lt_trichotomy i p with h | h | h
 ·rw[bB (by omega),List.getElem?_take_of_lt h] at hu hl;exact he i u l hu hl
 ·subst h;rw[gU (by omega),h1,Nat.sub_self] at hu;rw[gU (by omega),h2,Nat.sub_self] at hl;simp at hu hl;subst hu hl;exact ht
 ·rw[gU (by omega),h1,show i - p=(i - p - 1)+1 by omega,List.getElem?_cons_succ,List.getElem?_drop,show p+(i - p - 1)=i - 1 by omega] at hu;rw[gU (by omega),h2,show i - p=(i - p - 1)+1 by omega,List.getElem?_cons_succ,List.getElem?_drop,show p+(i - p - 1)=i - 1 by omega] at hl;exact he _ u l hu hl
theorem SlI.qq2 {w:World} {ws:List Value} {A:List (List Int)} (hl:ws.length=A.length) (he:∀ (i:Nat) (u:Value) (l:List Int),ws[i]? = some u->A[i]? = some l->Sl w 1 u (ints l)):∀ u∈ws,u.oneCell'=true:=fun u hu=>by
 obtain⟨i,hi,e⟩:=List.mem_iff_getElem.1 hu;have hi2:i < A.length:=by omega
 have:=he i u _ (by rw[g8 hi,e]) (g8 hi2);obtain⟨_,_,_,rfl⟩:=qg this;rfl
theorem Tryz.q06:(Tryz.prog.info? 22).map (fun i=>(i.zero,i.size,i.bytes))=some (some (.slice none 0 0),1,24):=by kernel_rfl
theorem qag (n:Int):bits .and .i64 n 1=n % 2:=by
 have h1:(BitVec.ofInt 64 1).toNat=2 ^ 1 - 1:=by decide
 have key:(BitVec.ofInt 64 n &&& BitVec.ofInt 64 1).toNat=(n % ((2 ^ 64:Nat):Int)).toNat % 2 ^ 1:=by rw[BitVec.toNat_and,BitVec.toNat_ofInt,h1,Nat.and_two_pow_sub_one_eq_mod]
 show IntKind.i64.wrap ((BitVec.ofInt 64 n &&& BitVec.ofInt 64 1).toNat:Nat)=n % 2;rw[key,IntKind.wrap_i64];omega
theorem qnj (b j:Nat):bits .and .i64 (((b:Int)+1) / 2 ^ j) 1=(((b+1) / 2 ^ j % 2:Nat):Int):=by rw[qag];simp
def q1p (w:World) (base:Nat) (v:Value) (m:List Ce):Prop:=w.ownsRow base 75 3 v m.length (cat Ce.enc m)/\∀ x∈m,w.ownsRow base 108 2 x.sl x.s.length (cat Sd.enc x.s)
theorem q1p.slc {w:World} {base:Nat} {v:Value} {m:List Ce} (h:q1p w base v m):SlC w v m:=⟨Sl.qc h.1,fun x hx=>Sl.qc (h.2 x hx)⟩
theorem q1p.set {w:World} {base:Nat} {v:Value} {m:List Ce} (h:q1p w base v m) {a:Addr} (ha:a.block < base) (u:Value):q1p (w.setCell a u) base v m:=⟨ownsRow_setCell_below h.1 ha u,fun x hx=>ownsRow_setCell_below (h.2 x hx) ha u⟩
theorem q1p.mono {w:World} {base mN:Nat} {v:Value} {m:List Ce} (h:q1p w base v m) (hb:mN<=base):q1p w mN v m:=⟨qf h.1 hb,fun x hx=>qf (h.2 x hx) hb⟩
theorem qhr:∀ n:Nat,n<=4->wrap64 ((2:Int) ^ n)=((2 ^ n:Nat):Int)
 | 0,_=>by decide +kernel
 | 1,_=>by decide +kernel
 | 2,_=>by decide +kernel
 | 3,_=>by decide +kernel
 | 4,_=>by decide +kernel
 | n+5,h=>by omega
theorem q1e (v:Value) (ls:List (List Int)) (w:World) (h:SlI w v ls) (hn:ls.length<=12) (hs:∀ s∈ls,s.length<=4/\s.Pairwise (· < ·)/\∀ x∈s,0<=x/\x<=9223372036854775807) :
  Calls Tryz.prog 74 #[v] w fun e w'=>∃ r m,e = .returned (.agg #[r])/\m.map Ce.cl=q0m ls/\q1p w' w.heap.size r m/\BwQ w w':=by
 obtain⟨vs,hv,ui,wZ⟩:=h;obtain⟨a,len,cap,rfl,h1,h2,h3,h4,h5⟩:=hv;unfold maxLen at h2;rw[gL] at h3;have bL:ls.length=len:=by omega
 rw[bL] at hn;have H3:=lhd h3;clear h3;have HL:=lhd bL;clear bL;have H4:=lhd h4;clear h4;have H5:=lhd h5;clear h5;have HE:=lhd wZ;clear wZ;have HS:=lhd hs;clear hs;have key:∀ (i:Nat),i < len->∃ s va vn vc,ls[i]? = some s/\vs[i]? = some (.slice va vn vc)/\Sl w 1 (.slice va vn vc) (ints s):=fun i hi=>by
  obtain⟨u,hu⟩ : ∃ u,vs[i]? = some u:=⟨_,g8 (by rw[H3.out];exact hi)⟩
  obtain⟨l,hl⟩ : ∃ l,ls[i]? = some l:=⟨_,g8 (by rw[HL.out];exact hi)⟩
  have h1:=HE.out i u l hu hl;obtain⟨va,vn,vc,rfl⟩:=qg h1;exact⟨l,va,vn,vc,hl,hu,h1⟩
 have Ib:=lhd key;clear key;go_enter Tryz.func74,Tryz.ntmps74;go_wp2;obtain⟨W,hW⟩ : ∃ W:World,W=w.alloc (.cells #[.slice none 0 0] 26):=⟨_,rfl⟩
 rw[<-hW];have b0:Bv W w.heap.size (.slice none 0 0):=by rw[hW];exact Bv.new w _ _
 have hw:BwQ w W:=by rw[hW];exact bal _ _
 have hz:W.heap.size=w.heap.size+1:=by rw[hW];simp
 have lD:=lhd b0;have HZ:=lhd hz;clear hW b0 hz;go_loopw [3,4] (fun o i wr=>∃ k:Nat,i = .int .i64 k/\k<=len/\Hid (SlI wr o (kg (ls.take k)))/\BwQ W wr) (fun _ i _=>len - (vI i).toNat)
 case atStart=>exact⟨0,rfl,go _,(show Hid _ from SlI.nil _),Below.refl _ _⟩
 case round =>
  obtain⟨k,rfl,hk,HA,hB⟩:=hrel;have aP:BwQ w wr:=(btr hw hB);by_cases hlt:k < len
  ·obtain⟨ad,rfl⟩:=sadq H4.out (by omega)
   obtain⟨s,va,vn,vc,hls,rY,aK⟩:=Ib.out k hlt;have d0:wr.cell? (ad.add k)=some (.slice va vn vc):=Cx.q8 aP (H5.out ad rfl k _ rY);obtain⟨s1,s2,s3⟩:=HS.out s (gh hls);have bZ:kg (ls.take (k+1))=kt s (kg (ls.take k)) (2 ^ s.length - 1):=by rw[gq,hls];exact qfc _ _
   have Kz:(kg (ls.take k)).length<=k*15:=by have:=q3v (ls.take k) (fun s hs=>(HS.out s (gI hs)).1);rw[gd] at this;omega
   have cr:=lhd bZ;have iS:=lhd (aK.q8 aP);have qR:=lhd s2;have K3:=lhd s3;obtain⟨A0,iV⟩ : ∃ A,A=kg (ls.take k):=⟨_,rfl⟩
   rw[<-iV] at HA cr Kz;have K6:=lhd iV;clear bZ rY hls aK s2 s3 iV;obtain⟨wo,de⟩ : ∃ wo:World,wo=wr:=⟨_,rfl⟩
   subst de;go_wp2_with fail;refine(qp2 _ s _ iS.out qR.out K3.out (by omega)).mono ?_;rintro e w1 ⟨r,rfl,hr,ai⟩;have ak:BwQ wo w1:=ai;have Hk:=lhd (HA.out.q8 ai);obtain⟨ra,rc,iX⟩:=qj hr;subst iX;obtain⟨n,uv⟩ : ∃ n,n=s.length:=⟨_,rfl⟩
   have OU:=lhd (Sl.qc hr);rw[<-uv] at OU cr s1 ⊢;have HN:=lhd uv;obtain⟨N,hN⟩ : ∃ N,N=2 ^ n:=⟨_,rfl⟩
   have Uk:N<=16/\1<=N:=by rw[hN];exact⟨bw (n:=2) (by decide) s1,Nat.one_le_two_pow⟩
   have K7:wrap64 ((2:Int) ^ n)=(N:Int):=by rw[hN];exact qhr n s1
   rw[<-hN] at cr;have K8:=lhd hN;clear ai hr d0 iS uv hN;go_wp2;go_loopw [3,7] (fun o i wr=>∃ b:Nat,i = .int .i64 ((b:Int)+1)/\b<=N - 1/\Hid (SlI wr o (kt s A0 b))/\BwQ w1 wr) (fun _ i _=>N - (vI i).toNat)
   case atStart=>exact⟨0,rfl,go _,(show Hid _ from Hk.out),Below.refl _ _⟩
   case round =>
    obtain⟨b,rfl,hb,K9,aw⟩:=hrel;by_cases mj:(b:Int)+1 < N
    ·have KA:BwQ w wr:=aP.trans (((btr ak aw)).mono aP.size);obtain⟨wm,oC⟩ : ∃ wm:World,wm=wr:=⟨_,rfl⟩
     subst oC;go_wp2_with fail;rw[K7];go_loopw [8,9] (fun o i wr=>∃ j:Nat,i = .int .i64 j/\j<=n/\Hid (wr.ownsRow wm.heap.size 3 1 o (j7 (s.take j) (b+1)).length (ints (j7 (s.take j) (b+1))))/\BwQ wm wr) (fun _ i _=>n - (vI i).toNat)
     case atStart=>exact⟨0,rfl,go _,(show Hid _ from World.ownsRow_nil _ _ _ _),Below.refl _ _⟩
     case round =>
      obtain⟨j,rfl,hj,HT,ar⟩:=hrel;by_cases ur:j < n
      ·obtain⟨h2,h3,h4,h5,h6⟩:=OU.out.open;obtain⟨rd,rfl⟩:=sadq h5 (by omega)
       obtain⟨y,hy⟩ : ∃ y,s[j]? = some y:=⟨_,g8 (by rw[<-HN.out];exact ur)⟩
       have c0:wr.cell? (rd.add j)=some (.int .i64 y):=Cx.q8 (((btr aw ar))) (h6 rd rfl j _ (by simp[ints,hy]));have l6:j7 (s.take (j+1)) (b+1)=j7 (s.take j) (b+1)++(if (b+1) / 2 ^ j % 2=1 then [y] else []):=by rw[gq,hy];have:=q7r (s.take j) y (b+1);rw[gd,<-HN.out,gX (by omega)] at this;exact this
       have sR:=lhd l6;clear h2 h3 h4 h5 h6 hy l6;have sS:=qnj b j;have oC:wm.heap.size<=wr.heap.size:=ar.size;have KB:=qae (s.take j) (b+1);rw[gd] at KB;by_cases hc:(b+1) / 2 ^ j % 2=1
       ·rw[hc] at sS;rw[if_pos hc] at sR;clear hc;go_wp2_with (at_builtin;refine qo (W:=wm) rfl _ _ 22 rfl wm.heap.size 3 Tryz.xg Tryz.underlying22 rfl (by decide) (by decide) _ _ _ rfl HT.out [.int .i64 y] rfl rfl (q5v _) ?sa1 ar ?sa2 ?_)
        case sa1=>omega
        case sa2=>exact oC
        intro v5 w5 aZ _ aB;have F5:=lhd (aiq aZ aB);clear aZ aB;go_wp2;go_roundw
        case measure=>simp[vI];omega
        case rel =>refine⟨j+1,qh (by omega),by omega,(show Hid _ from ?_),F5.out.2⟩;rw[sR.out,j3,gc];exact F5.out.1
       ·have fD:(b+1) / 2 ^ j % 2=0:=by omega
        rw[fD] at sS;rw[if_neg hc,gH] at sR;clear hc fD;go_wp2;go_roundw
        case measure=>simp[vI];omega
        case rel=>exact⟨j+1,qh (by omega),by omega,(show Hid _ from by rw[sR.out];exact HT.out),ar⟩
      ·have KC:j=n:=by omega
       have mO:s.take j=s:=gm (by rw[<-HN.out];omega);rw[mO] at HT;obtain⟨t,ht⟩ : ∃ t,t=j7 s (b+1):=⟨_,rfl⟩
       rw[<-ht] at HT;have Kt:=lhd ht;clear KC mO ht;obtain⟨ta,tc,Ul⟩:=qj HT.out;subst Ul;have Ay:=q67 s A0 b;have KD:b<=16:=by omega
       have Ek:=lhd (K9.out.q8 ar);have OV:=lhd (Sl.qc HT.out);obtain⟨A,hA⟩ : ∃ A,A=kt s A0 b:=⟨_,rfl⟩
       rw[<-hA] at Ek Ay;have KE:A.length<=1099511627776:=by omega
       have xU:kt s A0 (b+1)=q24 A t:=by rw[q2o,<-hA,<-Kt.out]
       have D2:=lhd xU;have Y9:=lhd hA;clear xU hA;go_wp2_with fail;refine(qdx _ _ A t _ Ek.out OV.out KE).mono ?_;rintro e w6 ⟨rfl,ff⟩;obtain⟨p,hp⟩ : ∃ p,p=plc A t:=⟨_,rfl⟩
       obtain⟨q,hq⟩ : ∃ q,q=q34 A t:=⟨_,rfl⟩
       rw[<-hp,<-hq];have cm:p<=A.length:=by rw[hp];exact q8u A t
       have dc:BwQ wm w6:=(btr ar ff);have OW:=lhd (Ek.out.q8 ff);have Um:=lhd (OV.out.q8 ff);have KF:=lhd (aiq hp hq);clear hp hq ff;cases q with
       | true =>
        have cP:q24 A t=A:=by unfold q24;rw[<-KF.out.2];rfl
        have DN:=lhd cP;clear cP;go_wp2;go_roundw
        case measure=>simp[vI];omega
        case rel=>exact⟨b+1,qh (by omega),by omega,(show Hid _ from by rw[D2.out,DN.out];exact OW.out),(btr aw dc)⟩
       | false =>
        have cP:q24 A t=A.take p++t :: A.drop p:=by unfold q24;rw[<-KF.out.2,<-KF.out.1];rfl
        have DN:=lhd cP;clear cP;obtain⟨ws,El,xV,CE⟩:=OW.out;have fL:=SlI.qq2 xV CE;obtain⟨oa,on,oc,ng,g1,g2,g3,g4,g5⟩:=El;subst ng;have uB:on=A.length:=by omega
        have Em:Sl w6 1 (.slice oa on oc) ws:=⟨oa,on,oc,rfl,g1,g2,g3,g4,g5⟩
        have og:=lhd (aiq Em (aiq xV (aiq CE fL)));have CF:=lhd uB;have iw:p<=on:=by omega
        have oD:p<=oc:=by omega
        have Un:on<=1099511627776:=by omega
        unfold maxLen at g2;have G4:=lhd g4;have mC:wm.heap.size<=w6.heap.size:=dc.size;have fin:∀ (u:Value) (w':World),w'.ownsRow w6.heap.size 22 1 u (p+(1+(on - p))) (ws.take p++([Value.slice ta t.length tc]++ws.drop p))->BwQ w6 w'->SlI w' u (kt s A0 (b+1))/\BwQ w1 w':=fun u w' h1 h2=>by refine⟨?_,aw.trans ((dc.trans (h2.mono mC)).mono aw.size)⟩;rw[D2.out,DN.out];exact SlI.ins (Sl.qc h1) og.out.2.1 (by omega) (fun i u l hu hl=>(og.out.2.2.1 i u l hu hl).q8 h2) (Um.out.q8 h2)
        have bM:=lhd fin;have s8:(ws.drop p).length=(on - p)*1:=by rw[gv];omega
        have mO:(ws.take p).length=p*1:=by rw[gd];omega
        have uC:=lhd (aiq s8 mO);clear Em xV CE fL g3 g4 g5 fin s8 mO uB;cases oa with
        | none =>
         have Uo:oc=0:=G4.out rfl;subst Uo;obtain rfl:p=0:=by omega
         obtain rfl:on=0:=by omega
         have xW:Sl (w6.alloc (.cells #[.slice ta t.length tc] 22)) 1 (.slice none 0 0) (ws.drop 0):=(og.out.1).alloc _;go_wp2_with (at_builtin;refine qm (W:=w6) rfl _ _ 95 rfl w6.heap.size 22 Tryz.q06 Tryz.underlying95 rfl (by decide) (by decide) _ _ _ rfl (vq w6 22 1 1 [.slice ta t.length tc] rfl (by unfold maxLen;omega)) _ (0 - 0) (ws.drop 0) rfl xW uC.out.1 (fun u hu=>og.out.2.2.2 u (bo hu)) ?ran (bal w6 _) ?rbn ?_)
         case ran=>omega
         case rbn=>simp
         intro v7 w7 iC _ fb;have qS:w6.heap.size<=w7.heap.size:=fb.size;have R7:=lhd iC;have xX:Sl (w7.alloc (.cells #[] 22)) 1 (.slice none 0 0) (ws.take 0):=by have:=((og.out.1.q8 fb).alloc (.cells #[] 22)).take (k:=0) iw;simpa using this
         have En:=lhd fb;clear iC fb;go_wp2_with (at_builtin;refine qm (W:=w7) rfl _ _ 95 rfl w7.heap.size 22 Tryz.q06 Tryz.underlying95 rfl (by decide) (by decide) _ _ _ rfl (zj w7 22 1) _ 0 (ws.take 0) rfl xX uC.out.2 (fun u hu=>og.out.2.2.2 u (gI hu)) ?rcn (bal w7 _) ?rdn ?_)
         case rcn=>omega
         case rdn=>simp
         intro v8 w8 mD _ pM;have xY:Sl w8 1 v7 ([Value.slice ta t.length tc]++ws.drop 0):=Sl.qc (qa R7.out pM);go_wp2_with (at_builtin;refine qm (W:=w7) rfl _ _ 95 rfl w7.heap.size 22 Tryz.q06 Tryz.underlying95 rfl (by decide) (by decide) _ _ _ rfl mD _ (1+(0 - 0)) ([Value.slice ta t.length tc]++ws.drop 0) rfl xY ?ren ?rfn ?rgn pM ?rhn ?_)
         case ren=>rw[gc,uC.out.1];show 1+_=_;omega
         case rfn=>exact fun u hu=>(gF.1 hu).elim (fun h=>by simp at h;subst h;rfl) (fun h=>og.out.2.2.2 u (bo h))
         case rgn=>omega
         case rhn=>exact pM.size
         intro v9 w9 sT _ oG;have F9:=lhd (bM.out v9 w9 (qf (zm sT (by omega)) qS) (En.out.trans (oG.mono qS)));clear mD pM sT oG xW xX xY;go_wp2;go_roundw
         case measure=>simp[vI];omega
         case rel=>exact⟨b+1,qh (by omega),by omega,(show Hid _ from F9.out.1),F9.out.2⟩
        | some od =>
         have YA:(p:Int)<=oc:=by omega
         have YB:(p:Int)<=on:=by omega
         by_cases Eo:oc=p
         ·subst Eo;have xW:Sl (w6.alloc (.cells #[.slice ta t.length tc] 22)) 1 (.slice (some od) 0 0) (ws.drop oc):=by have hd:ws.drop oc=[]:=gz (by rw[uC.out.1];omega);rw[hd];exact Sl.empty _ _ _ _ (by unfold maxLen;omega)
          go_wp2_with (at_builtin;refine qm (W:=w6) rfl _ _ 95 rfl w6.heap.size 22 Tryz.q06 Tryz.underlying95 rfl (by decide) (by decide) _ _ _ rfl (vq w6 22 1 1 [.slice ta t.length tc] rfl (by unfold maxLen;omega)) _ (on - oc) (ws.drop oc) rfl xW uC.out.1 (fun u hu=>og.out.2.2.2 u (bo hu)) ?raa (bal w6 _) ?rba ?_)
          case raa=>omega
          case rba=>simp
          intro v7 w7 iC _ fb;have qS:w6.heap.size<=w7.heap.size:=fb.size;have R7:=lhd iC;have xX:Sl (w7.alloc (.cells #[] 22)) 1 (.slice (some od) oc oc) (ws.take oc):=by have:=((og.out.1.q8 fb).alloc (.cells #[] 22)).take (k:=oc) iw;simpa using this
          have En:=lhd fb;clear iC fb;go_wp2_with (at_builtin;refine qm (W:=w7) rfl _ _ 95 rfl w7.heap.size 22 Tryz.q06 Tryz.underlying95 rfl (by decide) (by decide) _ _ _ rfl (zj w7 22 1) _ oc (ws.take oc) rfl xX uC.out.2 (fun u hu=>og.out.2.2.2 u (gI hu)) ?rca (bal w7 _) ?rda ?_)
          case rca=>omega
          case rda=>simp
          intro v8 w8 mD _ pM;have xY:Sl w8 1 v7 ([Value.slice ta t.length tc]++ws.drop oc):=Sl.qc (qa R7.out pM);go_wp2_with (at_builtin;refine qm (W:=w7) rfl _ _ 95 rfl w7.heap.size 22 Tryz.q06 Tryz.underlying95 rfl (by decide) (by decide) _ _ _ rfl mD _ (1+(on - oc)) ([Value.slice ta t.length tc]++ws.drop oc) rfl xY ?rea ?rfa ?rga pM ?rha ?_)
          case rea=>rw[gc,uC.out.1];show 1+_=_;omega
          case rfa=>exact fun u hu=>(gF.1 hu).elim (fun h=>by simp at h;subst h;rfl) (fun h=>og.out.2.2.2 u (bo h))
          case rga=>omega
          case rha=>exact pM.size
          intro v9 w9 sT _ oG;have F9:=lhd (bM.out v9 w9 (qf (zm sT (by omega)) qS) (En.out.trans (oG.mono qS)));clear mD pM sT oG xW xX xY;go_wp2;go_roundw
          case measure=>simp[vI];omega
          case rel=>exact⟨b+1,qh (by omega),by omega,(show Hid _ from F9.out.1),F9.out.2⟩
         ·have xW:Sl (w6.alloc (.cells #[.slice ta t.length tc] 22)) 1 (.slice (some (od.add p)) (on - p) (oc - p)) (ws.drop p):=by have:=(og.out.1.alloc (.cells #[.slice ta t.length tc] 22)).drop iw;simpa using this
          go_wp2_with (at_builtin;refine qm (W:=w6) rfl _ _ 95 rfl w6.heap.size 22 Tryz.q06 Tryz.underlying95 rfl (by decide) (by decide) _ _ _ rfl (vq w6 22 1 1 [.slice ta t.length tc] rfl (by unfold maxLen;omega)) _ (on - p) (ws.drop p) rfl xW uC.out.1 (fun u hu=>og.out.2.2.2 u (bo hu)) ?rab (bal w6 _) ?rbb ?_)
          case rab=>omega
          case rbb=>simp
          intro v7 w7 iC _ fb;have qS:w6.heap.size<=w7.heap.size:=fb.size;have R7:=lhd iC;have xX:Sl (w7.alloc (.cells #[] 22)) 1 (.slice (some od) p oc) (ws.take p):=by have:=((og.out.1.q8 fb).alloc (.cells #[] 22)).take (k:=p) iw;simpa using this
          have En:=lhd fb;clear iC fb;go_wp2_with (at_builtin;refine qm (W:=w7) rfl _ _ 95 rfl w7.heap.size 22 Tryz.q06 Tryz.underlying95 rfl (by decide) (by decide) _ _ _ rfl (zj w7 22 1) _ p (ws.take p) rfl xX uC.out.2 (fun u hu=>og.out.2.2.2 u (gI hu)) ?rcb (bal w7 _) ?rdb ?_)
          case rcb=>omega
          case rdb=>simp
          intro v8 w8 mD _ pM;have xY:Sl w8 1 v7 ([Value.slice ta t.length tc]++ws.drop p):=Sl.qc (qa R7.out pM);go_wp2_with (at_builtin;refine qm (W:=w7) rfl _ _ 95 rfl w7.heap.size 22 Tryz.q06 Tryz.underlying95 rfl (by decide) (by decide) _ _ _ rfl mD _ (1+(on - p)) ([Value.slice ta t.length tc]++ws.drop p) rfl xY ?reb ?rfb ?rgb pM ?rhb ?_)
          case reb=>rw[gc,uC.out.1];show 1+_=_;omega
          case rfb=>exact fun u hu=>(gF.1 hu).elim (fun h=>by simp at h;subst h;rfl) (fun h=>og.out.2.2.2 u (bo h))
          case rgb=>omega
          case rhb=>exact pM.size
          intro v9 w9 sT _ oG;have F9:=lhd (bM.out v9 w9 (qf (zm sT (by omega)) qS) (En.out.trans (oG.mono qS)));clear mD pM sT oG xW xX xY;go_wp2;go_roundw
          case measure=>simp[vI];omega
          case rel=>exact⟨b+1,qh (by omega),by omega,(show Hid _ from F9.out.1),F9.out.2⟩
    ·have KD:b=N - 1:=by omega
     have dK:SlI wr u3 (kg (ls.take (k+1))):=by rw[cr.out,<-KD];exact K9.out
     have Ay:=q67 s A0 b;obtain⟨ws,El,xV,_⟩:=K9.out;obtain⟨oa,on,oc,ng,_,_,g3,_,_⟩:=El;subst ng;have uB:on<=4000:=by omega
     have Up:(on:Int)<=4000:=by omega
     have KG:=lhd dK;have KA:BwQ W wr:=hB.trans (((btr ak aw)).mono hB.size);clear dK g3 xV Ay KD uB;go_wp2;go_roundw
     case measure=>simp[vI];omega
     case rel=>exact⟨k+1,qh (by omega),by omega,KG,KA⟩
  ·have bF:k=len:=by omega
   have cO:ls.take k=ls:=gm (by rw[HL.out];omega);rw[cO] at HA;have Az:=q3v ls (fun s hs=>(HS.out s hs).1);have A3:=q8x ls (fun s hs=>(HS.out s hs).1);rw[HL.out] at Az;obtain⟨A,hA⟩ : ∃ A,A=kg ls:=⟨_,rfl⟩
   have OX:=lhd (show q0m ls=xf A A.length by unfold q0m;rw[hA]);rw[<-hA] at HA Az A3;have Kz:A.length<=180:=by omega
   obtain⟨ws,El,xV,CE⟩:=HA.out;obtain⟨oa,on,oc,ng,g1,g2,g3,g4,g5⟩:=El;subst ng;unfold maxLen at g2;have uB:on=A.length:=by omega
   have CF:=lhd uB;have kU:=lhd A3;have Ig:=lhd (aiq xV CE);have G4:=lhd g4;have G5:=lhd g5;have KH:on<=180:=by omega
   rw[<-CF.out] at OX;have cW:=(lD.out.below hB (by have:=HZ.out;omega))
   have KI:=lhd cW;clear bF cO Az A3 hA Kz xV CE g3 g4 g5 cW uB;obtain⟨wq,Uq⟩ : ∃ wq:World,wq=wr:=⟨_,rfl⟩
   subst Uq;go_wp2;obtain⟨V2,Ep⟩ : ∃ V:World,V=wq.alloc (.cells #[.slice none 0 0] 26):=⟨_,rfl⟩
   rw[<-Ep];have KJ:Bv V2 wq.heap.size (.slice none 0 0):=by rw[Ep];exact Bv.new _ _ _
   have aN:BwQ wq V2:=by rw[Ep];exact bal _ _
   have Er:V2.heap.size=wq.heap.size+1:=by rw[Ep];simp
   have OY:=lhd Er;clear Ep Er;go_loopw [14] (fun i wr=>∃ (i0:Nat) (m:List Ce) (u:Value),i = .int .i64 i0/\i0<=on/\m.length=i0/\Hid (wr.ownsRow V2.heap.size 75 3 u i0 (cat Ce.enc m))/\Hid (∀ x∈m,wr.ownsRow V2.heap.size 108 2 x.sl x.s.length (cat Sd.enc x.s))/\Hid (m.map Ce.cl=xf A i0)/\Hid (Bv wr wq.heap.size u)/\BwQ wq wr/\V2.heap.size<=wr.heap.size) (fun i _=>on - (vI i).toNat)
   case atStart=>exact⟨0,[],_,rfl,go _,rfl,(show Hid _ from World.ownsRow_nil _ _ _ _),(show Hid _ from fun x hx=>by simp at hx),(show Hid _ from rfl),(show Hid _ from KJ),aN,nlr _⟩
   case round =>
    obtain⟨i0,m,u,rfl,hi,dx,HR,HF,CG,Ih,aD,qJ⟩:=hrel;have sU:BwQ w wr:=(btr aP aD);by_cases ij:i0 < on
    ·obtain⟨od,A4⟩:=sadq G4.out (by omega)
     subst A4;obtain⟨tv,KL⟩ : ∃ tv,ws[i0]? = some tv:=⟨_,g8 (by rw[Ig.out.1,<-CF.out];exact ij)⟩
     obtain⟨x,hx⟩ : ∃ x,A[i0]? = some x:=⟨_,g8 (by rw[<-CF.out];exact ij)⟩
     have qT:=Ig.out.2 i0 tv x KL hx;obtain⟨xa,xn,xc,nh⟩:=qg qT;subst nh;have DR:=kU.out x (gh hx);obtain⟨q1,q2,q3,q4,q5⟩:=qT.open;rw[xl,gL] at q3;unfold maxLen at q2;rw[q3] at DR;have Es:xf A (i0+1)=xf A i0++[xy A i0 x]:=by rw[q4o,gO,hx];rfl
     have Ur:=lhd Es;have KM:=lhd q3;have Us:=lhd q4;have YC:=lhd q5;have KN:=lhd qT;have OZ:=lhd (G5.out od rfl i0 _ KL);have c0:wr.cell? (od.add i0)=some (.slice xa xn xc):=Cx.q8 aD OZ.out;obtain⟨wo,de⟩ : ∃ wo:World,wo=wr:=⟨_,rfl⟩
     subst de;clear KL hx qT q3 q4 q5 Es;go_wp2;obtain⟨V3,xZ⟩ : ∃ V:World,V=wo.alloc (.cells #[.int .i64 ((i0:Int)+1),.int .i64 ((xn:Int) - 1),.slice none 0 0] 75):=⟨_,rfl⟩
     rw[<-xZ];have v0:V3.cell? ⟨wo.heap.size,0,none⟩=some (.int .i64 ((i0:Int)+1)):=by rw[xZ];exact qd wo #[.int .i64 ((i0:Int)+1),.int .i64 ((xn:Int) - 1),.slice none 0 0] 75 (0,0) 0
     have v1:V3.cell? ⟨wo.heap.size,1,none⟩=some (.int .i64 ((xn:Int) - 1)):=by rw[xZ];exact qd wo #[.int .i64 ((i0:Int)+1),.int .i64 ((xn:Int) - 1),.slice none 0 0] 75 (0,0) 1
     have v2:V3.cell? ⟨wo.heap.size,2,none⟩=some (.slice none 0 0):=by rw[xZ];exact qd wo #[.int .i64 ((i0:Int)+1),.int .i64 ((xn:Int) - 1),.slice none 0 0] 75 (0,0) 2
     have vf:V3.frozen? ⟨wo.heap.size,2,none⟩=false:=by rw[xZ];exact jz (heap_alloc_new wo _) 2
     have KQ:BwQ wo V3:=by rw[xZ];exact bal wo _
     have Ut:=lhd (show V3.heap.size=wo.heap.size+1 by rw[xZ];simp);clear xZ;go_loopw [16] (fun i wr=>∃ (k:Nat) (sv:Value),i = .int .i64 k/\k<=xn/\(0 < k->1 < xn)/\Hid (wr.ownsRow (wo.heap.size+1) 108 2 sv k (cat Sd.enc (z7 A x k))) ∧
      wr.cell? ⟨wo.heap.size,0,none⟩=some (.int .i64 ((i0:Int)+1))/\wr.cell? ⟨wo.heap.size,1,none⟩=some (.int .i64 ((xn:Int) - 1))/\wr.cell? ⟨wo.heap.size,2,none⟩=some sv/\wr.frozen? ⟨wo.heap.size,2,none⟩=false/\BwQ wo wr/\Hid (wo.heap.size+1<=wr.heap.size)) (fun i _=>xn - (vI i).toNat)
     case atStart=>exact⟨0,_,rfl,go _,by omega,(show Hid _ from World.ownsRow_nil _ _ _ _),v0,v1,v2,vf,KQ,(show Hid _ from by show wo.heap.size+1<=V3.heap.size;have:=Ut.out;omega)⟩
     case round =>
      clear v0 v1 v2 vf c0;obtain⟨kk,sv,rfl,px,ig,yA,c0,c1,c2,cf,dP,Pa⟩:=hrel;have oh:BwQ wq wr:=(btr aD dP);have d0:wr.cell? (od.add i0)=some (.slice xa xn xc):=Cx.q8 oh OZ.out;by_cases oH:kk < xn/\1 < xn
      ·obtain⟨uZ,eA⟩:=oH;have Uu:(0:Int) < (xn:Int) - 1:=by omega
       obtain⟨xd,CH⟩:=sadq Us.out (by omega)
       subst CH;have uo:(kk:Int)<=xc:=by omega
       have Uv:(kk:Int)+1<=xc:=by omega
       have qH:(kk:Int)+1<=xn:=by omega
       have dH:(0:Int)<=(kk:Int)+1:=by omega
       have Uw:IntKind.i64.wrap ((kk:Int)+1)=(kk:Int)+1:=IntWalk.i64_in _ (by omega);have Pb:Sl wr 1 (.slice (some xd) xn xc) (ints x):=KN.out.q8 oh;have Pc:=lhd Pb;have mx:(ints x).length=xn:=by rw[xl];exact KM.out
       have bZ:((ints x).take kk).length=kk*1:=by rw[gd,mx];omega
       have Et:((ints x).drop (kk+1)).length=(xn - (kk+1))*1:=by rw[gv,mx];omega
       have A5:=lhd (aiq bZ Et);have fL:∀ u∈ints x,u.oneCell'=true:=q65 x;have Eu:=lhd fL;have uP:∀ (w':World),BwQ wr w'->Sl w' 1 (.slice (some xd) kk xc) ((ints x).take kk):=fun w' hb=>by have:=(Pc.out.q8 hb).take (k:=kk) (by omega);simpa using this
       have wW:∀ (w':World) (p:Prop) [Decidable p],(p↔xc=kk+1)->BwQ wr w'->Sl w' 1 (.slice (if p then some xd else some (xd.add (kk+1))) (xn - (kk+1)) (xc - (kk+1))) ((ints x).drop (kk+1)):=fun w' p _ hp hb=>by
        split
        ·rename_i lG;have:=hp.1 lG;have hd:(ints x).drop (kk+1)=[]:=gz (by rw[A5.out.2];omega);rw[hd,show xn - (kk+1)=0 by omega];exact Sl.empty _ _ _ _ (by unfold maxLen;omega)
        ·have:=(Pc.out.q8 hb).drop (k:=kk+1) (by omega);simpa using this
       have KR:=lhd uP;have qR:=lhd wW;clear Pb mx bZ Et fL uP wW;have Pd:BwQ wr ((wr.alloc (.cells #[] 3)).drew):=qb (bal wr _) 1;have Pe:=lhd Pd;clear Pd;go_wp2_with fail
       go_region_held3 (fun w'=>w'.cell? (od.add i0)=some (.slice (some xd) xn xc))
        (first | assumption | exact qk (by assumption) _ | fail)
        (first
         |(refine ju ((wr.alloc (.cells #[] 3)).drew) rfl _ _ 22 rfl wr.heap.size 3 Tryz.xg Tryz.underlying22 rfl (by decide) (by decide) _ 0 [] rfl (vq wr.drew 3 1 0 [] rfl (by unfold maxLen;omega)) _ kk ((ints x).take kk) rfl (by simp[Act.eval];exact KR.out _ Pe.out) A5.out.1 (fun u hu=>Eu.out u (gI hu)) (by omega) (by show wr.heap.size<=(wr.alloc (.cells #[] 3)).heap.size;simp) ?_;intro r1 w2 cQ Ev;have aR:BwQ wr w2:=Pe.out.trans Ev;have y0:=Cx.q8 aR d0;have R1:=lhd (aiq cQ aR);clear cQ Ev aR)
         |(go_must (refine ju w2 rfl _ _ 22 rfl wr.heap.size 3 Tryz.xg Tryz.underlying22 rfl (by decide) (by decide) r1 (0+kk) ([]++(ints x).take kk) rfl R1.out.1 _ (xn - (kk+1)) ((ints x).drop (kk+1)) rfl (by simp[Act.eval];exact qR.out _ _ Iff.rfl R1.out.2) A5.out.2 (fun u hu=>Eu.out u (bo hu)) (by omega) R1.out.2.size ?_;intro r2 w3 cC Ew;have A6:BwQ wr w3:=R1.out.2.trans Ew;have y1:=Cx.q8 A6 d0;have R2:=lhd (aiq cC A6);clear cC Ew A6)))
       all_goals
        generalize (if xc=kk+1 then some xd else some (⟨xd.block,xd.off+(kk+1),none⟩ : Addr))=s130;have vD:BwQ wo w3:=(btr dP R2.out.2);have Pf:SlI w3 (.slice (some od) on oc) A:=HA.out.q8 ((btr aD vD));have Ek:=lhd Pf;have Pg:Sl w3 1 r2 (ints (x.take kk++x.drop (kk+1))):=by have:=Sl.qc R2.out.1;rw[j3,show ints (x.take kk)=(ints x).take kk from q49 _ _,show ints (x.drop (kk+1))=(ints x).drop (kk+1) by simp[ints,List.map_drop]];exact this
        have Ux:=lhd Pg;have KE:A.length<=1099511627776:=by rw[<-CF.out];omega
        have s0:=Cx.q8 R2.out.2 c0;have s1:=Cx.q8 R2.out.2 c1;have s2:=Cx.q8 R2.out.2 c2;have sf:w3.frozen? ⟨wo.heap.size,2,none⟩=false:=qv R2.out.2 (World.block_lt_of_cell? wr _ c2) cf;have KS:=lhd (qa yA.out R2.out.2);have kK:wo.heap.size+1<=w3.heap.size:=gl Pa.out R2.out.2.size;clear Pf Pg c0 c1 c2 cf y0 y1 d0;go_wp2_with fail;refine(qdx _ _ A (x.take kk++x.drop (kk+1)) _ Ek.out Ux.out KE).mono ?_;rintro e w4 ⟨rfl,aM⟩;obtain⟨pp,lG⟩ : ∃ p,p=plc A (x.take kk++x.drop (kk+1)):=⟨_,rfl⟩
        obtain⟨qq,uD⟩ : ∃ q,q=q34 A (x.take kk++x.drop (kk+1)):=⟨_,rfl⟩
        rw[<-lG,<-uD];have cm:pp<=180:=by have:=q8u A (x.take kk++x.drop (kk+1));rw[<-lG,<-CF.out] at this;omega
        obtain⟨rr,CI⟩ : ∃ r,r=kk % 2:=⟨_,rfl⟩
        have lE:rr<=1:=by omega
        have Uy:(kk:Int).tmod 2=(rr:Int):=by rw[Int.tmod_eq_emod_of_nonneg (by omega),CI];omega
        have Uz:IntKind.i64.wrap ((pp:Int)+1)=(pp:Int)+1:=IntWalk.i64_in _ (by omega);have U0:IntKind.i64.wrap (2*(rr:Int))=2*(rr:Int):=IntWalk.i64_in _ (by omega);have U3:IntKind.i64.wrap (1 - 2*(rr:Int))=1 - 2*(rr:Int):=IntWalk.i64_in _ (by omega);have kD:z7 A x (kk+1)=z7 A x kk++[⟨(pp:Int)+1,1 - 2*(rr:Int)⟩]:=by rw[qc3,lG,CI]
        have uq:=lhd kD;have t0:=Cx.q8 aM s0;have t1:=Cx.q8 aM s1;have t2:=Cx.q8 aM s2;have tf:w4.frozen? ⟨wo.heap.size,2,none⟩=false:=qv aM (World.block_lt_of_cell? w3 _ s2) sf;have A7:=lhd (qa KS.out aM);have KT:wo.heap.size+1<=w4.heap.size:=gl kK aM.size;have pN:=lhd ((btr vD aM));clear lG uD CI kD s0 s1 s2 sf aM vD;go_wp2_with (at_builtin;go_loud (refine qo (W:=w4) rfl _ _ 73 rfl (wo.heap.size+1) 108 Tryz.q05 Tryz.underlying73 rfl (by decide) (by decide) _ _ _ rfl A7.out [.int .i64 ((pp:Int)+1),.int .i64 (1 - 2*(rr:Int))] rfl rfl (fun u hu=>by simp at hu;rcases hu with rfl | rfl <;> rfl) (by omega) (Below.refl _ _) KT ?_));intro v5 w5 aZ e6 _;have al:∀ b,sv.ownBlock=some b->wo.heap.size≠b:=fun b e=>by have:=(A7.out.lt b e).1;omega
        have z0:=ql e6 t0 al;have z1:=ql e6 t1 al;have z2:=ql e6 t2 al;have zf:w5.frozen? ⟨wo.heap.size,2,none⟩=false:=(e6.frozen_far ⟨wo.heap.size,2,none⟩ (World.block_lt_of_cell? w4 _ t2) (fun e=>al _ e.symm rfl)).trans tf;have aB:BwQ wo w5:=pN.out.grown e6 (by omega) (fun b e=>by have:=(A7.out.lt b e).1;omega);have Cz:=e6.size;obtain⟨f4,f5,oE⟩:=qj aZ;subst oE;have F5:=lhd (aiq aZ (aiq aB (aiq z0 (aiq z1 Cz))));clear aZ e6 aB z0 z1 Cz t0 t1 t2 tf al;go_wp2;go_roundw
        case measure=>simp[vI];omega
        case rel =>obtain⟨aZ,aB,z0,z1,Cz⟩:=F5.out;refine⟨kk+1,_,qh (by omega),by omega,fun _=>eA,(show Hid _ from ?_),q3d z0 (by simp),q3d z1 (by simp),World.cell?_setCell_same' _ _ _ (by rw[z2];rfl),by simpa [World.frozen?_setCell] using zf,aB.setCell (nlr _) _,(show Hid _ from by show _<=_;simp[World.setCell];omega)⟩;rw[uq.out,x9,q1c];exact ownsRow_setCell_below aZ (by show wo.heap.size < _;omega) _
      ·have kD:z7 A x kk=z7 A x (if 1 < x.length then x.length else 0):=by
        congr 1
        rw[KM.out];by_cases h1:1 < xn
        ·rw[if_pos h1];omega
        ·rw[if_neg h1];omega
       have jH:(z7 A x kk).length=kk:=by simp[z7]
       have aK:(z7 A x kk).length<=1099511627776:=by rw[jH];omega
       have pK:=lhd (Sl.qc yA.out);have uZ:kk < xn->¬ ((0:Int) < (xn:Int) - 1):=fun _=>by omega
       have U4:wo.heap.size<=wr.heap.size:=dP.size;have fin:∀ (r:Value) (w6:World),w6.ownsRow wr.heap.size 108 2 r kk (cat Sd.enc (zx (z7 A x kk)))->BwQ wr w6 →
         w6.cell? ⟨wo.heap.size,0,none⟩=some (.int .i64 ((i0:Int)+1))/\w6.cell? ⟨wo.heap.size,1,none⟩=some (.int .i64 ((xn:Int) - 1))/\w6.cell? ⟨wo.heap.size,2,none⟩=some sv/\w6.frozen? ⟨wo.heap.size,2,none⟩=false ∧
         w6.cell? ⟨wq.heap.size,0,none⟩=some u/\w6.frozen? ⟨wq.heap.size,0,none⟩=false ∧
         ((w6.setCell ⟨wo.heap.size,2,none⟩ r).ownsRow V2.heap.size 75 3 u i0 (cat Ce.enc m)/\V2.heap.size<=w6.heap.size ∧
          ∀ (v8:Value) (w8:World),w8.ownsRow V2.heap.size 75 3 v8 (i0+1) (cat Ce.enc m++[.int .i64 ((i0:Int)+1),.int .i64 ((xn:Int) - 1),r])->(w6.setCell ⟨wo.heap.size,2,none⟩ r).grownBy w8 u.ownBlock →
           w8.cell? ⟨wq.heap.size,0,none⟩=some u/\w8.frozen? ⟨wq.heap.size,0,none⟩=false/\∃ m':List Ce,m'.length=i0+1/\Hid ((w8.setCell ⟨wq.heap.size,0,none⟩ v8).ownsRow V2.heap.size 75 3 v8 (i0+1) (cat Ce.enc m')) ∧
            Hid (∀ y∈m',(w8.setCell ⟨wq.heap.size,0,none⟩ v8).ownsRow V2.heap.size 108 2 y.sl y.s.length (cat Sd.enc y.s))/\Hid (m'.map Ce.cl=xf A (i0+1))/\Hid (Bv (w8.setCell ⟨wq.heap.size,0,none⟩ v8) wq.heap.size v8)/\BwQ wq (w8.setCell ⟨wq.heap.size,0,none⟩ v8)/\V2.heap.size<=(w8.setCell ⟨wq.heap.size,0,none⟩ v8).heap.size):=fun r w6 dh ff=>by
        have YD:wq.heap.size < V2.heap.size:=by have:=OY.out;omega
        have dc:BwQ wo w6:=dP.trans (ff.mono U4);obtain⟨n0,n1⟩:=Ih.out.q8 dc;have Ii:∀ b,u.ownBlock=some b->V2.heap.size<=b/\b < wo.heap.size:=fun b e=>HR.out.lt b e
        have U5:=qa HR.out dc;have Ex:(w6.setCell ⟨wo.heap.size,2,none⟩ r).ownsRow V2.heap.size 75 3 u i0 (cat Ce.enc m):=q10 U5 (fun b e=>by have:=Ii b e;show b≠wo.heap.size;omega) _;have YE:=dc.size;have e2:=Cx.q8 ff c2;refine⟨Cx.q8 ff c0,Cx.q8 ff c1,e2,qv ff (World.block_lt_of_cell? wr _ c2) cf,n0,n1,Ex,by omega,fun v8 w8 h1 h2=>?_⟩;have p0:w8.cell? ⟨wq.heap.size,0,none⟩=some u:=ql h2 (q3d n0 (by intro e;injection e with e _;omega)) (fun b e=>by have:=Ii b e;show wq.heap.size≠b;omega);have A8:(w6.setCell ⟨wo.heap.size,2,none⟩ r).heap.size=w6.heap.size:=by simp[World.setCell]
        have p1:w8.frozen? ⟨wq.heap.size,0,none⟩=false:=(h2.frozen_far ⟨wq.heap.size,0,none⟩ (by rw[A8];show wq.heap.size < _;omega) (fun e=>by have h9:V2.heap.size<=wq.heap.size:=(Ii _ e.symm).1;omega)).trans (by simpa [World.frozen?_setCell] using n1);have U6:=h2.size;rw[A8] at U6;obtain⟨ra,rc,iX⟩:=qj dh;have iC:(w6.setCell ⟨wo.heap.size,2,none⟩ r).ownsRow V2.heap.size 108 2 r kk (cat Sd.enc (zx (z7 A x kk))):=q10 (qf dh (by omega)) (fun b e=>by have:=(dh.lt b e).1;have:=Pa.out;show b≠wo.heap.size;omega) _;have mD:=iC.kept h2 (q1d iC Ex (by decide));have KU:(zx (z7 A x kk)).length=kk:=by rw[q23,jH]
        refine⟨p0,p1,m++[⟨(i0:Int)+1,(xn:Int) - 1,ra,kk,rc,zx (z7 A x kk)⟩],by simp[dx],?_,?_,?_,(show Hid _ from Bv.put ⟨p0,p1⟩ _),?_,by simp[World.setCell];omega⟩
        ·show World.ownsRow _ _ _ _ _ _ _;have:=q10 (a:=⟨wq.heap.size,0,none⟩) h1 (fun b e=>by have:=(h1.lt b e).1;show b≠wq.heap.size;omega) v8;rw[x9,q1c];rw[iX] at this;exact this
        ·show ∀ y∈_,_;intro y hy;rcases gF.1 hy with hy | hy
         ·have g1:=HF.out y hy;have g2:=q10 (a:=⟨wo.heap.size,2,none⟩) (qa g1 dc) (fun b e=>by have:=(g1.lt b e).2;show b≠wo.heap.size;omega) r;have g3:=g2.kept h2 (q1d g2 Ex (by decide));exact q10 g3 (fun b e=>by have:=(g1.lt b e).1;show b≠wq.heap.size;omega) _
         ·simp only [List.mem_singleton] at hy;subst hy;have g3:=q10 (a:=⟨wq.heap.size,0,none⟩) mD (fun b e=>by have:=(dh.lt b e).1;show b≠wq.heap.size;omega) v8;show World.ownsRow _ _ _ _ (.slice ra kk rc) (zx (z7 A x kk)).length _;rw[KU];rw[iX] at g3;exact g3
        ·show _=_;rw[br,CG.out,Ur.out]
         congr 1
         show [(⟨(i0:Int)+1,(xn:Int) - 1,zx (z7 A x kk)⟩ : Cl)]=[xy A i0 x]
         unfold xy;rw[kD,KM.out]
        ·have mE:BwQ wq (w6.setCell ⟨wo.heap.size,2,none⟩ r):=((btr aD dc)).setCell (show wq.heap.size<=wo.heap.size from aD.size) _;exact(mE.grown h2 (by rw[A8];omega) (fun b e=>by have:=Ii b e;omega)).setCell (nlr _) _
       have bM:=lhd fin;clear fin kD;by_cases vE:kk < xn
       ·have Ey:=uZ vE;go_wp2_with fail;refine(q8w _ (z7 A x kk) _ pK.out aK).mono ?_;rintro e w6 ⟨r,rfl,dh,ff⟩;obtain⟨A9,AA,AB⟩:=qj dh;subst AB;rw[jH] at dh ⊢;obtain⟨t0,t1,t2,tf,tb,U7,fin⟩:=bM.out _ w6 dh ff;have aO:=lhd fin;have Ij:=lhd (show (w6.setCell ⟨wo.heap.size,2,none⟩ (.slice A9 kk AA)).heap.size=w6.heap.size by simp[World.setCell]);have sV:=lhd (fin.1);have qS:V2.heap.size<=w6.heap.size:=fin.2.1;clear dh ff fin;go_wp2_with (at_builtin;go_loud (refine qo (W:=w6.setCell ⟨wo.heap.size,2,none⟩ (.slice A9 kk AA)) rfl _ _ 24 rfl V2.heap.size 75 Tryz.ke Tryz.underlying24 rfl (by decide) (by decide) _ _ _ rfl sV.out [.int .i64 ((i0:Int)+1),.int .i64 ((xn:Int) - 1),.slice A9 kk AA] (by rw[Ij.out];rfl) rfl (fun u hu=>by simp at hu;rcases hu with rfl | rfl | rfl <;> rfl) (by omega) (Below.refl _ _) (by simp[World.setCell];exact qS) ?_));intro v8 w8 mD Ez _;obtain⟨y0,y1,m',fW,lI,KW,KX,KY,KZ,yB⟩:=aO.out.2.2 v8 w8 mD Ez;obtain⟨f4,f5,oE⟩:=qj mD;subst oE;clear mD Ez;go_wp2;go_roundw
        case measure=>simp[vI];omega
        case rel=>exact⟨i0+1,m',_,qh (by omega),by omega,fW,lI,KW,KX,KY,KZ,yB⟩
       ·have U8:¬ ((kk:Int) < xn):=by omega
        go_wp2_with fail;refine(q8w _ (z7 A x kk) _ pK.out aK).mono ?_;rintro e w6 ⟨r,rfl,dh,ff⟩;obtain⟨A9,AA,AB⟩:=qj dh;subst AB;rw[jH] at dh ⊢;obtain⟨t0,t1,t2,tf,tb,U7,fin⟩:=bM.out _ w6 dh ff;have aO:=lhd fin;have Ij:=lhd (show (w6.setCell ⟨wo.heap.size,2,none⟩ (.slice A9 kk AA)).heap.size=w6.heap.size by simp[World.setCell]);have sV:=lhd (fin.1);have qS:V2.heap.size<=w6.heap.size:=fin.2.1;clear dh ff fin;go_wp2_with (at_builtin;go_loud (refine qo (W:=w6.setCell ⟨wo.heap.size,2,none⟩ (.slice A9 kk AA)) rfl _ _ 24 rfl V2.heap.size 75 Tryz.ke Tryz.underlying24 rfl (by decide) (by decide) _ _ _ rfl sV.out [.int .i64 ((i0:Int)+1),.int .i64 ((xn:Int) - 1),.slice A9 kk AA] (by rw[Ij.out];rfl) rfl (fun u hu=>by simp at hu;rcases hu with rfl | rfl | rfl <;> rfl) (by omega) (Below.refl _ _) (by simp[World.setCell];exact qS) ?_));intro v8 w8 mD Ez _;obtain⟨y0,y1,m',fW,lI,KW,KX,KY,KZ,yB⟩:=aO.out.2.2 v8 w8 mD Ez;obtain⟨f4,f5,oE⟩:=qj mD;subst oE;clear mD Ez;go_wp2;go_roundw
        case measure=>simp[vI];omega
        case rel=>exact⟨i0+1,m',_,qh (by omega),by omega,fW,lI,KW,KX,KY,KZ,yB⟩
    ·have hie:i0=on:=by omega
     obtain⟨a2,dN,AD⟩:=qj HR.out;subst AD;obtain⟨r0,r1⟩:=KI.out.q8 aD;obtain⟨p0,p1⟩:=Ih.out;have U9:w.heap.size < V2.heap.size:=by have:=OY.out;have:=aP.size;omega
     have fin:m.map Ce.cl=q0m ls/\q1p (wr.setCell ⟨w.heap.size,0,none⟩ (.slice a2 i0 dN)) w.heap.size (.slice a2 i0 dN) m/\BwQ w (wr.setCell ⟨w.heap.size,0,none⟩ (.slice a2 i0 dN)):=by refine⟨by rw[CG.out,OX.out,hie],q1p.mono (q1p.set (a:=⟨w.heap.size,0,none⟩) (base:=V2.heap.size) ⟨zm HR.out dx.symm,HF.out⟩ U9 _) (by omega),sU.setCell (nlr _) _⟩
     have bM:=lhd fin;clear fin hie;go_wp2_with fail;refine bodyPost_ret (v:=.agg #[.slice a2 i0 dN]) (by simp[results,Tryz.results74,go_sem,(Bv.put (w:=wr) (b:=w.heap.size) ⟨r0,r1⟩ (.slice a2 i0 dN)).1]) rfl ?_;exact⟨.slice a2 i0 dN,m,rfl,bM.out.1,bM.out.2.1,bM.out.2.2⟩
end Go.Proofs.YtlhicnfeajejhaaGreatDoor
