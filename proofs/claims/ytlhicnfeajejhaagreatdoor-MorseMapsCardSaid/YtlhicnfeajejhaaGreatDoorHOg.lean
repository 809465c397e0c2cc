/- Steps towards MorseMaps. Conditions: none. -/
import Derived.Test.YtlhicnfeajejhaaGreatDoorHOb
import Derived.Test.YtlhicnfeajejhaaGreatDoorHOf
set_option maxRecDepth 1000000
set_option maxHeartbeats 16000000
namespace Go.Proofs.YtlhicnfeajejhaaGreatDoor
open Go.RowKit Go.Cx
attribute [local go_sem ↓] Go.wp_at_zero Go.wp_at_succ
theorem q10 {w:World} {base st n:Nat} {e:TypeId} {v:Value} {xs:List Value} (h:w.ownsRow base e st v n xs) {a:Addr} (aq:∀ b,v.ownBlock=some b->b≠a.block) (u:Value):(w.setCell a u).ownsRow base e st v n xs:=by
 obtain⟨h1,h2⟩:=h;refine⟨h1,?_⟩;rcases h2 with h2 | ⟨g,cap,cur,rfl,hg,hh,r⟩
 ·exact Or.inl h2
 ·exact Or.inr ⟨g,cap,cur,rfl,hg,by rw[Below.heap_setCell _ _ _ _ (aq g rfl)];exact hh,r⟩
theorem q3d {w:World} {a p:Addr} {u x:Value} (h:w.cell? p=some x) (aq:p≠a):(w.setCell a u).cell? p=some x:=by
 rw[World.cell?_setCell_other _ _ _ _ (fun e=>aq e.symm)];exact h
theorem SlI.ins {w:World} {v tv:Value} {ws:List Value} {A:List (List Int)} {t:List Int} {p:Nat} (aC:Sl w 1 v (ws.take p++tv :: ws.drop p)) (hl:ws.length=A.length) (hp:p<=A.length)
  (he:∀ (i:Nat) (u:Value) (l:List Int),ws[i]? = some u->A[i]? = some l->Sl w 1 u (ints l)) (ht:Sl w 1 tv (ints t)):SlI w v (A.take p++t :: A.drop p):=by
 have h1:(ws.take p).length=p:=by rw[gd];omega
 have h2:(A.take p).length=p:=by rw[gd];omega
 refine⟨_,aC,by simp[hl],fun i u l hu hl=>?_⟩;rcases Nat.lt_trichotomy i p with h | h | h
 ·rw[bF (by omega),List.getElem?_take_of_lt h] at hu hl;exact he i u l hu hl
 ·subst h;rw[gW (by omega),h1,Nat.sub_self] at hu;rw[gW (by omega),h2,Nat.sub_self] at hl;simp at hu hl;subst hu hl;exact ht
 ·rw[gW (by omega),h1,show i - p=(i - p - 1)+1 by omega,List.getElem?_cons_succ,List.getElem?_drop,show p+(i - p - 1)=i - 1 by omega] at hu;rw[gW (by omega),h2,show i - p=(i - p - 1)+1 by omega,List.getElem?_cons_succ,List.getElem?_drop,show p+(i - p - 1)=i - 1 by omega] at hl;exact he _ u l hu hl
theorem SlI.qq2 {w:World} {ws:List Value} {A:List (List Int)} (hl:ws.length=A.length) (he:∀ (i:Nat) (u:Value) (l:List Int),ws[i]? = some u->A[i]? = some l->Sl w 1 u (ints l)):∀ u∈ws,u.oneCell'=true:=fun u hu=>by
 obtain⟨i,hi,e⟩:=List.mem_iff_getElem.1 hu;have hi2:i < A.length:=by omega
 have:=he i u _ (by rw[g8 hi,e]) (g8 hi2);obtain⟨_,_,_,rfl⟩:=qg this;rfl
theorem Tryz.q06:(Tryz.prog.info? 22).map (fun i=>(i.zero,i.size,i.bytes))=some (some (.slice none 0 0),1,24):=by kernel_rfl
theorem qag (n:Int):bits .and .i64 n 1=n % 2:=by
 have h1:(BitVec.ofInt 64 1).toNat=2 ^ 1 - 1:=by decide
 have key:(BitVec.ofInt 64 n &&& BitVec.ofInt 64 1).toNat=(n % ((2 ^ 64:Nat):Int)).toNat % 2 ^ 1:=by
  rw[BitVec.toNat_and,BitVec.toNat_ofInt,h1,Nat.and_two_pow_sub_one_eq_mod]
 show IntKind.i64.wrap ((BitVec.ofInt 64 n &&& BitVec.ofInt 64 1).toNat:Nat)=n % 2;rw[key,IntKind.wrap_i64];omega
theorem qnj (b j:Nat):bits .and .i64 (((b:Int)+1) / 2 ^ j) 1=(((b+1) / 2 ^ j % 2:Nat):Int):=by
 rw[qag];simp
def q1p (w:World) (base:Nat) (v:Value) (m:List Ce):Prop:=w.ownsRow base 75 3 v m.length (cat Ce.enc m)/\∀ x∈m,w.ownsRow base 108 2 x.sl x.s.length (cat Sd.enc x.s)
theorem q1p.slc {w:World} {base:Nat} {v:Value} {m:List Ce} (h:q1p w base v m):SlC w v m:=⟨Sl.qc h.1,fun x hx=>Sl.qc (h.2 x hx)⟩
theorem q1p.set {w:World} {base:Nat} {v:Value} {m:List Ce} (h:q1p w base v m) {a:Addr} (ha:a.block < base) (u:Value):q1p (w.setCell a u) base v m:=⟨ownsRow_setCell_below h.1 ha u,fun x hx=>ownsRow_setCell_below (h.2 x hx) ha u⟩
theorem q1p.mono {w:World} {base lu:Nat} {v:Value} {m:List Ce} (h:q1p w base v m) (hb:lu<=base):q1p w lu v m:=⟨qf h.1 hb,fun x hx=>qf (h.2 x hx) hb⟩
theorem qhr:∀ n:Nat,n<=4->wrap64 ((2:Int) ^ n)=((2 ^ n:Nat):Int)
 | 0,_=>by decide +kernel
 | 1,_=>by decide +kernel
 | 2,_=>by decide +kernel
 | 3,_=>by decide +kernel
 | 4,_=>by decide +kernel
 | n+5,h=>by omega
theorem q1e (v:Value) (ls:List (List Int)) (w:World) (h:SlI w v ls) (hn:ls.length<=12) (hs:∀ s∈ls,s.length<=4/\s.Pairwise (· < ·)/\∀ x∈s,0<=x/\x<=9223372036854775807) :
  Calls Tryz.prog 74 #[v] w fun e w'=>∃ r m,e = .returned (.agg #[r])/\m.map Ce.cl=q0m ls/\q1p w' w.heap.size r m/\Below w.heap.size w w':=by
 obtain⟨vs,hv,tM,vG⟩:=h;obtain⟨a,len,cap,rfl,h1,h2,h3,h4,h5⟩:=hv;unfold maxLen at h2;rw[gM] at h3;have bH:ls.length=len:=by omega
 rw[bH] at hn;have H3:=lhd h3;clear h3;have HL:=lhd bH;clear bH;have H4:=lhd h4;clear h4;have H5:=lhd h5;clear h5;have HE:=lhd vG;clear vG;have HS:=lhd hs;clear hs;have key:∀ (i:Nat),i < len->∃ s va vn vc,ls[i]? = some s/\vs[i]? = some (.slice va vn vc)/\Sl w 1 (.slice va vn vc) (ints s):=fun i hi=>by
  obtain⟨u,hu⟩ : ∃ u,vs[i]? = some u:=⟨_,g8 (by rw[H3.out];exact hi)⟩
  obtain⟨l,hl⟩ : ∃ l,ls[i]? = some l:=⟨_,g8 (by rw[HL.out];exact hi)⟩
  have h1:=HE.out i u l hu hl;obtain⟨va,vn,vc,rfl⟩:=qg h1;exact⟨l,va,vn,vc,hl,hu,h1⟩
 have GJ:=lhd key;clear key;go_enter Tryz.func74,Tryz.ntmps74;go_wp2;obtain⟨W,hW⟩ : ∃ W:World,W=w.alloc (.cells #[.slice none 0 0] 26):=⟨_,rfl⟩
 rw[<-hW];have b0:Bv W w.heap.size (.slice none 0 0):=by rw[hW];exact Bv.new w _ _
 have hw:Below w.heap.size w W:=by rw[hW];exact(Below.refl _ _).alloc (nlr _) _
 have hz:W.heap.size=w.heap.size+1:=by rw[hW];simp
 have kA:=lhd b0;have HZ:=lhd hz;clear hW b0 hz;go_loopw [3,4] (fun o i wr=>∃ k:Nat,i = .int .i64 k/\k<=len/\Hid (SlI wr o (kg (ls.take k)))/\Below W.heap.size W wr) (fun _ i _=>len - (vI i).toNat)
 case atStart=>exact⟨0,rfl,gp _,(show Hid _ from SlI.nil _),Below.refl _ _⟩
 case round =>
  obtain⟨k,rfl,hk,HA,hB⟩:=hrel;have aM:Below w.heap.size w wr:=hw.trans (hB.mono hw.size);by_cases hlt:k < len
  ·obtain⟨ad,rfl⟩ : ∃ ad,a=some ad:=by
    cases a with
    | none=>have:=H4.out rfl;omega
    | some ad=>exact⟨ad,rfl⟩
   obtain⟨s,va,vn,vc,hls,qR,aW⟩:=GJ.out k hlt;have d0:wr.cell? (ad.add k)=some (.slice va vn vc):=Cx.q8 aM (H5.out ad rfl k _ qR);obtain⟨s1,s2,s3⟩:=HS.out s (gh hls);have cw:kg (ls.take (k+1))=kt s (kg (ls.take k)) (2 ^ s.length - 1):=by rw[gq,hls];exact qfc _ _
   have qC:(kg (ls.take k)).length<=k*15:=by
    have:=q3v (ls.take k) (fun s hs=>(HS.out s (gK hs)).1);rw[gd] at this;omega
   have cW:=lhd cw;have fR:=lhd (aW.q8 aM);have tj:=lhd s2;have Km:=lhd s3;obtain⟨A0,iw⟩ : ∃ A,A=kg (ls.take k):=⟨_,rfl⟩
   rw[<-iw] at HA cW qC;have Kn:=lhd iw;clear cw qR hls aW s2 s3 iw;obtain⟨wo,dB⟩ : ∃ wo:World,wo=wr:=⟨_,rfl⟩
   subst dB;go_wp2_with fail;refine(qp2 _ s _ fR.out tj.out Km.out (by omega)).mono ?_;rintro e w1 ⟨r,rfl,hr,aj⟩;have ak:Below wo.heap.size wo w1:=aj;have GD:=lhd (HA.out.q8 aj);obtain⟨ra,rc,fV⟩:=qj hr;subst fV;obtain⟨n,te⟩ : ∃ n,n=s.length:=⟨_,rfl⟩
   have OK:=lhd (Sl.qc hr);rw[<-te] at OK cW s1 ⊢;have HN:=lhd te;obtain⟨N,hN⟩ : ∃ N,N=2 ^ n:=⟨_,rfl⟩
   have Ue:N<=16/\1<=N:=by rw[hN];exact⟨bD (n:=2) (by decide) s1,Nat.one_le_two_pow⟩
   have Ko:wrap64 ((2:Int) ^ n)=(N:Int):=by rw[hN];exact qhr n s1
   rw[<-hN] at cW;have OL:=lhd hN;clear aj hr d0 fR te hN;go_wp2;go_loopw [3,7] (fun o i wr=>∃ b:Nat,i = .int .i64 ((b:Int)+1)/\b<=N - 1/\Hid (SlI wr o (kt s A0 b))/\Below w1.heap.size w1 wr) (fun _ i _=>N - (vI i).toNat)
   case atStart=>exact⟨0,rfl,gp _,(show Hid _ from GD.out),Below.refl _ _⟩
   case round =>
    obtain⟨b,rfl,hb,Kp,ar⟩:=hrel;by_cases mO:(b:Int)+1 < N
    ·have Kq:Below w.heap.size w wr:=aM.trans ((ak.trans (ar.mono ak.size)).mono aM.size);obtain⟨wm,nu⟩ : ∃ wm:World,wm=wr:=⟨_,rfl⟩
     subst nu;go_wp2_with fail;rw[Ko];go_loopw [8,9] (fun o i wr=>∃ j:Nat,i = .int .i64 j/\j<=n/\Hid (wr.ownsRow wm.heap.size 3 1 o (j7 (s.take j) (b+1)).length (ints (j7 (s.take j) (b+1))))/\Below wm.heap.size wm wr) (fun _ i _=>n - (vI i).toNat)
     case atStart=>exact⟨0,rfl,gp _,(show Hid _ from World.ownsRow_nil _ _ _ _),Below.refl _ _⟩
     case round =>
      obtain⟨j,rfl,hj,HT,aA⟩:=hrel;by_cases jO:j < n
      ·obtain⟨h2,h3,h4,h5,h6⟩:=OK.out.open;obtain⟨rd,rfl⟩ : ∃ ad,ra=some ad:=by
        cases ra with
        | none=>have:=h5 rfl;omega
        | some ad=>exact⟨ad,rfl⟩
       obtain⟨y,hy⟩ : ∃ y,s[j]? = some y:=⟨_,g8 (by rw[<-HN.out];exact jO)⟩
       have c0:wr.cell? (rd.add j)=some (.int .i64 y):=Cx.q8 ((ar.trans (aA.mono ar.size))) (h6 rd rfl j _ (by simp[ints,hy]));have mX:j7 (s.take (j+1)) (b+1)=j7 (s.take j) (b+1)++(if (b+1) / 2 ^ j % 2=1 then [y] else []):=by
        rw[gq,hy];have:=q7r (s.take j) y (b+1);rw[gd,<-HN.out,gZ (by omega)] at this;exact this
       have rE:=lhd mX;clear h2 h3 h4 h5 h6 hy mX;have rF:=qnj b j;have nu:wm.heap.size<=wr.heap.size:=aA.size;have Kr:=qae (s.take j) (b+1);rw[gd] at Kr;by_cases hc:(b+1) / 2 ^ j % 2=1
       ·rw[hc] at rF;rw[if_pos hc] at rE;clear hc;go_wp2_with (at_builtin;refine qo (W:=wm) rfl _ _ 22 rfl wm.heap.size 3 Tryz.xg Tryz.underlying22 rfl (by decide) (by decide) _ _ _ rfl HT.out [.int .i64 y] rfl rfl (q5v _) ?sa1 aA ?sa2 ?_)
        case sa1=>omega
        case sa2=>exact nu
        intro v5 w5 bT _ aH;have F5:=lhd (aiq bT aH);clear bT aH;go_wp2;go_roundw
        case measure=>simp[vI];omega
        case rel =>
         refine⟨j+1,qh (by omega),by omega,(show Hid _ from ?_),F5.out.2⟩;rw[rE.out,j3,gc];exact F5.out.1
       ·have eS:(b+1) / 2 ^ j % 2=0:=by omega
        rw[eS] at rF;rw[if_neg hc,gN] at rE;clear hc eS;go_wp2;go_roundw
        case measure=>simp[vI];omega
        case rel=>exact⟨j+1,qh (by omega),by omega,(show Hid _ from by rw[rE.out];exact HT.out),aA⟩
      ·have Ks:j=n:=by omega
       have jV:s.take j=s:=gm (by rw[<-HN.out];omega);rw[jV] at HT;obtain⟨t,ht⟩ : ∃ t,t=j7 s (b+1):=⟨_,rfl⟩
       rw[<-ht] at HT;have Ke:=lhd ht;clear Ks jV ht;obtain⟨ta,tc,Uf⟩:=qj HT.out;subst Uf;have zG:=q67 s A0 b;have Kt:b<=16:=by omega
       have Dw:=lhd (Kp.out.q8 aA);have OM:=lhd (Sl.qc HT.out);obtain⟨A,hA⟩ : ∃ A,A=kt s A0 b:=⟨_,rfl⟩
       rw[<-hA] at Dw zG;have Ku:A.length<=1099511627776:=by omega
       have we:kt s A0 (b+1)=q24 A t:=by rw[q2o,<-hA,<-Ke.out]
       have CG:=lhd we;have Y5:=lhd hA;clear we hA;go_wp2_with fail;refine(qdx _ _ A t _ Dw.out OM.out Ku).mono ?_;rintro e w6 ⟨rfl,dR⟩;obtain⟨p,hp⟩ : ∃ p,p=plc A t:=⟨_,rfl⟩
       obtain⟨q,hq⟩ : ∃ q,q=q34 A t:=⟨_,rfl⟩
       rw[<-hp,<-hq];have dy:p<=A.length:=by rw[hp];exact q8u A t
       have cQ:Below wm.heap.size wm w6:=aA.trans (dR.mono aA.size);have ON:=lhd (Dw.out.q8 dR);have Ug:=lhd (OM.out.q8 dR);have Kv:=lhd (aiq hp hq);clear hp hq dR;cases q with
       | true =>
        have cO:q24 A t=A:=by unfold q24;rw[<-Kv.out.2];rfl
        have Db:=lhd cO;clear cO;go_wp2;go_roundw
        case measure=>simp[vI];omega
        case rel=>exact⟨b+1,qh (by omega),by omega,(show Hid _ from by rw[CG.out,Db.out];exact ON.out),ar.trans (cQ.mono ar.size)⟩
       | false =>
        have cO:q24 A t=A.take p++t :: A.drop p:=by unfold q24;rw[<-Kv.out.2,<-Kv.out.1];rfl
        have Db:=lhd cO;clear cO;obtain⟨ws,zH,wg,BA⟩:=ON.out;have fh:=SlI.qq2 wg BA;obtain⟨oa,on,oc,oW,g1,g2,g3,g4,g5⟩:=zH;subst oW;have tk:on=A.length:=by omega
        have Dx:Sl w6 1 (.slice oa on oc) ws:=⟨oa,on,oc,rfl,g1,g2,g3,g4,g5⟩
        have mF:=lhd (aiq Dx (aiq wg (aiq BA fh)));have BB:=lhd tk;have lJ:p<=on:=by omega
        have pZ:p<=oc:=by omega
        have Uh:on<=1099511627776:=by omega
        unfold maxLen at g2;have G4:=lhd g4;have qD:wm.heap.size<=w6.heap.size:=cQ.size;have fin:∀ (u:Value) (w':World),w'.ownsRow w6.heap.size 22 1 u (p+(1+(on - p))) (ws.take p++([Value.slice ta t.length tc]++ws.drop p))->Below w6.heap.size w6 w'->SlI w' u (kt s A0 (b+1))/\Below w1.heap.size w1 w':=fun u w' h1 h2=>by
         refine⟨?_,ar.trans ((cQ.trans (h2.mono qD)).mono ar.size)⟩;rw[CG.out,Db.out];exact SlI.ins (Sl.qc h1) mF.out.2.1 (by omega) (fun i u l hu hl=>(mF.out.2.2.1 i u l hu hl).q8 h2) (Ug.out.q8 h2)
        have bI:=lhd fin;have pW:(ws.drop p).length=(on - p)*1:=by rw[gu];omega
        have jV:(ws.take p).length=p*1:=by rw[gd];omega
        have tl:=lhd (aiq pW jV);clear Dx wg BA fh g3 g4 g5 fin pW jV tk;cases oa with
        | none =>
         have Ui:oc=0:=G4.out rfl;subst Ui;obtain rfl:p=0:=by omega
         obtain rfl:on=0:=by omega
         have wh:Sl (w6.alloc (.cells #[.slice ta t.length tc] 22)) 1 (.slice none 0 0) (ws.drop 0):=(mF.out.1).alloc _;go_wp2_with (at_builtin;refine qm (W:=w6) rfl _ _ 95 rfl w6.heap.size 22 Tryz.q06 Tryz.underlying95 rfl (by decide) (by decide) _ _ _ rfl (vq w6 22 1 1 [.slice ta t.length tc] rfl (by unfold maxLen;omega)) _ (0 - 0) (ws.drop 0) rfl wh tl.out.1 (fun u hu=>mF.out.2.2.2 u (br hu)) ?ran ((Below.refl _ w6).alloc (nlr _) _) ?rbn ?_)
         case ran=>omega
         case rbn=>simp
         intro v7 w7 fP _ eH;have oX:w6.heap.size<=w7.heap.size:=eH.size;have R7:=lhd fP;have wi:Sl (w7.alloc (.cells #[] 22)) 1 (.slice none 0 0) (ws.take 0):=by
          have:=((mF.out.1.q8 eH).alloc (.cells #[] 22)).take (k:=0) lJ;simpa using this
         have Dy:=lhd eH;clear fP eH;go_wp2_with (at_builtin;refine qm (W:=w7) rfl _ _ 95 rfl w7.heap.size 22 Tryz.q06 Tryz.underlying95 rfl (by decide) (by decide) _ _ _ rfl (zj w7 22 1) _ 0 (ws.take 0) rfl wi tl.out.2 (fun u hu=>mF.out.2.2.2 u (gK hu)) ?rcn ((Below.refl _ w7).alloc (nlr _) _) ?rdn ?_)
         case rcn=>omega
         case rdn=>simp
         intro v8 w8 iX _ oy;have wk:Sl w8 1 v7 ([Value.slice ta t.length tc]++ws.drop 0):=Sl.qc (qa R7.out oy);go_wp2_with (at_builtin;refine qm (W:=w7) rfl _ _ 95 rfl w7.heap.size 22 Tryz.q06 Tryz.underlying95 rfl (by decide) (by decide) _ _ _ rfl iX _ (1+(0 - 0)) ([Value.slice ta t.length tc]++ws.drop 0) rfl wk ?ren ?rfn ?rgn oy ?rhn ?_)
         case ren=>rw[gc,tl.out.1];show 1+_=_;omega
         case rfn=>exact fun u hu=>(gH.1 hu).elim (fun h=>by simp at h;subst h;rfl) (fun h=>mF.out.2.2.2 u (br h))
         case rgn=>omega
         case rhn=>exact oy.size
         intro v9 w9 rG _ ny;have F9:=lhd (bI.out v9 w9 (qf (zm rG (by omega)) oX) (Dy.out.trans (ny.mono oX)));clear iX oy rG ny wh wi wk;go_wp2;go_roundw
         case measure=>simp[vI];omega
         case rel=>exact⟨b+1,qh (by omega),by omega,(show Hid _ from F9.out.1),F9.out.2⟩
        | some od =>
         have Y6:(p:Int)<=oc:=by omega
         have Y7:(p:Int)<=on:=by omega
         by_cases Dz:oc=p
         ·subst Dz;have wh:Sl (w6.alloc (.cells #[.slice ta t.length tc] 22)) 1 (.slice (some od) 0 0) (ws.drop oc):=by
           have hd:ws.drop oc=[]:=gz (by rw[tl.out.1];omega);rw[hd];exact Sl.empty _ _ _ _ (by unfold maxLen;omega)
          go_wp2_with (at_builtin;refine qm (W:=w6) rfl _ _ 95 rfl w6.heap.size 22 Tryz.q06 Tryz.underlying95 rfl (by decide) (by decide) _ _ _ rfl (vq w6 22 1 1 [.slice ta t.length tc] rfl (by unfold maxLen;omega)) _ (on - oc) (ws.drop oc) rfl wh tl.out.1 (fun u hu=>mF.out.2.2.2 u (br hu)) ?raa ((Below.refl _ w6).alloc (nlr _) _) ?rba ?_)
          case raa=>omega
          case rba=>simp
          intro v7 w7 fP _ eH;have oX:w6.heap.size<=w7.heap.size:=eH.size;have R7:=lhd fP;have wi:Sl (w7.alloc (.cells #[] 22)) 1 (.slice (some od) oc oc) (ws.take oc):=by
           have:=((mF.out.1.q8 eH).alloc (.cells #[] 22)).take (k:=oc) lJ;simpa using this
          have Dy:=lhd eH;clear fP eH;go_wp2_with (at_builtin;refine qm (W:=w7) rfl _ _ 95 rfl w7.heap.size 22 Tryz.q06 Tryz.underlying95 rfl (by decide) (by decide) _ _ _ rfl (zj w7 22 1) _ oc (ws.take oc) rfl wi tl.out.2 (fun u hu=>mF.out.2.2.2 u (gK hu)) ?rca ((Below.refl _ w7).alloc (nlr _) _) ?rda ?_)
          case rca=>omega
          case rda=>simp
          intro v8 w8 iX _ oy;have wk:Sl w8 1 v7 ([Value.slice ta t.length tc]++ws.drop oc):=Sl.qc (qa R7.out oy);go_wp2_with (at_builtin;refine qm (W:=w7) rfl _ _ 95 rfl w7.heap.size 22 Tryz.q06 Tryz.underlying95 rfl (by decide) (by decide) _ _ _ rfl iX _ (1+(on - oc)) ([Value.slice ta t.length tc]++ws.drop oc) rfl wk ?rea ?rfa ?rga oy ?rha ?_)
          case rea=>rw[gc,tl.out.1];show 1+_=_;omega
          case rfa=>exact fun u hu=>(gH.1 hu).elim (fun h=>by simp at h;subst h;rfl) (fun h=>mF.out.2.2.2 u (br h))
          case rga=>omega
          case rha=>exact oy.size
          intro v9 w9 rG _ ny;have F9:=lhd (bI.out v9 w9 (qf (zm rG (by omega)) oX) (Dy.out.trans (ny.mono oX)));clear iX oy rG ny wh wi wk;go_wp2;go_roundw
          case measure=>simp[vI];omega
          case rel=>exact⟨b+1,qh (by omega),by omega,(show Hid _ from F9.out.1),F9.out.2⟩
         ·have wh:Sl (w6.alloc (.cells #[.slice ta t.length tc] 22)) 1 (.slice (some (od.add p)) (on - p) (oc - p)) (ws.drop p):=by
           have:=(mF.out.1.alloc (.cells #[.slice ta t.length tc] 22)).drop lJ;simpa using this
          go_wp2_with (at_builtin;refine qm (W:=w6) rfl _ _ 95 rfl w6.heap.size 22 Tryz.q06 Tryz.underlying95 rfl (by decide) (by decide) _ _ _ rfl (vq w6 22 1 1 [.slice ta t.length tc] rfl (by unfold maxLen;omega)) _ (on - p) (ws.drop p) rfl wh tl.out.1 (fun u hu=>mF.out.2.2.2 u (br hu)) ?rab ((Below.refl _ w6).alloc (nlr _) _) ?rbb ?_)
          case rab=>omega
          case rbb=>simp
          intro v7 w7 fP _ eH;have oX:w6.heap.size<=w7.heap.size:=eH.size;have R7:=lhd fP;have wi:Sl (w7.alloc (.cells #[] 22)) 1 (.slice (some od) p oc) (ws.take p):=by
           have:=((mF.out.1.q8 eH).alloc (.cells #[] 22)).take (k:=p) lJ;simpa using this
          have Dy:=lhd eH;clear fP eH;go_wp2_with (at_builtin;refine qm (W:=w7) rfl _ _ 95 rfl w7.heap.size 22 Tryz.q06 Tryz.underlying95 rfl (by decide) (by decide) _ _ _ rfl (zj w7 22 1) _ p (ws.take p) rfl wi tl.out.2 (fun u hu=>mF.out.2.2.2 u (gK hu)) ?rcb ((Below.refl _ w7).alloc (nlr _) _) ?rdb ?_)
          case rcb=>omega
          case rdb=>simp
          intro v8 w8 iX _ oy;have wk:Sl w8 1 v7 ([Value.slice ta t.length tc]++ws.drop p):=Sl.qc (qa R7.out oy);go_wp2_with (at_builtin;refine qm (W:=w7) rfl _ _ 95 rfl w7.heap.size 22 Tryz.q06 Tryz.underlying95 rfl (by decide) (by decide) _ _ _ rfl iX _ (1+(on - p)) ([Value.slice ta t.length tc]++ws.drop p) rfl wk ?reb ?rfb ?rgb oy ?rhb ?_)
          case reb=>rw[gc,tl.out.1];show 1+_=_;omega
          case rfb=>exact fun u hu=>(gH.1 hu).elim (fun h=>by simp at h;subst h;rfl) (fun h=>mF.out.2.2.2 u (br h))
          case rgb=>omega
          case rhb=>exact oy.size
          intro v9 w9 rG _ ny;have F9:=lhd (bI.out v9 w9 (qf (zm rG (by omega)) oX) (Dy.out.trans (ny.mono oX)));clear iX oy rG ny wh wi wk;go_wp2;go_roundw
          case measure=>simp[vI];omega
          case rel=>exact⟨b+1,qh (by omega),by omega,(show Hid _ from F9.out.1),F9.out.2⟩
    ·have Kt:b=N - 1:=by omega
     have dr:SlI wr u3 (kg (ls.take (k+1))):=by rw[cW.out,<-Kt];exact Kp.out
     have zG:=q67 s A0 b;obtain⟨ws,zH,wg,_⟩:=Kp.out;obtain⟨oa,on,oc,oW,_,_,g3,_,_⟩:=zH;subst oW;have tk:on<=4000:=by omega
     have Uj:(on:Int)<=4000:=by omega
     have Kw:=lhd dr;have Kq:Below W.heap.size W wr:=hB.trans ((ak.trans (ar.mono ak.size)).mono hB.size);clear dr g3 wg zG Kt tk;go_wp2;go_roundw
     case measure=>simp[vI];omega
     case rel=>exact⟨k+1,qh (by omega),by omega,Kw,Kq⟩
  ·have aZ:k=len:=by omega
   have dx:ls.take k=ls:=gm (by rw[HL.out];omega);rw[dx] at HA;have zI:=q3v ls (fun s hs=>(HS.out s hs).1);have zJ:=q8x ls (fun s hs=>(HS.out s hs).1);rw[HL.out] at zI;obtain⟨A,hA⟩ : ∃ A,A=kg ls:=⟨_,rfl⟩
   have OO:=lhd (show q0m ls=xf A A.length by unfold q0m;rw[hA]);rw[<-hA] at HA zI zJ;have qC:A.length<=180:=by omega
   obtain⟨ws,zH,wg,BA⟩:=HA.out;obtain⟨oa,on,oc,oW,g1,g2,g3,g4,g5⟩:=zH;subst oW;unfold maxLen at g2;have tk:on=A.length:=by omega
   have BB:=lhd tk;have jG:=lhd zJ;have OP:=lhd (aiq wg BA);have G4:=lhd g4;have G5:=lhd g5;have Ky:on<=180:=by omega
   rw[<-BB.out] at OO;have cG:=(kA.out.below hB (by have:=HZ.out;omega))
   have Kz:=lhd cG;clear aZ dx zI zJ hA qC wg BA g3 g4 g5 cG tk;obtain⟨wq,Uk⟩ : ∃ wq:World,wq=wr:=⟨_,rfl⟩
   subst Uk;go_wp2;obtain⟨V2,D1⟩ : ∃ V:World,V=wq.alloc (.cells #[.slice none 0 0] 26):=⟨_,rfl⟩
   rw[<-D1];have K3:Bv V2 wq.heap.size (.slice none 0 0):=by rw[D1];exact Bv.new _ _ _
   have aK:Below wq.heap.size wq V2:=by rw[D1];exact(Below.refl _ _).alloc (nlr _) _
   have D2:V2.heap.size=wq.heap.size+1:=by rw[D1];simp
   have OQ:=lhd D2;clear D1 D2;go_loopw [14] (fun i wr=>∃ (i0:Nat) (m:List Ce) (u:Value),i = .int .i64 i0/\i0<=on/\m.length=i0/\Hid (wr.ownsRow V2.heap.size 75 3 u i0 (cat Ce.enc m))/\Hid (∀ x∈m,wr.ownsRow V2.heap.size 108 2 x.sl x.s.length (cat Sd.enc x.s))/\Hid (m.map Ce.cl=xf A i0)/\Hid (Bv wr wq.heap.size u)/\Below wq.heap.size wq wr/\V2.heap.size<=wr.heap.size) (fun i _=>on - (vI i).toNat)
   case atStart=>exact⟨0,[],_,rfl,gp _,rfl,(show Hid _ from World.ownsRow_nil _ _ _ _),(show Hid _ from fun x hx=>by simp at hx),(show Hid _ from rfl),(show Hid _ from K3),aK,nlr _⟩
   case round =>
    obtain⟨i0,m,u,rfl,hi,ff,HR,HF,BC,GM,aF,oM⟩:=hrel;have K6:Below w.heap.size w wr:=aM.trans (aF.mono aM.size);by_cases fE:i0 < on
    ·obtain⟨od,zK⟩ : ∃ ad,oa=some ad:=by
      cases oa with
      | none=>have:=G4.out rfl;omega
      | some ad=>exact⟨ad,rfl⟩
     subst zK;obtain⟨tv,K7⟩ : ∃ tv,ws[i0]? = some tv:=⟨_,g8 (by rw[OP.out.1,<-BB.out];exact fE)⟩
     obtain⟨x,hx⟩ : ∃ x,A[i0]? = some x:=⟨_,g8 (by rw[<-BB.out];exact fE)⟩
     have oY:=OP.out.2 i0 tv x K7 hx;obtain⟨xa,xn,xc,qE⟩:=qg oY;subst qE;have tT:=jG.out x (gh hx);obtain⟨q1,q2,q3,q4,q5⟩:=oY.open;rw[xl,gM] at q3;unfold maxLen at q2;rw[q3] at tT;have D3:xf A (i0+1)=xf A i0++[xy A i0 x]:=by rw[q4o,gF,hx];rfl
     have Ul:=lhd D3;have wA:=lhd q3;have BD:=lhd q4;have BE:=lhd q5;have K8:=lhd oY;have OR:=lhd (G5.out od rfl i0 _ K7);have c0:wr.cell? (od.add i0)=some (.slice xa xn xc):=Cx.q8 aF OR.out;obtain⟨wo,dB⟩ : ∃ wo:World,wo=wr:=⟨_,rfl⟩
     subst dB;clear K7 hx oY q3 q4 q5 D3;go_wp2;obtain⟨V3,wB⟩ : ∃ V:World,V=wo.alloc (.cells #[.int .i64 ((i0:Int)+1),.int .i64 ((xn:Int) - 1),.slice none 0 0] 75):=⟨_,rfl⟩
     rw[<-wB];have v0:V3.cell? ⟨wo.heap.size,0,none⟩=some (.int .i64 ((i0:Int)+1)):=by rw[wB];exact qd wo #[.int .i64 ((i0:Int)+1),.int .i64 ((xn:Int) - 1),.slice none 0 0] 75 (0,0) 0
     have v1:V3.cell? ⟨wo.heap.size,1,none⟩=some (.int .i64 ((xn:Int) - 1)):=by rw[wB];exact qd wo #[.int .i64 ((i0:Int)+1),.int .i64 ((xn:Int) - 1),.slice none 0 0] 75 (0,0) 1
     have v2:V3.cell? ⟨wo.heap.size,2,none⟩=some (.slice none 0 0):=by rw[wB];exact qd wo #[.int .i64 ((i0:Int)+1),.int .i64 ((xn:Int) - 1),.slice none 0 0] 75 (0,0) 2
     have vf:V3.frozen? ⟨wo.heap.size,2,none⟩=false:=by rw[wB];exact jz (heap_alloc_new wo _) 2
     have K9:Below wo.heap.size wo V3:=by rw[wB];exact(Below.refl _ wo).alloc (nlr _) _
     have Um:=lhd (show V3.heap.size=wo.heap.size+1 by rw[wB];simp);clear wB;go_loopw [16] (fun i wr=>∃ (k:Nat) (sv:Value),i = .int .i64 k/\k<=xn/\(0 < k->1 < xn)/\Hid (wr.ownsRow (wo.heap.size+1) 108 2 sv k (cat Sd.enc (z7 A x k))) ∧
      wr.cell? ⟨wo.heap.size,0,none⟩=some (.int .i64 ((i0:Int)+1))/\wr.cell? ⟨wo.heap.size,1,none⟩=some (.int .i64 ((xn:Int) - 1))/\wr.cell? ⟨wo.heap.size,2,none⟩=some sv/\wr.frozen? ⟨wo.heap.size,2,none⟩=false/\Below wo.heap.size wo wr/\Hid (wo.heap.size+1<=wr.heap.size)) (fun i _=>xn - (vI i).toNat)
     case atStart=>exact⟨0,_,rfl,gp _,by omega,(show Hid _ from World.ownsRow_nil _ _ _ _),v0,v1,v2,vf,K9,(show Hid _ from by show wo.heap.size+1<=V3.heap.size;have:=Um.out;omega)⟩
     case round =>
      clear v0 v1 v2 vf c0;obtain⟨kk,sv,rfl,sR,fD,wC,c0,c1,c2,cf,dF,OS⟩:=hrel;have mG:Below wq.heap.size wq wr:=aF.trans (dF.mono aF.size);have d0:wr.cell? (od.add i0)=some (.slice xa xn xc):=Cx.q8 mG OR.out;by_cases nz:kk < xn/\1 < xn
      ·obtain⟨ue,eQ⟩:=nz;have Un:(0:Int) < (xn:Int) - 1:=by omega
       obtain⟨xd,zL⟩ : ∃ ad,xa=some ad:=by
        cases xa with
        | none=>have:=BD.out rfl;omega
        | some ad=>exact⟨ad,rfl⟩
       subst zL;have rf:(kk:Int)<=xc:=by omega
       have Uo:(kk:Int)+1<=xc:=by omega
       have ni:(kk:Int)+1<=xn:=by omega
       have eC:(0:Int)<=(kk:Int)+1:=by omega
       have Up:IntKind.i64.wrap ((kk:Int)+1)=(kk:Int)+1:=IntWalk.i64_in _ (by omega);have OT:Sl wr 1 (.slice (some xd) xn xc) (ints x):=K8.out.q8 mG;have OU:=lhd OT;have ll:(ints x).length=xn:=by rw[xl];exact wA.out
       have cw:((ints x).take kk).length=kk*1:=by rw[gd,ll];omega
       have D5:((ints x).drop (kk+1)).length=(xn - (kk+1))*1:=by rw[gu,ll];omega
       have zM:=lhd (aiq cw D5);have fh:∀ u∈ints x,u.oneCell'=true:=q65 x;have D6:=lhd fh;have tL:∀ (w':World),Below wr.heap.size wr w'->Sl w' 1 (.slice (some xd) kk xc) ((ints x).take kk):=fun w' hb=>by
        have:=(OU.out.q8 hb).take (k:=kk) (by omega);simpa using this
       have vE:∀ (w':World) (p:Prop) [Decidable p],(p↔xc=kk+1)->Below wr.heap.size wr w'->Sl w' 1 (.slice (if p then some xd else some (xd.add (kk+1))) (xn - (kk+1)) (xc - (kk+1))) ((ints x).drop (kk+1)):=fun w' p _ hp hb=>by
        split
        ·rename_i kC;have:=hp.1 kC;have hd:(ints x).drop (kk+1)=[]:=gz (by rw[zM.out.2];omega);rw[hd,show xn - (kk+1)=0 by omega];exact Sl.empty _ _ _ _ (by unfold maxLen;omega)
        ·have:=(OU.out.q8 hb).drop (k:=kk+1) (by omega);simpa using this
       have KA:=lhd tL;have tj:=lhd vE;clear OT ll cw D5 fh tL vE;have OV:Below wr.heap.size wr ((wr.alloc (.cells #[] 3)).drew):=qb ((Below.refl _ wr).alloc (nlr _) _) 1;have OW:=lhd OV;clear OV;go_wp2_with fail
       go_region_held3 (fun w'=>w'.cell? (od.add i0)=some (.slice (some xd) xn xc))
        (first | assumption | exact qk (by assumption) _ | fail)
        (first
         |(refine ju ((wr.alloc (.cells #[] 3)).drew) rfl _ _ 22 rfl wr.heap.size 3 Tryz.xg Tryz.underlying22 rfl (by decide) (by decide) _ 0 [] rfl (vq wr.drew 3 1 0 [] rfl (by unfold maxLen;omega)) _ kk ((ints x).take kk) rfl (by simp[Act.eval];exact KA.out _ OW.out) zM.out.1 (fun u hu=>D6.out u (gK hu)) (by omega) (by show wr.heap.size<=(wr.alloc (.cells #[] 3)).heap.size;simp) ?_;intro r1 w2 cZ D7;have bM:Below wr.heap.size wr w2:=OW.out.trans D7;have y0:=Cx.q8 bM d0;have R1:=lhd (aiq cZ bM);clear cZ D7 bM)
         |(go_must (refine ju w2 rfl _ _ 22 rfl wr.heap.size 3 Tryz.xg Tryz.underlying22 rfl (by decide) (by decide) r1 (0+kk) ([]++(ints x).take kk) rfl R1.out.1 _ (xn - (kk+1)) ((ints x).drop (kk+1)) rfl (by simp[Act.eval];exact tj.out _ _ Iff.rfl R1.out.2) zM.out.2 (fun u hu=>D6.out u (br hu)) (by omega) R1.out.2.size ?_;intro r2 w3 cH D8;have zN:Below wr.heap.size wr w3:=R1.out.2.trans D8;have y1:=Cx.q8 zN d0;have R2:=lhd (aiq cH zN);clear cH D8 zN)))
       all_goals
        generalize (if xc=kk+1 then some xd else some (⟨xd.block,xd.off+(kk+1),none⟩ : Addr))=s130;have uf:Below wo.heap.size wo w3:=dF.trans (R2.out.2.mono dF.size);have OX:SlI w3 (.slice (some od) on oc) A:=HA.out.q8 (aF.trans (uf.mono aF.size));have Dw:=lhd OX;have wE:Sl w3 1 r2 (ints (x.take kk++x.drop (kk+1))):=by
         have:=Sl.qc R2.out.1;rw[j3,show ints (x.take kk)=(ints x).take kk from q49 _ _,show ints (x.drop (kk+1))=(ints x).drop (kk+1) by simp[ints,List.map_drop]];exact this
        have Uq:=lhd wE;have Ku:A.length<=1099511627776:=by rw[<-BB.out];omega
        have s0:=Cx.q8 R2.out.2 c0;have s1:=Cx.q8 R2.out.2 c1;have s2:=Cx.q8 R2.out.2 c2;have sf:w3.frozen? ⟨wo.heap.size,2,none⟩=false:=qv R2.out.2 (World.block_lt_of_cell? wr _ c2) cf;have KB:=lhd (qa wC.out R2.out.2);have jN:wo.heap.size+1<=w3.heap.size:=gl OS.out R2.out.2.size;clear OX wE c0 c1 c2 cf y0 y1 d0;go_wp2_with fail;refine(qdx _ _ A (x.take kk++x.drop (kk+1)) _ Dw.out Uq.out Ku).mono ?_;rintro e w4 ⟨rfl,aT⟩;obtain⟨pp,kC⟩ : ∃ p,p=plc A (x.take kk++x.drop (kk+1)):=⟨_,rfl⟩
        obtain⟨qq,BF⟩ : ∃ q,q=q34 A (x.take kk++x.drop (kk+1)):=⟨_,rfl⟩
        rw[<-kC,<-BF];have dy:pp<=180:=by have:=q8u A (x.take kk++x.drop (kk+1));rw[<-kC,<-BB.out] at this;omega
        obtain⟨rr,D9⟩ : ∃ r,r=kk % 2:=⟨_,rfl⟩
        have oK:rr<=1:=by omega
        have Ur:(kk:Int).tmod 2=(rr:Int):=by rw[Int.tmod_eq_emod_of_nonneg (by omega),D9];omega
        have Us:IntKind.i64.wrap ((pp:Int)+1)=(pp:Int)+1:=IntWalk.i64_in _ (by omega);have Ut:IntKind.i64.wrap (2*(rr:Int))=2*(rr:Int):=IntWalk.i64_in _ (by omega);have Uu:IntKind.i64.wrap (1 - 2*(rr:Int))=1 - 2*(rr:Int):=IntWalk.i64_in _ (by omega);have iU:z7 A x (kk+1)=z7 A x kk++[⟨(pp:Int)+1,1 - 2*(rr:Int)⟩]:=by rw[qc3,kC,D9]
        have sW:=lhd iU;have t0:=Cx.q8 aT s0;have t1:=Cx.q8 aT s1;have t2:=Cx.q8 aT s2;have tf:w4.frozen? ⟨wo.heap.size,2,none⟩=false:=qv aT (World.block_lt_of_cell? w3 _ s2) sf;have zO:=lhd (qa KB.out aT);have KC:wo.heap.size+1<=w4.heap.size:=gl jN aT.size;have DA:=lhd (uf.trans (aT.mono uf.size));clear kC BF D9 iU s0 s1 s2 sf aT uf;go_wp2_with (at_builtin;go_loud (refine qo (W:=w4) rfl _ _ 73 rfl (wo.heap.size+1) 108 Tryz.q05 Tryz.underlying73 rfl (by decide) (by decide) _ _ _ rfl zO.out [.int .i64 ((pp:Int)+1),.int .i64 (1 - 2*(rr:Int))] rfl rfl (fun u hu=>by simp at hu;rcases hu with rfl | rfl <;> rfl) (by omega) (Below.refl _ _) KC ?_));intro v5 w5 bT ec _;have aq:∀ b,sv.ownBlock=some b->wo.heap.size≠b:=fun b e=>by have:=(zO.out.lt b e).1;omega
        have z0:=ql ec t0 aq;have z1:=ql ec t1 aq;have z2:=ql ec t2 aq;have zf:w5.frozen? ⟨wo.heap.size,2,none⟩=false:=(ec.frozen_far ⟨wo.heap.size,2,none⟩ (World.block_lt_of_cell? w4 _ t2) (fun e=>aq _ e.symm rfl)).trans tf;have aH:Below wo.heap.size wo w5:=DA.out.grown ec (by omega) (fun b e=>by have:=(zO.out.lt b e).1;omega);have Bn:=ec.size;obtain⟨f4,f5,nw⟩:=qj bT;subst nw;have F5:=lhd (aiq bT (aiq aH (aiq z0 (aiq z1 Bn))));clear bT ec aH z0 z1 Bn t0 t1 t2 tf aq;go_wp2;go_roundw
        case measure=>simp[vI];omega
        case rel =>
         obtain⟨bT,aH,z0,z1,Bn⟩:=F5.out;refine⟨kk+1,_,qh (by omega),by omega,fun _=>eQ,(show Hid _ from ?_),q3d z0 (by simp),q3d z1 (by simp),World.cell?_setCell_same' _ _ _ (by rw[z2];rfl),by simpa [World.frozen?_setCell] using zf,aH.setCell (nlr _) _,(show Hid _ from by show _<=_;simp[World.setCell];omega)⟩;rw[sW.out,x9,q1c];exact ownsRow_setCell_below bT (by show wo.heap.size < _;omega) _
      ·have iU:z7 A x kk=z7 A x (if 1 < x.length then x.length else 0):=by
        congr 1
        rw[wA.out];by_cases h1:1 < xn
        ·rw[if_pos h1];omega
        ·rw[if_neg h1];omega
       have iD:(z7 A x kk).length=kk:=by simp[z7]
       have aW:(z7 A x kk).length<=1099511627776:=by rw[iD];omega
       have ou:=lhd (Sl.qc wC.out);have ue:kk < xn->¬ ((0:Int) < (xn:Int) - 1):=fun _=>by omega
       have Uv:wo.heap.size<=wr.heap.size:=dF.size;have fin:∀ (r:Value) (w6:World),w6.ownsRow wr.heap.size 108 2 r kk (cat Sd.enc (zx (z7 A x kk)))->Below wr.heap.size wr w6 →
         w6.cell? ⟨wo.heap.size,0,none⟩=some (.int .i64 ((i0:Int)+1))/\w6.cell? ⟨wo.heap.size,1,none⟩=some (.int .i64 ((xn:Int) - 1))/\w6.cell? ⟨wo.heap.size,2,none⟩=some sv/\w6.frozen? ⟨wo.heap.size,2,none⟩=false ∧
         w6.cell? ⟨wq.heap.size,0,none⟩=some u/\w6.frozen? ⟨wq.heap.size,0,none⟩=false ∧
         ((w6.setCell ⟨wo.heap.size,2,none⟩ r).ownsRow V2.heap.size 75 3 u i0 (cat Ce.enc m)/\V2.heap.size<=w6.heap.size ∧
          ∀ (v8:Value) (w8:World),w8.ownsRow V2.heap.size 75 3 v8 (i0+1) (cat Ce.enc m++[.int .i64 ((i0:Int)+1),.int .i64 ((xn:Int) - 1),r])->(w6.setCell ⟨wo.heap.size,2,none⟩ r).grownBy w8 u.ownBlock →
           w8.cell? ⟨wq.heap.size,0,none⟩=some u/\w8.frozen? ⟨wq.heap.size,0,none⟩=false/\∃ m':List Ce,m'.length=i0+1/\Hid ((w8.setCell ⟨wq.heap.size,0,none⟩ v8).ownsRow V2.heap.size 75 3 v8 (i0+1) (cat Ce.enc m')) ∧
            Hid (∀ y∈m',(w8.setCell ⟨wq.heap.size,0,none⟩ v8).ownsRow V2.heap.size 108 2 y.sl y.s.length (cat Sd.enc y.s))/\Hid (m'.map Ce.cl=xf A (i0+1))/\Hid (Bv (w8.setCell ⟨wq.heap.size,0,none⟩ v8) wq.heap.size v8)/\Below wq.heap.size wq (w8.setCell ⟨wq.heap.size,0,none⟩ v8)/\V2.heap.size<=(w8.setCell ⟨wq.heap.size,0,none⟩ v8).heap.size):=fun r w6 cV dR=>by
        have Y8:wq.heap.size < V2.heap.size:=by have:=OQ.out;omega
        have cQ:Below wo.heap.size wo w6:=dF.trans (dR.mono Uv);obtain⟨n0,n1⟩:=GM.out.q8 cQ;have GN:∀ b,u.ownBlock=some b->V2.heap.size<=b/\b < wo.heap.size:=fun b e=>HR.out.lt b e
        have Uw:=qa HR.out cQ;have DB:(w6.setCell ⟨wo.heap.size,2,none⟩ r).ownsRow V2.heap.size 75 3 u i0 (cat Ce.enc m):=q10 Uw (fun b e=>by have:=GN b e;show b≠wo.heap.size;omega) _;have Y9:=cQ.size;have e2:=Cx.q8 dR c2;refine⟨Cx.q8 dR c0,Cx.q8 dR c1,e2,qv dR (World.block_lt_of_cell? wr _ c2) cf,n0,n1,DB,by omega,fun v8 w8 h1 h2=>?_⟩;have p0:w8.cell? ⟨wq.heap.size,0,none⟩=some u:=ql h2 (q3d n0 (by intro e;injection e with e _;omega)) (fun b e=>by have:=GN b e;show wq.heap.size≠b;omega);have zP:(w6.setCell ⟨wo.heap.size,2,none⟩ r).heap.size=w6.heap.size:=by simp[World.setCell]
        have p1:w8.frozen? ⟨wq.heap.size,0,none⟩=false:=(h2.frozen_far ⟨wq.heap.size,0,none⟩ (by rw[zP];show wq.heap.size < _;omega) (fun e=>by have h9:V2.heap.size<=wq.heap.size:=(GN _ e.symm).1;omega)).trans (by simpa [World.frozen?_setCell] using n1);have Ux:=h2.size;rw[zP] at Ux;obtain⟨ra,rc,fV⟩:=qj cV;have fP:(w6.setCell ⟨wo.heap.size,2,none⟩ r).ownsRow V2.heap.size 108 2 r kk (cat Sd.enc (zx (z7 A x kk))):=q10 (qf cV (by omega)) (fun b e=>by have:=(cV.lt b e).1;have:=OS.out;show b≠wo.heap.size;omega) _;have iX:=fP.kept h2 (q1d fP DB (by decide));have KD:(zx (z7 A x kk)).length=kk:=by rw[q23,iD]
        refine⟨p0,p1,m++[⟨(i0:Int)+1,(xn:Int) - 1,ra,kk,rc,zx (z7 A x kk)⟩],by simp[ff],?_,?_,?_,(show Hid _ from Bv.put ⟨p0,p1⟩ _),?_,by simp[World.setCell];omega⟩
        ·show World.ownsRow _ _ _ _ _ _ _;have:=q10 (a:=⟨wq.heap.size,0,none⟩) h1 (fun b e=>by have:=(h1.lt b e).1;show b≠wq.heap.size;omega) v8;rw[x9,q1c];rw[fV] at this;exact this
        ·show ∀ y∈_,_;intro y hy;rcases gH.1 hy with hy | hy
         ·have g1:=HF.out y hy;have g2:=q10 (a:=⟨wo.heap.size,2,none⟩) (qa g1 cQ) (fun b e=>by have:=(g1.lt b e).2;show b≠wo.heap.size;omega) r;have g3:=g2.kept h2 (q1d g2 DB (by decide));exact q10 g3 (fun b e=>by have:=(g1.lt b e).1;show b≠wq.heap.size;omega) _
         ·simp only [List.mem_singleton] at hy;subst hy;have g3:=q10 (a:=⟨wq.heap.size,0,none⟩) iX (fun b e=>by have:=(cV.lt b e).1;show b≠wq.heap.size;omega) v8;show World.ownsRow _ _ _ _ (.slice ra kk rc) (zx (z7 A x kk)).length _;rw[KD];rw[fV] at g3;exact g3
        ·show _=_;rw[bm,BC.out,Ul.out]
         congr 1
         show [(⟨(i0:Int)+1,(xn:Int) - 1,zx (z7 A x kk)⟩ : Cl)]=[xy A i0 x]
         unfold xy;rw[iU,wA.out]
        ·have iY:Below wq.heap.size wq (w6.setCell ⟨wo.heap.size,2,none⟩ r):=(aF.trans (cQ.mono aF.size)).setCell (show wq.heap.size<=wo.heap.size from aF.size) _;exact(iY.grown h2 (by rw[zP];omega) (fun b e=>by have:=GN b e;omega)).setCell (nlr _) _
       have bI:=lhd fin;clear fin iU;by_cases nC:kk < xn
       ·have DC:=ue nC;go_wp2_with fail;refine(q8w _ (z7 A x kk) _ ou.out aW).mono ?_;rintro e w6 ⟨r,rfl,cV,dR⟩;obtain⟨zQ,zR,zS⟩:=qj cV;subst zS;rw[iD] at cV ⊢;obtain⟨t0,t1,t2,tf,tb,Uy,fin⟩:=bI.out _ w6 cV dR;have aU:=lhd fin;have GO:=lhd (show (w6.setCell ⟨wo.heap.size,2,none⟩ (.slice zQ kk zR)).heap.size=w6.heap.size by simp[World.setCell]);have rH:=lhd (fin.1);have oX:V2.heap.size<=w6.heap.size:=fin.2.1;clear cV dR fin;go_wp2_with (at_builtin;go_loud (refine qo (W:=w6.setCell ⟨wo.heap.size,2,none⟩ (.slice zQ kk zR)) rfl _ _ 24 rfl V2.heap.size 75 Tryz.ke Tryz.underlying24 rfl (by decide) (by decide) _ _ _ rfl rH.out [.int .i64 ((i0:Int)+1),.int .i64 ((xn:Int) - 1),.slice zQ kk zR] (by rw[GO.out];rfl) rfl (fun u hu=>by simp at hu;rcases hu with rfl | rfl | rfl <;> rfl) (by omega) (Below.refl _ _) (by simp[World.setCell];exact oX) ?_));intro v8 w8 iX DD _;obtain⟨y0,y1,m',ft,kE,KE,KF,KG,KH,wF⟩:=aU.out.2.2 v8 w8 iX DD;obtain⟨f4,f5,nw⟩:=qj iX;subst nw;clear iX DD;go_wp2;go_roundw
        case measure=>simp[vI];omega
        case rel=>exact⟨i0+1,m',_,qh (by omega),by omega,ft,kE,KE,KF,KG,KH,wF⟩
       ·have Uz:¬ ((kk:Int) < xn):=by omega
        go_wp2_with fail;refine(q8w _ (z7 A x kk) _ ou.out aW).mono ?_;rintro e w6 ⟨r,rfl,cV,dR⟩;obtain⟨zQ,zR,zS⟩:=qj cV;subst zS;rw[iD] at cV ⊢;obtain⟨t0,t1,t2,tf,tb,Uy,fin⟩:=bI.out _ w6 cV dR;have aU:=lhd fin;have GO:=lhd (show (w6.setCell ⟨wo.heap.size,2,none⟩ (.slice zQ kk zR)).heap.size=w6.heap.size by simp[World.setCell]);have rH:=lhd (fin.1);have oX:V2.heap.size<=w6.heap.size:=fin.2.1;clear cV dR fin;go_wp2_with (at_builtin;go_loud (refine qo (W:=w6.setCell ⟨wo.heap.size,2,none⟩ (.slice zQ kk zR)) rfl _ _ 24 rfl V2.heap.size 75 Tryz.ke Tryz.underlying24 rfl (by decide) (by decide) _ _ _ rfl rH.out [.int .i64 ((i0:Int)+1),.int .i64 ((xn:Int) - 1),.slice zQ kk zR] (by rw[GO.out];rfl) rfl (fun u hu=>by simp at hu;rcases hu with rfl | rfl | rfl <;> rfl) (by omega) (Below.refl _ _) (by simp[World.setCell];exact oX) ?_));intro v8 w8 iX DD _;obtain⟨y0,y1,m',ft,kE,KE,KF,KG,KH,wF⟩:=aU.out.2.2 v8 w8 iX DD;obtain⟨f4,f5,nw⟩:=qj iX;subst nw;clear iX DD;go_wp2;go_roundw
        case measure=>simp[vI];omega
        case rel=>exact⟨i0+1,m',_,qh (by omega),by omega,ft,kE,KE,KF,KG,KH,wF⟩
    ·have hie:i0=on:=by omega
     obtain⟨a2,dD,zT⟩:=qj HR.out;subst zT;obtain⟨r0,r1⟩:=Kz.out.q8 aF;obtain⟨p0,p1⟩:=GM.out;have U0:w.heap.size < V2.heap.size:=by have:=OQ.out;have:=aM.size;omega
     have fin:m.map Ce.cl=q0m ls/\q1p (wr.setCell ⟨w.heap.size,0,none⟩ (.slice a2 i0 dD)) w.heap.size (.slice a2 i0 dD) m/\Below w.heap.size w (wr.setCell ⟨w.heap.size,0,none⟩ (.slice a2 i0 dD)):=by
      refine⟨by rw[BC.out,OO.out,hie],q1p.mono (q1p.set (a:=⟨w.heap.size,0,none⟩) (base:=V2.heap.size) ⟨zm HR.out ff.symm,HF.out⟩ U0 _) (by omega),K6.setCell (nlr _) _⟩
     have bI:=lhd fin;clear fin hie;go_wp2_with fail;refine bodyPost_ret (v:=.agg #[.slice a2 i0 dD]) (by simp[results,Tryz.results74,go_sem,(Bv.put (w:=wr) (b:=w.heap.size) ⟨r0,r1⟩ (.slice a2 i0 dD)).1]) rfl ?_;exact⟨.slice a2 i0 dD,m,rfl,bI.out.1,bI.out.2.1,bI.out.2.2⟩
end Go.Proofs.YtlhicnfeajejhaaGreatDoor
