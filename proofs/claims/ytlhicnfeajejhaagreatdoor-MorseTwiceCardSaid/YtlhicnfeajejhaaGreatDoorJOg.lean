/- cocycleref06: Simplicial. -/
import Derived.Test.YtlhicnfeajejhaaGreatDoorJOb
import Derived.Test.YtlhicnfeajejhaaGreatDoorJOf
set_option maxRecDepth 1000000
set_option maxHeartbeats 16000000
namespace Go.Proofs.YtlhicnfeajejhaaGreatDoor
open Go.RowKit Go.Cx
attribute [local go_sem ↓] Go.wp_at_zero Go.wp_at_succ
theorem q10 {w:World} {base st n:Nat} {e:TypeId} {v:Value} {xs:List Value} (h:w.ownsRow base e st v n xs) {a:Addr} (hne:∀ b,v.ownBlock=some b->b≠a.block) (u:Value):(w.setCell a u).ownsRow base e st v n xs:=by
 obtain⟨h1,h2⟩:=h;refine⟨h1,?_⟩;rcases h2 with h2 | ⟨g,cap,cur,rfl,hg,hh,r⟩
 ·exact Or.inl h2
 ·exact Or.inr ⟨g,cap,cur,rfl,hg,by rw[Below.heap_setCell _ _ _ _ (hne g rfl)];exact hh,r⟩
theorem q3d {w:World} {a p:Addr} {u x:Value} (h:w.cell? p=some x) (hne:p≠a):(w.setCell a u).cell? p=some x:=by
 rw[World.cell?_setCell_other _ _ _ _ (fun e=>hne e.symm)];exact h
theorem SlI.ins {w:World} {v tv:Value} {ws:List Value} {A:List (List Int)} {t:List Int} {p:Nat} (hrow:Sl w 1 v (ws.take p++tv :: ws.drop p)) (hl:ws.length=A.length) (hp:p<=A.length)
  (he:∀ (i:Nat) (u:Value) (l:List Int),ws[i]? = some u->A[i]? = some l->Sl w 1 u (ints l)) (ht:Sl w 1 tv (ints t)):SlI w v (A.take p++t :: A.drop p):=by
 have h1:(ws.take p).length=p:=by rw[List.length_take];omega
 have h2:(A.take p).length=p:=by rw[List.length_take];omega
 refine⟨_,hrow,by simp[hl],fun i u l hu hl=>?_⟩;rcases Nat.lt_trichotomy i p with h | h | h
 ·rw[List.getElem?_append_left (by omega),List.getElem?_take_of_lt h] at hu hl;exact he i u l hu hl
 ·subst h;rw[List.getElem?_append_right (by omega),h1,Nat.sub_self] at hu;rw[List.getElem?_append_right (by omega),h2,Nat.sub_self] at hl;simp at hu hl;subst hu hl;exact ht
 ·rw[List.getElem?_append_right (by omega),h1,show i - p=(i - p - 1)+1 by omega,List.getElem?_cons_succ,List.getElem?_drop,show p+(i - p - 1)=i - 1 by omega] at hu;rw[List.getElem?_append_right (by omega),h2,show i - p=(i - p - 1)+1 by omega,List.getElem?_cons_succ,List.getElem?_drop,show p+(i - p - 1)=i - 1 by omega] at hl;exact he _ u l hu hl
theorem SlI.qq2 {w:World} {ws:List Value} {A:List (List Int)} (hl:ws.length=A.length) (he:∀ (i:Nat) (u:Value) (l:List Int),ws[i]? = some u->A[i]? = some l->Sl w 1 u (ints l)):∀ u∈ws,u.oneCell'=true:=fun u hu=>by
 obtain⟨i,hi,e⟩:=List.mem_iff_getElem.1 hu;have hi2:i < A.length:=by omega
 have:=he i u _ (by rw[List.getElem?_eq_getElem hi,e]) (List.getElem?_eq_getElem hi2);obtain⟨_,_,_,rfl⟩:=qg this;rfl
theorem Tryz.q06:(Tryz.prog.info? 22).map (fun i=>(i.zero,i.size,i.bytes))=some (some (.slice none 0 0),1,24):=by kernel_rfl
theorem qag (n:Int):bits .and .i64 n 1=n % 2:=by
 have h1:(BitVec.ofInt 64 1).toNat=2 ^ 1 - 1:=by decide
 have key:(BitVec.ofInt 64 n &&& BitVec.ofInt 64 1).toNat=(n % ((2 ^ 64:Nat):Int)).toNat % 2 ^ 1:=by
  rw[BitVec.toNat_and,BitVec.toNat_ofInt,h1,Nat.and_two_pow_sub_one_eq_mod]
 show IntKind.i64.wrap ((BitVec.ofInt 64 n &&& BitVec.ofInt 64 1).toNat:Nat)=n % 2;rw[key,IntKind.wrap_i64];omega
theorem qnj (b j:Nat):bits .and .i64 (((b:Int)+1) / 2 ^ j) 1=(((b+1) / 2 ^ j % 2:Nat):Int):=by
 rw[qag];simp
def q1p (w:World) (base:Nat) (v:Value) (m:List Ce):Prop:=w.ownsRow base 75 3 v m.length (cat Ce.enc m)/\∀ x∈m,w.ownsRow base 108 2 x.sl x.s.length (cat Sd.enc x.s)
theorem q1p.slc {w:World} {base:Nat} {v:Value} {m:List Ce} (h:q1p w base v m):SlC w v m:=⟨Sl.qc h.1,fun x hx=>Sl.qc (h.2 x hx)⟩
theorem q1p.set {w:World} {base:Nat} {v:Value} {m:List Ce} (h:q1p w base v m) {a:Addr} (ha:a.block < base) (u:Value):q1p (w.setCell a u) base v m:=⟨ownsRow_setCell_below h.1 ha u,fun x hx=>ownsRow_setCell_below (h.2 x hx) ha u⟩
theorem q1p.mono {w:World} {base base':Nat} {v:Value} {m:List Ce} (h:q1p w base v m) (hb:base'<=base):q1p w base' v m:=⟨qf h.1 hb,fun x hx=>qf (h.2 x hx) hb⟩
theorem qhr:∀ n:Nat,n<=4->wrap64 ((2:Int) ^ n)=((2 ^ n:Nat):Int)
 | 0,_=>by decide +kernel
 | 1,_=>by decide +kernel
 | 2,_=>by decide +kernel
 | 3,_=>by decide +kernel
 | 4,_=>by decide +kernel
 | n+5,h=>by omega
theorem q1e (v:Value) (ls:List (List Int)) (w:World) (h:SlI w v ls) (hn:ls.length<=12) (hs:∀ s∈ls,s.length<=4/\s.Pairwise (· < ·)/\∀ x∈s,0<=x/\x<=9223372036854775807) :
  Calls Tryz.prog 74 #[v] w fun e w'=>∃ r m,e = .returned (.agg #[r])/\m.map Ce.cl=q0m ls/\q1p w' w.heap.size r m/\Below w.heap.size w w':=by
 obtain⟨vs,hv,hvl,hel⟩:=h;obtain⟨a,len,cap,rfl,h1,h2,h3,h4,h5⟩:=hv;unfold maxLen at h2;rw[Nat.mul_one] at h3;have hll:ls.length=len:=by omega
 rw[hll] at hn;have H3:=lhd h3;clear h3;have HL:=lhd hll;clear hll;have H4:=lhd h4;clear h4;have H5:=lhd h5;clear h5;have HE:=lhd hel;clear hel;have HS:=lhd hs;clear hs;have key:∀ (i:Nat),i < len->∃ s va vn vc,ls[i]? = some s/\vs[i]? = some (.slice va vn vc)/\Sl w 1 (.slice va vn vc) (ints s):=fun i hi=>by
  obtain⟨u,hu⟩ : ∃ u,vs[i]? = some u:=⟨_,List.getElem?_eq_getElem (by rw[H3.out];exact hi)⟩
  obtain⟨l,hl⟩ : ∃ l,ls[i]? = some l:=⟨_,List.getElem?_eq_getElem (by rw[HL.out];exact hi)⟩
  have h1:=HE.out i u l hu hl;obtain⟨va,vn,vc,rfl⟩:=qg h1;exact⟨l,va,vn,vc,hl,hu,h1⟩
 have KEY:=lhd key;clear key;go_enter Tryz.func74,Tryz.ntmps74;go_wp2;obtain⟨W,hW⟩ : ∃ W:World,W=w.alloc (.cells #[.slice none 0 0] 26):=⟨_,rfl⟩
 rw[<-hW];have b0:Bv W w.heap.size (.slice none 0 0):=by rw[hW];exact Bv.new w _ _
 have hw:Below w.heap.size w W:=by rw[hW];exact(Below.refl _ _).alloc (nlr _) _
 have hz:W.heap.size=w.heap.size+1:=by rw[hW];simp
 have HB0:=lhd b0;have HZ:=lhd hz;clear hW b0 hz;go_loopw [3,4] (fun o i wr=>∃ k:Nat,i = .int .i64 k/\k<=len/\Hid (SlI wr o (kg (ls.take k)))/\Below W.heap.size W wr) (fun _ i _=>len - (vI i).toNat)
 case atStart=>exact⟨0,rfl,Nat.zero_le _,(show Hid _ from SlI.nil _),Below.refl _ _⟩
 case round =>
  obtain⟨k,rfl,hk,HA,hB⟩:=hrel;have hBw:Below w.heap.size w wr:=hw.trans (hB.mono hw.size);by_cases hlt:k < len
  ·obtain⟨ad,rfl⟩ : ∃ ad,a=some ad:=by
    cases a with
    | none=>have:=H4.out rfl;omega
    | some ad=>exact⟨ad,rfl⟩
   obtain⟨s,va,vn,vc,hls,hvs,hsl⟩:=KEY.out k hlt;have d0:wr.cell? (ad.add k)=some (.slice va vn vc):=Cx.q8 hBw (H5.out ad rfl k _ hvs);obtain⟨s1,s2,s3⟩:=HS.out s (List.mem_of_getElem? hls);have htk:kg (ls.take (k+1))=kt s (kg (ls.take k)) (2 ^ s.length - 1):=by rw[List.take_add_one,hls];exact qfc _ _
   have hAl:(kg (ls.take k)).length<=k*15:=by
    have:=q3v (ls.take k) (fun s hs=>(HS.out s (List.mem_of_mem_take hs)).1);rw[List.length_take] at this;omega
   have HTK:=lhd htk;have HSL:=lhd (hsl.q8 hBw);have HS2:=lhd s2;have HS3:=lhd s3;obtain⟨A0,hA0⟩ : ∃ A,A=kg (ls.take k):=⟨_,rfl⟩
   rw[<-hA0] at HA HTK hAl;have HA0:=lhd hA0;clear htk hvs hls hsl s2 s3 hA0;obtain⟨wo,hwo⟩ : ∃ wo:World,wo=wr:=⟨_,rfl⟩
   subst hwo;go_wp2_with fail;refine(qp2 _ s _ HSL.out HS2.out HS3.out (by omega)).mono ?_;rintro e w1 ⟨r,rfl,hr,hb1⟩;have hB1:Below wo.heap.size wo w1:=hb1;have HA1:=lhd (HA.out.q8 hb1);obtain⟨ra,rc,hre⟩:=qj hr;subst hre;obtain⟨n,hnn⟩ : ∃ n,n=s.length:=⟨_,rfl⟩
   have HRS:=lhd (Sl.qc hr);rw[<-hnn] at HRS HTK s1 ⊢;have HN:=lhd hnn;obtain⟨N,hN⟩ : ∃ N,N=2 ^ n:=⟨_,rfl⟩
   have hp16:N<=16/\1<=N:=by rw[hN];exact⟨Nat.pow_le_pow_right (n:=2) (by decide) s1,Nat.one_le_two_pow⟩
   have hw64:wrap64 ((2:Int) ^ n)=(N:Int):=by rw[hN];exact qhr n s1
   rw[<-hN] at HTK;have HN2:=lhd hN;clear hb1 hr d0 HSL hnn hN;go_wp2;go_loopw [3,7] (fun o i wr=>∃ b:Nat,i = .int .i64 ((b:Int)+1)/\b<=N - 1/\Hid (SlI wr o (kt s A0 b))/\Below w1.heap.size w1 wr) (fun _ i _=>N - (vI i).toNat)
   case atStart=>exact⟨0,rfl,Nat.zero_le _,(show Hid _ from HA1.out),Below.refl _ _⟩
   case round =>
    obtain⟨b,rfl,hb,HAb,hB2⟩:=hrel;by_cases hbl:(b:Int)+1 < N
    ·have hBb:Below w.heap.size w wr:=hBw.trans ((hB1.trans (hB2.mono hB1.size)).mono hBw.size);obtain⟨wm,hwm⟩ : ∃ wm:World,wm=wr:=⟨_,rfl⟩
     subst hwm;go_wp2_with fail;rw[hw64];go_loopw [8,9] (fun o i wr=>∃ j:Nat,i = .int .i64 j/\j<=n/\Hid (wr.ownsRow wm.heap.size 3 1 o (j7 (s.take j) (b+1)).length (ints (j7 (s.take j) (b+1))))/\Below wm.heap.size wm wr) (fun _ i _=>n - (vI i).toNat)
     case atStart=>exact⟨0,rfl,Nat.zero_le _,(show Hid _ from World.ownsRow_nil _ _ _ _),Below.refl _ _⟩
     case round =>
      obtain⟨j,rfl,hj,HT,hB3⟩:=hrel;by_cases hjn:j < n
      ·obtain⟨h2,h3,h4,h5,h6⟩:=HRS.out.open;obtain⟨rd,rfl⟩ : ∃ ad,ra=some ad:=by
        cases ra with
        | none=>have:=h5 rfl;omega
        | some ad=>exact⟨ad,rfl⟩
       obtain⟨y,hy⟩ : ∃ y,s[j]? = some y:=⟨_,List.getElem?_eq_getElem (by rw[<-HN.out];exact hjn)⟩
       have c0:wr.cell? (rd.add j)=some (.int .i64 y):=Cx.q8 ((hB2.trans (hB3.mono hB2.size))) (h6 rd rfl j _ (by simp[ints,hy]));have hsn:j7 (s.take (j+1)) (b+1)=j7 (s.take j) (b+1)++(if (b+1) / 2 ^ j % 2=1 then [y] else []):=by
        rw[List.take_add_one,hy];have:=q7r (s.take j) y (b+1);rw[List.length_take,<-HN.out,Nat.min_eq_left (by omega)] at this;exact this
       have HSN:=lhd hsn;clear h2 h3 h4 h5 h6 hy hsn;have hbit:=qnj b j;have hwm:wm.heap.size<=wr.heap.size:=hB3.size;have hsl4:=qae (s.take j) (b+1);rw[List.length_take] at hsl4;by_cases hc:(b+1) / 2 ^ j % 2=1
       ·rw[hc] at hbit;rw[if_pos hc] at HSN;clear hc;go_wp2_with (at_builtin;refine qo (W:=wm) rfl _ _ 22 rfl wm.heap.size 3 Tryz.xg Tryz.underlying22 rfl (by decide) (by decide) _ _ _ rfl HT.out [.int .i64 y] rfl rfl (q5v _) ?sa1 hB3 ?sa2 ?_)
        case sa1=>omega
        case sa2=>exact hwm
        intro v5 w5 hr5 _ hB5;have F5:=lhd (aiq hr5 hB5);clear hr5 hB5;go_wp2;go_roundw
        case measure=>simp[vI];omega
        case rel =>
         refine⟨j+1,qh (by omega),by omega,(show Hid _ from ?_),F5.out.2⟩;rw[HSN.out,j3,List.length_append];exact F5.out.1
       ·have hc0:(b+1) / 2 ^ j % 2=0:=by omega
        rw[hc0] at hbit;rw[if_neg hc,List.append_nil] at HSN;clear hc hc0;go_wp2;go_roundw
        case measure=>simp[vI];omega
        case rel=>exact⟨j+1,qh (by omega),by omega,(show Hid _ from by rw[HSN.out];exact HT.out),hB3⟩
      ·have hjn':j=n:=by omega
       have htl:s.take j=s:=List.take_of_length_le (by rw[<-HN.out];omega);rw[htl] at HT;obtain⟨t,ht⟩ : ∃ t,t=j7 s (b+1):=⟨_,rfl⟩
       rw[<-ht] at HT;have HTT:=lhd ht;clear hjn' htl ht;obtain⟨ta,tc,hte⟩:=qj HT.out;subst hte;have hAbl:=q67 s A0 b;have hbN:b<=16:=by omega
       have HAw:=lhd (HAb.out.q8 hB3);have HTs:=lhd (Sl.qc HT.out);obtain⟨A,hA⟩ : ∃ A,A=kt s A0 b:=⟨_,rfl⟩
       rw[<-hA] at HAw hAbl;have hAn:A.length<=1099511627776:=by omega
       have hnext:kt s A0 (b+1)=q24 A t:=by rw[q2o,<-hA,<-HTT.out]
       have HNX:=lhd hnext;have HAA:=lhd hA;clear hnext hA;go_wp2_with fail;refine(qdx _ _ A t _ HAw.out HTs.out hAn).mono ?_;rintro e w6 ⟨rfl,hb6⟩;obtain⟨p,hp⟩ : ∃ p,p=plc A t:=⟨_,rfl⟩
       obtain⟨q,hq⟩ : ∃ q,q=q34 A t:=⟨_,rfl⟩
       rw[<-hp,<-hq];have hpl:p<=A.length:=by rw[hp];exact q8u A t
       have hB6:Below wm.heap.size wm w6:=hB3.trans (hb6.mono hB3.size);have HA6:=lhd (HAw.out.q8 hb6);have HT6:=lhd (HTs.out.q8 hb6);have HPQ:=lhd (aiq hp hq);clear hp hq hb6;cases q with
       | true =>
        have hin:q24 A t=A:=by unfold q24;rw[<-HPQ.out.2];rfl
        have HIN:=lhd hin;clear hin;go_wp2;go_roundw
        case measure=>simp[vI];omega
        case rel=>exact⟨b+1,qh (by omega),by omega,(show Hid _ from by rw[HNX.out,HIN.out];exact HA6.out),hB2.trans (hB6.mono hB2.size)⟩
       | false =>
        have hin:q24 A t=A.take p++t :: A.drop p:=by unfold q24;rw[<-HPQ.out.2,<-HPQ.out.1];rfl
        have HIN:=lhd hin;clear hin;obtain⟨ws,hws,hwl,hwe⟩:=HA6.out;have hone:=SlI.qq2 hwl hwe;obtain⟨oa,on,oc,hoe,g1,g2,g3,g4,g5⟩:=hws;subst hoe;have hon:on=A.length:=by omega
        have hws2:Sl w6 1 (.slice oa on oc) ws:=⟨oa,on,oc,rfl,g1,g2,g3,g4,g5⟩
        have HWS:=lhd (aiq hws2 (aiq hwl (aiq hwe hone)));have HON:=lhd hon;have hpn:p<=on:=by omega
        have hpc:p<=oc:=by omega
        have honl:on<=1099511627776:=by omega
        unfold maxLen at g2;have G4:=lhd g4;have hw6:wm.heap.size<=w6.heap.size:=hB6.size;have fin:∀ (u:Value) (w':World),w'.ownsRow w6.heap.size 22 1 u (p+(1+(on - p))) (ws.take p++([Value.slice ta t.length tc]++ws.drop p))->Below w6.heap.size w6 w'->SlI w' u (kt s A0 (b+1))/\Below w1.heap.size w1 w':=fun u w' h1 h2=>by
         refine⟨?_,hB2.trans ((hB6.trans (h2.mono hw6)).mono hB2.size)⟩;rw[HNX.out,HIN.out];exact SlI.ins (Sl.qc h1) HWS.out.2.1 (by omega) (fun i u l hu hl=>(HWS.out.2.2.1 i u l hu hl).q8 h2) (HT6.out.q8 h2)
        have FIN:=lhd fin;have hdl:(ws.drop p).length=(on - p)*1:=by rw[List.length_drop];omega
        have htl:(ws.take p).length=p*1:=by rw[List.length_take];omega
        have HDL:=lhd (aiq hdl htl);clear hws2 hwl hwe hone g3 g4 g5 fin hdl htl hon;cases oa with
        | none =>
         have hoc:oc=0:=G4.out rfl;subst hoc;obtain rfl:p=0:=by omega
         obtain rfl:on=0:=by omega
         have hs7:Sl (w6.alloc (.cells #[.slice ta t.length tc] 22)) 1 (.slice none 0 0) (ws.drop 0):=(HWS.out.1).alloc _;go_wp2_with (at_builtin;refine qm (W:=w6) rfl _ _ 95 rfl w6.heap.size 22 Tryz.q06 Tryz.underlying95 rfl (by decide) (by decide) _ _ _ rfl (vq w6 22 1 1 [.slice ta t.length tc] rfl (by unfold maxLen;omega)) _ (0 - 0) (ws.drop 0) rfl hs7 HDL.out.1 (fun u hu=>HWS.out.2.2.2 u (List.mem_of_mem_drop hu)) ?ran ((Below.refl _ w6).alloc (nlr _) _) ?rbn ?_)
         case ran=>omega
         case rbn=>simp
         intro v7 w7 hr7 _ hB7;have hz7:w6.heap.size<=w7.heap.size:=hB7.size;have R7:=lhd hr7;have hs8:Sl (w7.alloc (.cells #[] 22)) 1 (.slice none 0 0) (ws.take 0):=by
          have:=((HWS.out.1.q8 hB7).alloc (.cells #[] 22)).take (k:=0) hpn;simpa using this
         have HB7:=lhd hB7;clear hr7 hB7;go_wp2_with (at_builtin;refine qm (W:=w7) rfl _ _ 95 rfl w7.heap.size 22 Tryz.q06 Tryz.underlying95 rfl (by decide) (by decide) _ _ _ rfl (zj w7 22 1) _ 0 (ws.take 0) rfl hs8 HDL.out.2 (fun u hu=>HWS.out.2.2.2 u (List.mem_of_mem_take hu)) ?rcn ((Below.refl _ w7).alloc (nlr _) _) ?rdn ?_)
         case rcn=>omega
         case rdn=>simp
         intro v8 w8 hr8 _ hB8;have hs9:Sl w8 1 v7 ([Value.slice ta t.length tc]++ws.drop 0):=Sl.qc (qa R7.out hB8);go_wp2_with (at_builtin;refine qm (W:=w7) rfl _ _ 95 rfl w7.heap.size 22 Tryz.q06 Tryz.underlying95 rfl (by decide) (by decide) _ _ _ rfl hr8 _ (1+(0 - 0)) ([Value.slice ta t.length tc]++ws.drop 0) rfl hs9 ?ren ?rfn ?rgn hB8 ?rhn ?_)
         case ren=>rw[List.length_append,HDL.out.1];show 1+_=_;omega
         case rfn=>exact fun u hu=>(List.mem_append.1 hu).elim (fun h=>by simp at h;subst h;rfl) (fun h=>HWS.out.2.2.2 u (List.mem_of_mem_drop h))
         case rgn=>omega
         case rhn=>exact hB8.size
         intro v9 w9 hr9 _ hB9;have F9:=lhd (FIN.out v9 w9 (qf (zm hr9 (by omega)) hz7) (HB7.out.trans (hB9.mono hz7)));clear hr8 hB8 hr9 hB9 hs7 hs8 hs9;go_wp2;go_roundw
         case measure=>simp[vI];omega
         case rel=>exact⟨b+1,qh (by omega),by omega,(show Hid _ from F9.out.1),F9.out.2⟩
        | some od =>
         have hpi:(p:Int)<=oc:=by omega
         have hpo:(p:Int)<=on:=by omega
         by_cases hcp:oc=p
         ·subst hcp;have hs7:Sl (w6.alloc (.cells #[.slice ta t.length tc] 22)) 1 (.slice (some od) 0 0) (ws.drop oc):=by
           have hd:ws.drop oc=[]:=List.eq_nil_of_length_eq_zero (by rw[HDL.out.1];omega);rw[hd];exact Sl.empty _ _ _ _ (by unfold maxLen;omega)
          go_wp2_with (at_builtin;refine qm (W:=w6) rfl _ _ 95 rfl w6.heap.size 22 Tryz.q06 Tryz.underlying95 rfl (by decide) (by decide) _ _ _ rfl (vq w6 22 1 1 [.slice ta t.length tc] rfl (by unfold maxLen;omega)) _ (on - oc) (ws.drop oc) rfl hs7 HDL.out.1 (fun u hu=>HWS.out.2.2.2 u (List.mem_of_mem_drop hu)) ?raa ((Below.refl _ w6).alloc (nlr _) _) ?rba ?_)
          case raa=>omega
          case rba=>simp
          intro v7 w7 hr7 _ hB7;have hz7:w6.heap.size<=w7.heap.size:=hB7.size;have R7:=lhd hr7;have hs8:Sl (w7.alloc (.cells #[] 22)) 1 (.slice (some od) oc oc) (ws.take oc):=by
           have:=((HWS.out.1.q8 hB7).alloc (.cells #[] 22)).take (k:=oc) hpn;simpa using this
          have HB7:=lhd hB7;clear hr7 hB7;go_wp2_with (at_builtin;refine qm (W:=w7) rfl _ _ 95 rfl w7.heap.size 22 Tryz.q06 Tryz.underlying95 rfl (by decide) (by decide) _ _ _ rfl (zj w7 22 1) _ oc (ws.take oc) rfl hs8 HDL.out.2 (fun u hu=>HWS.out.2.2.2 u (List.mem_of_mem_take hu)) ?rca ((Below.refl _ w7).alloc (nlr _) _) ?rda ?_)
          case rca=>omega
          case rda=>simp
          intro v8 w8 hr8 _ hB8;have hs9:Sl w8 1 v7 ([Value.slice ta t.length tc]++ws.drop oc):=Sl.qc (qa R7.out hB8);go_wp2_with (at_builtin;refine qm (W:=w7) rfl _ _ 95 rfl w7.heap.size 22 Tryz.q06 Tryz.underlying95 rfl (by decide) (by decide) _ _ _ rfl hr8 _ (1+(on - oc)) ([Value.slice ta t.length tc]++ws.drop oc) rfl hs9 ?rea ?rfa ?rga hB8 ?rha ?_)
          case rea=>rw[List.length_append,HDL.out.1];show 1+_=_;omega
          case rfa=>exact fun u hu=>(List.mem_append.1 hu).elim (fun h=>by simp at h;subst h;rfl) (fun h=>HWS.out.2.2.2 u (List.mem_of_mem_drop h))
          case rga=>omega
          case rha=>exact hB8.size
          intro v9 w9 hr9 _ hB9;have F9:=lhd (FIN.out v9 w9 (qf (zm hr9 (by omega)) hz7) (HB7.out.trans (hB9.mono hz7)));clear hr8 hB8 hr9 hB9 hs7 hs8 hs9;go_wp2;go_roundw
          case measure=>simp[vI];omega
          case rel=>exact⟨b+1,qh (by omega),by omega,(show Hid _ from F9.out.1),F9.out.2⟩
         ·have hs7:Sl (w6.alloc (.cells #[.slice ta t.length tc] 22)) 1 (.slice (some (od.add p)) (on - p) (oc - p)) (ws.drop p):=by
           have:=(HWS.out.1.alloc (.cells #[.slice ta t.length tc] 22)).drop hpn;simpa using this
          go_wp2_with (at_builtin;refine qm (W:=w6) rfl _ _ 95 rfl w6.heap.size 22 Tryz.q06 Tryz.underlying95 rfl (by decide) (by decide) _ _ _ rfl (vq w6 22 1 1 [.slice ta t.length tc] rfl (by unfold maxLen;omega)) _ (on - p) (ws.drop p) rfl hs7 HDL.out.1 (fun u hu=>HWS.out.2.2.2 u (List.mem_of_mem_drop hu)) ?rab ((Below.refl _ w6).alloc (nlr _) _) ?rbb ?_)
          case rab=>omega
          case rbb=>simp
          intro v7 w7 hr7 _ hB7;have hz7:w6.heap.size<=w7.heap.size:=hB7.size;have R7:=lhd hr7;have hs8:Sl (w7.alloc (.cells #[] 22)) 1 (.slice (some od) p oc) (ws.take p):=by
           have:=((HWS.out.1.q8 hB7).alloc (.cells #[] 22)).take (k:=p) hpn;simpa using this
          have HB7:=lhd hB7;clear hr7 hB7;go_wp2_with (at_builtin;refine qm (W:=w7) rfl _ _ 95 rfl w7.heap.size 22 Tryz.q06 Tryz.underlying95 rfl (by decide) (by decide) _ _ _ rfl (zj w7 22 1) _ p (ws.take p) rfl hs8 HDL.out.2 (fun u hu=>HWS.out.2.2.2 u (List.mem_of_mem_take hu)) ?rcb ((Below.refl _ w7).alloc (nlr _) _) ?rdb ?_)
          case rcb=>omega
          case rdb=>simp
          intro v8 w8 hr8 _ hB8;have hs9:Sl w8 1 v7 ([Value.slice ta t.length tc]++ws.drop p):=Sl.qc (qa R7.out hB8);go_wp2_with (at_builtin;refine qm (W:=w7) rfl _ _ 95 rfl w7.heap.size 22 Tryz.q06 Tryz.underlying95 rfl (by decide) (by decide) _ _ _ rfl hr8 _ (1+(on - p)) ([Value.slice ta t.length tc]++ws.drop p) rfl hs9 ?reb ?rfb ?rgb hB8 ?rhb ?_)
          case reb=>rw[List.length_append,HDL.out.1];show 1+_=_;omega
          case rfb=>exact fun u hu=>(List.mem_append.1 hu).elim (fun h=>by simp at h;subst h;rfl) (fun h=>HWS.out.2.2.2 u (List.mem_of_mem_drop h))
          case rgb=>omega
          case rhb=>exact hB8.size
          intro v9 w9 hr9 _ hB9;have F9:=lhd (FIN.out v9 w9 (qf (zm hr9 (by omega)) hz7) (HB7.out.trans (hB9.mono hz7)));clear hr8 hB8 hr9 hB9 hs7 hs8 hs9;go_wp2;go_roundw
          case measure=>simp[vI];omega
          case rel=>exact⟨b+1,qh (by omega),by omega,(show Hid _ from F9.out.1),F9.out.2⟩
    ·have hbN:b=N - 1:=by omega
     have hfin:SlI wr u3 (kg (ls.take (k+1))):=by rw[HTK.out,<-hbN];exact HAb.out
     have hAbl:=q67 s A0 b;obtain⟨ws,hws,hwl,_⟩:=HAb.out;obtain⟨oa,on,oc,hoe,_,_,g3,_,_⟩:=hws;subst hoe;have hon:on<=4000:=by omega
     have hon':(on:Int)<=4000:=by omega
     have HFN:=lhd hfin;have hBb:Below W.heap.size W wr:=hB.trans ((hB1.trans (hB2.mono hB1.size)).mono hB.size);clear hfin g3 hwl hAbl hbN hon;go_wp2;go_roundw
     case measure=>simp[vI];omega
     case rel=>exact⟨k+1,qh (by omega),by omega,HFN,hBb⟩
  ·have hkl:k=len:=by omega
   have hmt:ls.take k=ls:=List.take_of_length_le (by rw[HL.out];omega);rw[hmt] at HA;have hAl0:=q3v ls (fun s hs=>(HS.out s hs).1);have hAok:=q8x ls (fun s hs=>(HS.out s hs).1);rw[HL.out] at hAl0;obtain⟨A,hA⟩ : ∃ A,A=kg ls:=⟨_,rfl⟩
   have HSK:=lhd (show q0m ls=xf A A.length by unfold q0m;rw[hA]);rw[<-hA] at HA hAl0 hAok;have hAl:A.length<=180:=by omega
   obtain⟨ws,hws,hwl,hwe⟩:=HA.out;obtain⟨oa,on,oc,hoe,g1,g2,g3,g4,g5⟩:=hws;subst hoe;unfold maxLen at g2;have hon:on=A.length:=by omega
   have HON:=lhd hon;have HOK:=lhd hAok;have HWE:=lhd (aiq hwl hwe);have G4:=lhd g4;have G5:=lhd g5;have hon180:on<=180:=by omega
   rw[<-HON.out] at HSK;have hb0:=(HB0.out.below hB (by have:=HZ.out;omega))
   have HBR:=lhd hb0;clear hkl hmt hAl0 hAok hA hAl hwl hwe g3 g4 g5 hb0 hon;obtain⟨wq,hwq⟩ : ∃ wq:World,wq=wr:=⟨_,rfl⟩
   subst hwq;go_wp2;obtain⟨V2,hV2⟩ : ∃ V:World,V=wq.alloc (.cells #[.slice none 0 0] 26):=⟨_,rfl⟩
   rw[<-hV2];have hb13:Bv V2 wq.heap.size (.slice none 0 0):=by rw[hV2];exact Bv.new _ _ _
   have hBV:Below wq.heap.size wq V2:=by rw[hV2];exact(Below.refl _ _).alloc (nlr _) _
   have hV2z:V2.heap.size=wq.heap.size+1:=by rw[hV2];simp
   have HVZ:=lhd hV2z;clear hV2 hV2z;go_loopw [14] (fun i wr=>∃ (i0:Nat) (m:List Ce) (u:Value),i = .int .i64 i0/\i0<=on/\m.length=i0/\Hid (wr.ownsRow V2.heap.size 75 3 u i0 (cat Ce.enc m))/\Hid (∀ x∈m,wr.ownsRow V2.heap.size 108 2 x.sl x.s.length (cat Sd.enc x.s))/\Hid (m.map Ce.cl=xf A i0)/\Hid (Bv wr wq.heap.size u)/\Below wq.heap.size wq wr/\V2.heap.size<=wr.heap.size) (fun i _=>on - (vI i).toNat)
   case atStart=>exact⟨0,[],_,rfl,Nat.zero_le _,rfl,(show Hid _ from World.ownsRow_nil _ _ _ _),(show Hid _ from fun x hx=>by simp at hx),(show Hid _ from rfl),(show Hid _ from hb13),hBV,nlr _⟩
   case round =>
    obtain⟨i0,m,u,rfl,hi,hml,HR,HF,HE2,HBU,hB4,hz4⟩:=hrel;have hBw4:Below w.heap.size w wr:=hBw.trans (hB4.mono hBw.size);by_cases hlt2:i0 < on
    ·obtain⟨od,hod⟩ : ∃ ad,oa=some ad:=by
      cases oa with
      | none=>have:=G4.out rfl;omega
      | some ad=>exact⟨ad,rfl⟩
     subst hod;obtain⟨tv,htv⟩ : ∃ tv,ws[i0]? = some tv:=⟨_,List.getElem?_eq_getElem (by rw[HWE.out.1,<-HON.out];exact hlt2)⟩
     obtain⟨x,hx⟩ : ∃ x,A[i0]? = some x:=⟨_,List.getElem?_eq_getElem (by rw[<-HON.out];exact hlt2)⟩
     have hxs:=HWE.out.2 i0 tv x htv hx;obtain⟨xa,xn,xc,hxe⟩:=qg hxs;subst hxe;have hx4:=HOK.out x (List.mem_of_getElem? hx);obtain⟨q1,q2,q3,q4,q5⟩:=hxs.open;rw[xl,Nat.mul_one] at q3;unfold maxLen at q2;rw[q3] at hx4;have hcel:xf A (i0+1)=xf A i0++[xy A i0 x]:=by rw[q4o,List.getD_eq_getElem?_getD,hx];rfl
     have HCE:=lhd hcel;have HX3:=lhd q3;have HX4:=lhd q4;have HX5:=lhd q5;have HXS:=lhd hxs;have HTV:=lhd (G5.out od rfl i0 _ htv);have c0:wr.cell? (od.add i0)=some (.slice xa xn xc):=Cx.q8 hB4 HTV.out;obtain⟨wo,hwo⟩ : ∃ wo:World,wo=wr:=⟨_,rfl⟩
     subst hwo;clear htv hx hxs q3 q4 q5 hcel;go_wp2;obtain⟨V3,hV3⟩ : ∃ V:World,V=wo.alloc (.cells #[.int .i64 ((i0:Int)+1),.int .i64 ((xn:Int) - 1),.slice none 0 0] 75):=⟨_,rfl⟩
     rw[<-hV3];have v0:V3.cell? ⟨wo.heap.size,0,none⟩=some (.int .i64 ((i0:Int)+1)):=by rw[hV3];exact qd wo #[.int .i64 ((i0:Int)+1),.int .i64 ((xn:Int) - 1),.slice none 0 0] 75 (0,0) 0
     have v1:V3.cell? ⟨wo.heap.size,1,none⟩=some (.int .i64 ((xn:Int) - 1)):=by rw[hV3];exact qd wo #[.int .i64 ((i0:Int)+1),.int .i64 ((xn:Int) - 1),.slice none 0 0] 75 (0,0) 1
     have v2:V3.cell? ⟨wo.heap.size,2,none⟩=some (.slice none 0 0):=by rw[hV3];exact qd wo #[.int .i64 ((i0:Int)+1),.int .i64 ((xn:Int) - 1),.slice none 0 0] 75 (0,0) 2
     have vf:V3.frozen? ⟨wo.heap.size,2,none⟩=false:=by rw[hV3];exact jz (heap_alloc_new wo _) 2
     have hBV3:Below wo.heap.size wo V3:=by rw[hV3];exact(Below.refl _ wo).alloc (nlr _) _
     have HV3:=lhd (show V3.heap.size=wo.heap.size+1 by rw[hV3];simp);clear hV3;go_loopw [16] (fun i wr=>∃ (k:Nat) (sv:Value),i = .int .i64 k/\k<=xn/\(0 < k->1 < xn)/\Hid (wr.ownsRow (wo.heap.size+1) 108 2 sv k (cat Sd.enc (z7 A x k))) ∧
      wr.cell? ⟨wo.heap.size,0,none⟩=some (.int .i64 ((i0:Int)+1))/\wr.cell? ⟨wo.heap.size,1,none⟩=some (.int .i64 ((xn:Int) - 1))/\wr.cell? ⟨wo.heap.size,2,none⟩=some sv/\wr.frozen? ⟨wo.heap.size,2,none⟩=false/\Below wo.heap.size wo wr/\Hid (wo.heap.size+1<=wr.heap.size)) (fun i _=>xn - (vI i).toNat)
     case atStart=>exact⟨0,_,rfl,Nat.zero_le _,by omega,(show Hid _ from World.ownsRow_nil _ _ _ _),v0,v1,v2,vf,hBV3,(show Hid _ from by show wo.heap.size+1<=V3.heap.size;have:=HV3.out;omega)⟩
     case round =>
      clear v0 v1 v2 vf c0;obtain⟨kk,sv,rfl,hkk,hk1,HSV,c0,c1,c2,cf,hBi,HZI⟩:=hrel;have hBo:Below wq.heap.size wq wr:=hB4.trans (hBi.mono hB4.size);have d0:wr.cell? (od.add i0)=some (.slice xa xn xc):=Cx.q8 hBo HTV.out;by_cases hgo:kk < xn/\1 < xn
      ·obtain⟨hkx,hx1⟩:=hgo;have hx1':(0:Int) < (xn:Int) - 1:=by omega
       obtain⟨xd,hxd⟩ : ∃ ad,xa=some ad:=by
        cases xa with
        | none=>have:=HX4.out rfl;omega
        | some ad=>exact⟨ad,rfl⟩
       subst hxd;have hkc:(kk:Int)<=xc:=by omega
       have hkc1:(kk:Int)+1<=xc:=by omega
       have hkc2:(kk:Int)+1<=xn:=by omega
       have hk0:(0:Int)<=(kk:Int)+1:=by omega
       have hwr1:IntKind.i64.wrap ((kk:Int)+1)=(kk:Int)+1:=IntWalk.i64_in _ (by omega);have hXw:Sl wr 1 (.slice (some xd) xn xc) (ints x):=HXS.out.q8 hBo;have HXW:=lhd hXw;have hlx:(ints x).length=xn:=by rw[xl];exact HX3.out
       have htk:((ints x).take kk).length=kk*1:=by rw[List.length_take,hlx];omega
       have hdr:((ints x).drop (kk+1)).length=(xn - (kk+1))*1:=by rw[List.length_drop,hlx];omega
       have HLN:=lhd (aiq htk hdr);have hone:∀ u∈ints x,u.oneCell'=true:=q65 x;have HONE:=lhd hone;have hS1:∀ (w':World),Below wr.heap.size wr w'->Sl w' 1 (.slice (some xd) kk xc) ((ints x).take kk):=fun w' hb=>by
        have:=(HXW.out.q8 hb).take (k:=kk) (by omega);simpa using this
       have hS2:∀ (w':World) (p:Prop) [Decidable p],(p↔xc=kk+1)->Below wr.heap.size wr w'->Sl w' 1 (.slice (if p then some xd else some (xd.add (kk+1))) (xn - (kk+1)) (xc - (kk+1))) ((ints x).drop (kk+1)):=fun w' p _ hp hb=>by
        split
        ·rename_i hpp;have:=hp.1 hpp;have hd:(ints x).drop (kk+1)=[]:=List.eq_nil_of_length_eq_zero (by rw[HLN.out.2];omega);rw[hd,show xn - (kk+1)=0 by omega];exact Sl.empty _ _ _ _ (by unfold maxLen;omega)
        ·have:=(HXW.out.q8 hb).drop (k:=kk+1) (by omega);simpa using this
       have HS1:=lhd hS1;have HS2:=lhd hS2;clear hXw hlx htk hdr hone hS1 hS2;have hal:Below wr.heap.size wr ((wr.alloc (.cells #[] 3)).drew):=qb ((Below.refl _ wr).alloc (nlr _) _) 1;have HAL:=lhd hal;clear hal;go_wp2_with fail
       go_region_held3 (fun w'=>w'.cell? (od.add i0)=some (.slice (some xd) xn xc))
        (first | assumption | exact qk (by assumption) _ | fail)
        (first
         |(refine ju ((wr.alloc (.cells #[] 3)).drew) rfl _ _ 22 rfl wr.heap.size 3 Tryz.xg Tryz.underlying22 rfl (by decide) (by decide) _ 0 [] rfl (vq wr.drew 3 1 0 [] rfl (by unfold maxLen;omega)) _ kk ((ints x).take kk) rfl (by simp[Act.eval];exact HS1.out _ HAL.out) HLN.out.1 (fun u hu=>HONE.out u (List.mem_of_mem_take hu)) (by omega) (by show wr.heap.size<=(wr.alloc (.cells #[] 3)).heap.size;simp) ?_;intro r1 w2 hr1 hb1x;have hBr:Below wr.heap.size wr w2:=HAL.out.trans hb1x;have y0:=Cx.q8 hBr d0;have R1:=lhd (aiq hr1 hBr);clear hr1 hb1x hBr)
         |(go_must (refine ju w2 rfl _ _ 22 rfl wr.heap.size 3 Tryz.xg Tryz.underlying22 rfl (by decide) (by decide) r1 (0+kk) ([]++(ints x).take kk) rfl R1.out.1 _ (xn - (kk+1)) ((ints x).drop (kk+1)) rfl (by simp[Act.eval];exact HS2.out _ _ Iff.rfl R1.out.2) HLN.out.2 (fun u hu=>HONE.out u (List.mem_of_mem_drop hu)) (by omega) R1.out.2.size ?_;intro r2 w3 hr2 hb2x;have hBr2:Below wr.heap.size wr w3:=R1.out.2.trans hb2x;have y1:=Cx.q8 hBr2 d0;have R2:=lhd (aiq hr2 hBr2);clear hr2 hb2x hBr2)))
       all_goals
        generalize (if xc=kk+1 then some xd else some (⟨xd.block,xd.off+(kk+1),none⟩ : Addr))=s130;have hBo3:Below wo.heap.size wo w3:=hBi.trans (R2.out.2.mono hBi.size);have hAw:SlI w3 (.slice (some od) on oc) A:=HA.out.q8 (hB4.trans (hBo3.mono hB4.size));have HAw:=lhd hAw;have hyw:Sl w3 1 r2 (ints (x.take kk++x.drop (kk+1))):=by
         have:=Sl.qc R2.out.1;rw[j3,show ints (x.take kk)=(ints x).take kk from q49 _ _,show ints (x.drop (kk+1))=(ints x).drop (kk+1) by simp[ints,List.map_drop]];exact this
        have HYW:=lhd hyw;have hAn:A.length<=1099511627776:=by rw[<-HON.out];omega
        have s0:=Cx.q8 R2.out.2 c0;have s1:=Cx.q8 R2.out.2 c1;have s2:=Cx.q8 R2.out.2 c2;have sf:w3.frozen? ⟨wo.heap.size,2,none⟩=false:=qv R2.out.2 (World.block_lt_of_cell? wr _ c2) cf;have HSV3:=lhd (qa HSV.out R2.out.2);have hz3:wo.heap.size+1<=w3.heap.size:=Nat.le_trans HZI.out R2.out.2.size;clear hAw hyw c0 c1 c2 cf y0 y1 d0;go_wp2_with fail;refine(qdx _ _ A (x.take kk++x.drop (kk+1)) _ HAw.out HYW.out hAn).mono ?_;rintro e w4 ⟨rfl,hb4⟩;obtain⟨pp,hpp⟩ : ∃ p,p=plc A (x.take kk++x.drop (kk+1)):=⟨_,rfl⟩
        obtain⟨qq,hqq⟩ : ∃ q,q=q34 A (x.take kk++x.drop (kk+1)):=⟨_,rfl⟩
        rw[<-hpp,<-hqq];have hpl:pp<=180:=by have:=q8u A (x.take kk++x.drop (kk+1));rw[<-hpp,<-HON.out] at this;omega
        obtain⟨rr,hrr⟩ : ∃ r,r=kk % 2:=⟨_,rfl⟩
        have hrl:rr<=1:=by omega
        have hmod:(kk:Int).tmod 2=(rr:Int):=by rw[Int.tmod_eq_emod_of_nonneg (by omega),hrr];omega
        have hwp1:IntKind.i64.wrap ((pp:Int)+1)=(pp:Int)+1:=IntWalk.i64_in _ (by omega);have hwp2:IntKind.i64.wrap (2*(rr:Int))=2*(rr:Int):=IntWalk.i64_in _ (by omega);have hwp3:IntKind.i64.wrap (1 - 2*(rr:Int))=1 - 2*(rr:Int):=IntWalk.i64_in _ (by omega);have hsd:z7 A x (kk+1)=z7 A x kk++[⟨(pp:Int)+1,1 - 2*(rr:Int)⟩]:=by rw[qc3,hpp,hrr]
        have HSD:=lhd hsd;have t0:=Cx.q8 hb4 s0;have t1:=Cx.q8 hb4 s1;have t2:=Cx.q8 hb4 s2;have tf:w4.frozen? ⟨wo.heap.size,2,none⟩=false:=qv hb4 (World.block_lt_of_cell? w3 _ s2) sf;have HSV4:=lhd (qa HSV3.out hb4);have hz4':wo.heap.size+1<=w4.heap.size:=Nat.le_trans hz3 hb4.size;have HB4:=lhd (hBo3.trans (hb4.mono hBo3.size));clear hpp hqq hrr hsd s0 s1 s2 sf hb4 hBo3;go_wp2_with (at_builtin;go_loud (refine qo (W:=w4) rfl _ _ 73 rfl (wo.heap.size+1) 108 Tryz.q05 Tryz.underlying73 rfl (by decide) (by decide) _ _ _ rfl HSV4.out [.int .i64 ((pp:Int)+1),.int .i64 (1 - 2*(rr:Int))] rfl rfl (fun u hu=>by simp at hu;rcases hu with rfl | rfl <;> rfl) (by omega) (Below.refl _ _) hz4' ?_));intro v5 w5 hr5 hg5 _;have hne:∀ b,sv.ownBlock=some b->wo.heap.size≠b:=fun b e=>by have:=(HSV4.out.lt b e).1;omega
        have z0:=ql hg5 t0 hne;have z1:=ql hg5 t1 hne;have z2:=ql hg5 t2 hne;have zf:w5.frozen? ⟨wo.heap.size,2,none⟩=false:=(hg5.frozen_far ⟨wo.heap.size,2,none⟩ (World.block_lt_of_cell? w4 _ t2) (fun e=>hne _ e.symm rfl)).trans tf;have hB5:Below wo.heap.size wo w5:=HB4.out.grown hg5 (by omega) (fun b e=>by have:=(HSV4.out.lt b e).1;omega);have hz5:=hg5.size;obtain⟨f4,f5,hf4⟩:=qj hr5;subst hf4;have F5:=lhd (aiq hr5 (aiq hB5 (aiq z0 (aiq z1 hz5))));clear hr5 hg5 hB5 z0 z1 hz5 t0 t1 t2 tf hne;go_wp2;go_roundw
        case measure=>simp[vI];omega
        case rel =>
         obtain⟨hr5,hB5,z0,z1,hz5⟩:=F5.out;refine⟨kk+1,_,qh (by omega),by omega,fun _=>hx1,(show Hid _ from ?_),q3d z0 (by simp),q3d z1 (by simp),World.cell?_setCell_same' _ _ _ (by rw[z2];rfl),by simpa [World.frozen?_setCell] using zf,hB5.setCell (nlr _) _,(show Hid _ from by show _<=_;simp[World.setCell];omega)⟩;rw[HSD.out,x9,q1c];exact ownsRow_setCell_below hr5 (by show wo.heap.size < _;omega) _
      ·have hsd:z7 A x kk=z7 A x (if 1 < x.length then x.length else 0):=by
        congr 1
        rw[HX3.out];by_cases h1:1 < xn
        ·rw[if_pos h1];omega
        ·rw[if_neg h1];omega
       have hsl2:(z7 A x kk).length=kk:=by simp[z7]
       have hsl:(z7 A x kk).length<=1099511627776:=by rw[hsl2];omega
       have HSW:=lhd (Sl.qc HSV.out);have hkx:kk < xn->¬ ((0:Int) < (xn:Int) - 1):=fun _=>by omega
       have hnz:wo.heap.size<=wr.heap.size:=hBi.size;have fin:∀ (r:Value) (w6:World),w6.ownsRow wr.heap.size 108 2 r kk (cat Sd.enc (zx (z7 A x kk)))->Below wr.heap.size wr w6 →
         w6.cell? ⟨wo.heap.size,0,none⟩=some (.int .i64 ((i0:Int)+1))/\w6.cell? ⟨wo.heap.size,1,none⟩=some (.int .i64 ((xn:Int) - 1))/\w6.cell? ⟨wo.heap.size,2,none⟩=some sv/\w6.frozen? ⟨wo.heap.size,2,none⟩=false ∧
         w6.cell? ⟨wq.heap.size,0,none⟩=some u/\w6.frozen? ⟨wq.heap.size,0,none⟩=false ∧
         ((w6.setCell ⟨wo.heap.size,2,none⟩ r).ownsRow V2.heap.size 75 3 u i0 (cat Ce.enc m)/\V2.heap.size<=w6.heap.size ∧
          ∀ (v8:Value) (w8:World),w8.ownsRow V2.heap.size 75 3 v8 (i0+1) (cat Ce.enc m++[.int .i64 ((i0:Int)+1),.int .i64 ((xn:Int) - 1),r])->(w6.setCell ⟨wo.heap.size,2,none⟩ r).grownBy w8 u.ownBlock →
           w8.cell? ⟨wq.heap.size,0,none⟩=some u/\w8.frozen? ⟨wq.heap.size,0,none⟩=false/\∃ m':List Ce,m'.length=i0+1/\Hid ((w8.setCell ⟨wq.heap.size,0,none⟩ v8).ownsRow V2.heap.size 75 3 v8 (i0+1) (cat Ce.enc m')) ∧
            Hid (∀ y∈m',(w8.setCell ⟨wq.heap.size,0,none⟩ v8).ownsRow V2.heap.size 108 2 y.sl y.s.length (cat Sd.enc y.s))/\Hid (m'.map Ce.cl=xf A (i0+1))/\Hid (Bv (w8.setCell ⟨wq.heap.size,0,none⟩ v8) wq.heap.size v8)/\Below wq.heap.size wq (w8.setCell ⟨wq.heap.size,0,none⟩ v8)/\V2.heap.size<=(w8.setCell ⟨wq.heap.size,0,none⟩ v8).heap.size):=fun r w6 hr6 hb6=>by
        have hqb:wq.heap.size < V2.heap.size:=by have:=HVZ.out;omega
        have hB6:Below wo.heap.size wo w6:=hBi.trans (hb6.mono hnz);obtain⟨n0,n1⟩:=HBU.out.q8 hB6;have hub:∀ b,u.ownBlock=some b->V2.heap.size<=b/\b < wo.heap.size:=fun b e=>HR.out.lt b e
        have hR6:=qa HR.out hB6;have hR7:(w6.setCell ⟨wo.heap.size,2,none⟩ r).ownsRow V2.heap.size 75 3 u i0 (cat Ce.enc m):=q10 hR6 (fun b e=>by have:=hub b e;show b≠wo.heap.size;omega) _;have h6z:=hB6.size;have e2:=Cx.q8 hb6 c2;refine⟨Cx.q8 hb6 c0,Cx.q8 hb6 c1,e2,qv hb6 (World.block_lt_of_cell? wr _ c2) cf,n0,n1,hR7,by omega,fun v8 w8 h1 h2=>?_⟩;have p0:w8.cell? ⟨wq.heap.size,0,none⟩=some u:=ql h2 (q3d n0 (by intro e;injection e with e _;omega)) (fun b e=>by have:=hub b e;show wq.heap.size≠b;omega);have hszs:(w6.setCell ⟨wo.heap.size,2,none⟩ r).heap.size=w6.heap.size:=by simp[World.setCell]
        have p1:w8.frozen? ⟨wq.heap.size,0,none⟩=false:=(h2.frozen_far ⟨wq.heap.size,0,none⟩ (by rw[hszs];show wq.heap.size < _;omega) (fun e=>by have h9:V2.heap.size<=wq.heap.size:=(hub _ e.symm).1;omega)).trans (by simpa [World.frozen?_setCell] using n1);have h8z:=h2.size;rw[hszs] at h8z;obtain⟨ra,rc,hre⟩:=qj hr6;have hr7:(w6.setCell ⟨wo.heap.size,2,none⟩ r).ownsRow V2.heap.size 108 2 r kk (cat Sd.enc (zx (z7 A x kk))):=q10 (qf hr6 (by omega)) (fun b e=>by have:=(hr6.lt b e).1;have:=HZI.out;show b≠wo.heap.size;omega) _;have hr8:=hr7.kept h2 (q1d hr7 hR7 (by decide));have hsl3:(zx (z7 A x kk)).length=kk:=by rw[q23,hsl2]
        refine⟨p0,p1,m++[⟨(i0:Int)+1,(xn:Int) - 1,ra,kk,rc,zx (z7 A x kk)⟩],by simp[hml],?_,?_,?_,(show Hid _ from Bv.put ⟨p0,p1⟩ _),?_,by simp[World.setCell];omega⟩
        ·show World.ownsRow _ _ _ _ _ _ _;have:=q10 (a:=⟨wq.heap.size,0,none⟩) h1 (fun b e=>by have:=(h1.lt b e).1;show b≠wq.heap.size;omega) v8;rw[x9,q1c];rw[hre] at this;exact this
        ·show ∀ y∈_,_;intro y hy;rcases List.mem_append.1 hy with hy | hy
         ·have g1:=HF.out y hy;have g2:=q10 (a:=⟨wo.heap.size,2,none⟩) (qa g1 hB6) (fun b e=>by have:=(g1.lt b e).2;show b≠wo.heap.size;omega) r;have g3:=g2.kept h2 (q1d g2 hR7 (by decide));exact q10 g3 (fun b e=>by have:=(g1.lt b e).1;show b≠wq.heap.size;omega) _
         ·simp only [List.mem_singleton] at hy;subst hy;have g3:=q10 (a:=⟨wq.heap.size,0,none⟩) hr8 (fun b e=>by have:=(hr6.lt b e).1;show b≠wq.heap.size;omega) v8;show World.ownsRow _ _ _ _ (.slice ra kk rc) (zx (z7 A x kk)).length _;rw[hsl3];rw[hre] at g3;exact g3
        ·show _=_;rw[List.map_append,HE2.out,HCE.out]
         congr 1
         show [(⟨(i0:Int)+1,(xn:Int) - 1,zx (z7 A x kk)⟩ : Cl)]=[xy A i0 x]
         unfold xy;rw[hsd,HX3.out]
        ·have hb7:Below wq.heap.size wq (w6.setCell ⟨wo.heap.size,2,none⟩ r):=(hB4.trans (hB6.mono hB4.size)).setCell (show wq.heap.size<=wo.heap.size from hB4.size) _;exact(hb7.grown h2 (by rw[hszs];omega) (fun b e=>by have:=hub b e;omega)).setCell (nlr _) _
       have FIN:=lhd fin;clear fin hsd;by_cases hkn:kk < xn
       ·have hkx':=hkx hkn;go_wp2_with fail;refine(q8w _ (z7 A x kk) _ HSW.out hsl).mono ?_;rintro e w6 ⟨r,rfl,hr6,hb6⟩;obtain⟨ra6,rc6,hre6⟩:=qj hr6;subst hre6;rw[hsl2] at hr6 ⊢;obtain⟨t0,t1,t2,tf,tb,tbf,fin⟩:=FIN.out _ w6 hr6 hb6;have HFIN:=lhd fin;have HSZ:=lhd (show (w6.setCell ⟨wo.heap.size,2,none⟩ (.slice ra6 kk rc6)).heap.size=w6.heap.size by simp[World.setCell]);have hrow7:=lhd (fin.1);have hz7:V2.heap.size<=w6.heap.size:=fin.2.1;clear hr6 hb6 fin;go_wp2_with (at_builtin;go_loud (refine qo (W:=w6.setCell ⟨wo.heap.size,2,none⟩ (.slice ra6 kk rc6)) rfl _ _ 24 rfl V2.heap.size 75 Tryz.ke Tryz.underlying24 rfl (by decide) (by decide) _ _ _ rfl hrow7.out [.int .i64 ((i0:Int)+1),.int .i64 ((xn:Int) - 1),.slice ra6 kk rc6] (by rw[HSZ.out];rfl) rfl (fun u hu=>by simp at hu;rcases hu with rfl | rfl | rfl <;> rfl) (by omega) (Below.refl _ _) (by simp[World.setCell];exact hz7) ?_));intro v8 w8 hr8 hg8 _;obtain⟨y0,y1,m',hq1,hq2,hq3,hq4,hq5,hq6,hq7⟩:=HFIN.out.2.2 v8 w8 hr8 hg8;obtain⟨f4,f5,hf4⟩:=qj hr8;subst hf4;clear hr8 hg8;go_wp2;go_roundw
        case measure=>simp[vI];omega
        case rel=>exact⟨i0+1,m',_,qh (by omega),by omega,hq1,hq2,hq3,hq4,hq5,hq6,hq7⟩
       ·have hkn':¬ ((kk:Int) < xn):=by omega
        go_wp2_with fail;refine(q8w _ (z7 A x kk) _ HSW.out hsl).mono ?_;rintro e w6 ⟨r,rfl,hr6,hb6⟩;obtain⟨ra6,rc6,hre6⟩:=qj hr6;subst hre6;rw[hsl2] at hr6 ⊢;obtain⟨t0,t1,t2,tf,tb,tbf,fin⟩:=FIN.out _ w6 hr6 hb6;have HFIN:=lhd fin;have HSZ:=lhd (show (w6.setCell ⟨wo.heap.size,2,none⟩ (.slice ra6 kk rc6)).heap.size=w6.heap.size by simp[World.setCell]);have hrow7:=lhd (fin.1);have hz7:V2.heap.size<=w6.heap.size:=fin.2.1;clear hr6 hb6 fin;go_wp2_with (at_builtin;go_loud (refine qo (W:=w6.setCell ⟨wo.heap.size,2,none⟩ (.slice ra6 kk rc6)) rfl _ _ 24 rfl V2.heap.size 75 Tryz.ke Tryz.underlying24 rfl (by decide) (by decide) _ _ _ rfl hrow7.out [.int .i64 ((i0:Int)+1),.int .i64 ((xn:Int) - 1),.slice ra6 kk rc6] (by rw[HSZ.out];rfl) rfl (fun u hu=>by simp at hu;rcases hu with rfl | rfl | rfl <;> rfl) (by omega) (Below.refl _ _) (by simp[World.setCell];exact hz7) ?_));intro v8 w8 hr8 hg8 _;obtain⟨y0,y1,m',hq1,hq2,hq3,hq4,hq5,hq6,hq7⟩:=HFIN.out.2.2 v8 w8 hr8 hg8;obtain⟨f4,f5,hf4⟩:=qj hr8;subst hf4;clear hr8 hg8;go_wp2;go_roundw
        case measure=>simp[vI];omega
        case rel=>exact⟨i0+1,m',_,qh (by omega),by omega,hq1,hq2,hq3,hq4,hq5,hq6,hq7⟩
    ·have hie:i0=on:=by omega
     obtain⟨a2,cap2,hue⟩:=qj HR.out;subst hue;obtain⟨r0,r1⟩:=HBR.out.q8 hB4;obtain⟨p0,p1⟩:=HBU.out;have hwv:w.heap.size < V2.heap.size:=by have:=HVZ.out;have:=hBw.size;omega
     have fin:m.map Ce.cl=q0m ls/\q1p (wr.setCell ⟨w.heap.size,0,none⟩ (.slice a2 i0 cap2)) w.heap.size (.slice a2 i0 cap2) m/\Below w.heap.size w (wr.setCell ⟨w.heap.size,0,none⟩ (.slice a2 i0 cap2)):=by
      refine⟨by rw[HE2.out,HSK.out,hie],q1p.mono (q1p.set (a:=⟨w.heap.size,0,none⟩) (base:=V2.heap.size) ⟨zm HR.out hml.symm,HF.out⟩ hwv _) (by omega),hBw4.setCell (nlr _) _⟩
     have FIN:=lhd fin;clear fin hie;go_wp2_with fail;refine bodyPost_ret (v:=.agg #[.slice a2 i0 cap2]) (by simp[results,Tryz.results74,go_sem,(Bv.put (w:=wr) (b:=w.heap.size) ⟨r0,r1⟩ (.slice a2 i0 cap2)).1]) rfl ?_;exact⟨.slice a2 i0 cap2,m,rfl,FIN.out.1,FIN.out.2.1,FIN.out.2.2⟩
end Go.Proofs.YtlhicnfeajejhaaGreatDoor
