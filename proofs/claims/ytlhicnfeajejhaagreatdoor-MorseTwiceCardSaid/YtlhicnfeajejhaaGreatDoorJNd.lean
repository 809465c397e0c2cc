/- Stable sorting at api.Cell: slices.symMergeCmpFunc, the left part is the longer. -/
import Derived.Test.YtlhicnfeajejhaaGreatDoorJNb
set_option maxRecDepth 1000000
set_option maxHeartbeats 16000000
namespace Go.Proofs.YtlhicnfeajejhaaGreatDoor
open Go.RowKit Go.Cx Go.Shelf Go.Lib Go.Sort Go.Proofs
variable {P:Program} {k:Nat} {α:Type} [Inhabited α]
theorem qhb (L:q33 P k) (enc:α->List Value) (cf:α->α->Int) (key:α->Int) (g:Nat) (cb:Array Value) (blk off cap sz:Nat) (d0:Array α) (w0:World) (eg:∀ args w,(callFunc g args).run P w = .ok (.enter g args) w) (hcmp:CmpLays P g cb enc k cf blk off d0.size w0) (hkey:∀ x y,cf x y < 0↔key x < key y) (R:RowK enc k w0 blk off d0) (hs:d0.size=sz) (hsz:sz<=1099511627776) (a m b:Nat) (d:Array α) (w:World) (p A B q:List α) (S:SWK enc k w0 blk off d w) (hd:d.toList=p++(A++(B++q))) (hp:p.length=a) (hm:a+A.length=m) (hb:m+B.length=b) (hA:Srt key A) (hB:Srt key B) (hbs:b<=sz) (hds:d.size=sz) (nn:Nat) (hnn:b - a<=nn+1) (hA0:0 < A.length) (hB0:0 < B.length) (hone:¬ m - a=1) (htwo:¬ b - m=1) (ih:∀ (a m b:Nat) (d:Array α) (w:World) (p A B q:List α),b - a<=nn->SWK enc k w0 blk off d w->d.toList=p++(A++(B++q))->p.length=a->a+A.length=m->m+B.length=b->0 < A.length->0 < B.length->Srt key A->Srt key B->b<=sz->d.size=sz →
  Calls P 246 #[.slice (some ⟨blk,off,none⟩) sz cap,.int .i64 a,.int .i64 m,.int .i64 b,.func (.func g) #[] cb] w fun e w' =>
   e = .returned (.tuple #[])/\∃ d' M,d'.toList=p++(M++q)/\Srt key M/\qs key (A++B) M/\SWK enc k w0 blk off d' w') (mid:Nat) (hmid:mid=(a+b) / 2) (hbg:mid < m) :
  Calls P 246 #[.slice (some ⟨blk,off,none⟩) sz cap,.int .i64 a,.int .i64 m,.int .i64 b,.func (.func g) #[] cb] w fun e w' =>
   e = .returned (.tuple #[])/\∃ d' M,d'.toList=p++(M++q)/\Srt key M/\qs key (A++B) M/\SWK enc k w0 blk off d' w':=by
 have LL:Aside _:=L;have RR:Aside _:=R;have HC:Aside _:=hcmp;have HKey:Aside _:=hkey;have cM:=L.c1;have cR:=L.c2;have mixed:=L.mixed;have aE:=L.aE;have zE:=L.zE;have uS:=run_underlying L.tS;have tN:=L.tN;have tNa:=L.tNa;have tNz:=L.tNz;have tNv:=L.tNv;have tB:=L.tB;have tBa:=L.tBa;have tBz:=L.tBz;have tBv:=L.tBv;have tS:=L.tS;have tSa:=L.tSa;have tSz:=L.tSz;have tSv:=L.tSv;have tU:=L.tU;have tUa:=L.tUa;have tUz:=L.tUz;have tUv:=L.tUv;have t0:=L.t0;have t0a:=L.t0a;have t0z:=L.t0z;have t0v:=L.t0v
 clear hcmp hkey;have S1:Aside _:=S;have HD:=lhd hd;have HP:=lhd hp;have HA:=lhd hA;have HB:=lhd hB;clear S hd hp hA hB;go_enter L.f1,Tryz.ntmps246;have hma:¬ (m:Int) - (a:Int)=1:=by omega
 have hmaf:((m:Int) - (a:Int) == 1)=false:=by simpa using hma
 have hbm:¬ (b:Int) - (m:Int)=1:=by omega
 have hbmf:((b:Int) - (m:Int) == 1)=false:=by simpa using hbm
 have hwm:IntKind.u64.wrap ((a:Int)+(b:Int))=(a:Int)+(b:Int):=by rw[IntKind.wrap_u64];omega
 have hfm:((a:Int)+(b:Int)) / 2=(mid:Int):=by omega
 have hm1:a < mid/\mid < b/\2*mid<=a+b/\a+b<=2*mid+1:=by omega
 clear hmid;have hbig:(mid:Int) < (m:Int):=by omega
 have hnb:(mid:Int)+(m:Int) - (b:Int)=((mid+m - b:Nat):Int):=by omega
 obtain⟨s0,hs0⟩ : ∃ s0:Nat,s0=mid+m - b:=⟨_,rfl⟩
 obtain⟨r0,hr0⟩ : ∃ r0:Nat,r0=mid:=⟨_,rfl⟩
 have hpp1:(mid:Int)+(m:Int) - 1=((mid+m - 1:Nat):Int):=by omega
 obtain⟨pp,hpp⟩ : ∃ pp:Nat,pp=mid+m - 1:=⟨_,rfl⟩
 rw[<-hpp] at hpp1;have FA:=lhd (aiq hs0 (aiq hr0 hpp));rw[<-hs0] at hnb;have b1:a<=s0:=by omega
 have b2:s0<=r0:=by omega
 have b3:r0<=m:=by omega
 have b4:r0<=mid:=by omega
 have b5:pp+1=mid+m:=by omega
 have b6:mid+m<=b+s0:=by omega
 have b7:s0=a\/mid+m=b+s0:=by omega
 have b8:r0=m\/r0=mid:=by omega
 clear hs0 hr0 hpp;go_wp2;go_loopg [20,21] (r0 - s0) (fun g1 vi vj wr=>∃ (st r:Nat),vi = .int .i64 st/\vj = .int .i64 r/\s0<=st/\st<=r/\r<=r0/\r - st<=g1/\Hid ((st=s0\/¬ key d[pp - (st - 1)]! < key d[st - 1]!)/\(r=r0\/key d[pp - r]! < key d[r]!))/\Aside (SWK enc k w0 blk off d wr))
 case atStart=>exact⟨s0,r0,by first | rfl | go_num | (congr 1;omega),by first | (congr 1;omega) | (have:=FA.out.2.1;rw[this]),nlr _,b2,nlr _,nlr _,(show Hid _ from⟨.inl rfl,.inl rfl⟩),S1⟩
 case round =>
  clear S1;obtain⟨st,r,rfl,rfl,hst0,hstr,hr0,hg1,HI,S1⟩:=hrel;by_cases hlt:st < r
  ·have hltz:(st:Int) < (r:Int):=by omega
   have hwc:IntKind.u64.wrap ((st:Int)+(r:Int))=(st:Int)+(r:Int):=by rw[IntKind.wrap_u64];omega
   obtain⟨h,hh⟩ : ∃ h:Nat,h=(st+r) / 2:=⟨_,rfl⟩
   have hfc:((st:Int)+(r:Int)) / 2=(h:Int):=by omega
   have hpc:(pp:Int) - (h:Int)=((pp - h:Nat):Int):=by omega
   have b9:m<=pp - h:=by omega
   have b10:pp - h < b:=by omega
   have b11:h < m:=by omega
   have hhlt:st<=h/\h < r:=by omega
   clear hh;obtain⟨dk,hdk⟩ : ∃ dk,dk=d:=⟨_,rfl⟩
   subst hdk;by_cases hlv:key dk[pp - h]! < key dk[h]!
   ·have hcmpv:cf dk[pp - h]! dk[h]! < 0:=(HKey.out _ _).2 hlv;have HLV:=lhd hlv;clear hlv;have e7a:(((pp - h:Nat):Int)).toNat=pp - h:=by omega
    have p7a:(0:Int)<=((pp - h:Nat):Int):=by omega
    have b7a:((pp - h:Nat):Int) < (sz:Int):=by omega
    have r7a:IntKind.i64.wrap (((pp - h:Nat):Int))=((pp - h:Nat):Int):=by rw[IntKind.wrap_i64];omega
    have e7b:((h:Int)).toNat=h:=by omega
    have p7b:(0:Int)<=(h:Int):=by omega
    have b7b:(h:Int) < (sz:Int):=by omega
    have r7b:IntKind.i64.wrap ((h:Int))=(h:Int):=by rw[IntKind.wrap_i64];omega
    obtain⟨x7,hx7⟩ : ∃ x,x=dk[pp - h]!:=⟨_,rfl⟩
    obtain⟨y7,hy7⟩ : ∃ x,x=dk[h]!:=⟨_,rfl⟩
    have l7a:=S1.out.ld R (by omega) P (pp - h) (by omega);have l7b:=S1.out.ld R (by omega) P (h) (by omega);rw[<-hx7] at l7a;rw[<-hy7] at l7b;have hc7:=S1.out.cmp HC.out (by omega) x7 y7;have hv7:cf x7 y7 < 0:=by rw[hx7,hy7];exact hcmpv
    have hd7:decide (cf x7 y7 < 0)=true:=decide_eq_true hv7;clear hx7 hy7 hcmpv;go_wp2_with fail
    go_quiet_grown (first | (go_at_fn g;refine Calls.grown_of (hc7 _ _)))
    have S2:Aside (SWK enc k w0 blk off dk (grow (wr.drewN nq) osq)):=S1.out.grown nq osq;clear l7a l7b hc7 S1;generalize grow (wr.drewN nq) osq=wq at S2 ⊢;clear nq osq;go_wp2;go_roundg (h - st)
    case measure=>omega
    case rel=>exact⟨st,h,by first | rfl | go_num,by first | rfl | go_num,hst0,by omega,by omega,by omega,(show Hid _ from⟨HI.out.1,.inr HLV.out⟩),S2⟩
   ·have hcmpv:¬ cf dk[pp - h]! dk[h]! < 0:=fun q=>hlv ((HKey.out _ _).1 q)
    have HLV:=lhd hlv;clear hlv;have e8a:(((pp - h:Nat):Int)).toNat=pp - h:=by omega
    have p8a:(0:Int)<=((pp - h:Nat):Int):=by omega
    have b8a:((pp - h:Nat):Int) < (sz:Int):=by omega
    have r8a:IntKind.i64.wrap (((pp - h:Nat):Int))=((pp - h:Nat):Int):=by rw[IntKind.wrap_i64];omega
    have e8b:((h:Int)).toNat=h:=by omega
    have p8b:(0:Int)<=(h:Int):=by omega
    have b8b:(h:Int) < (sz:Int):=by omega
    have r8b:IntKind.i64.wrap ((h:Int))=(h:Int):=by rw[IntKind.wrap_i64];omega
    obtain⟨x8,hx8⟩ : ∃ x,x=dk[pp - h]!:=⟨_,rfl⟩
    obtain⟨y8,hy8⟩ : ∃ x,x=dk[h]!:=⟨_,rfl⟩
    have l8a:=S1.out.ld R (by omega) P (pp - h) (by omega);have l8b:=S1.out.ld R (by omega) P (h) (by omega);rw[<-hx8] at l8a;rw[<-hy8] at l8b;have hc8:=S1.out.cmp HC.out (by omega) x8 y8;have hv8:¬ cf x8 y8 < 0:=by rw[hx8,hy8];exact hcmpv
    have hd8:decide (cf x8 y8 < 0)=false:=decide_eq_false hv8;clear hx8 hy8 hcmpv;go_wp2_with fail
    go_quiet_grown (first | (go_at_fn g;refine Calls.grown_of (hc8 _ _)))
    have S2:Aside (SWK enc k w0 blk off dk (grow (wr.drewN nq) osq)):=S1.out.grown nq osq;clear l8a l8b hc8 S1;generalize grow (wr.drewN nq) osq=wq at S2 ⊢;clear nq osq;go_wp2;go_roundg (r - (h+1))
    case measure=>omega
    case rel=>exact⟨h+1,r,by first | rfl | go_num,by first | rfl | go_num,by omega,by omega,hr0,by omega,(show Hid _ from⟨.inr (by simpa using HLV.out),HI.out.2⟩),S2⟩
  ·have hltz:¬ (st:Int) < (r:Int):=by omega
   have hrs:r=st:=by omega
   subst hrs;have hen:(mid:Int)+(m:Int) - (r:Int)=((mid+m - r:Nat):Int):=by omega
   obtain⟨en,hen'⟩ : ∃ en:Nat,en=mid+m - r:=⟨_,rfl⟩
   rw[<-hen'] at hen;have b20:en+r=mid+m:=by omega
   clear hen';obtain⟨st,hst⟩ : ∃ st,st=r:=⟨_,rfl⟩
   subst hst;have cf0:=q7m d HD.out HP.out hm hb HA.out HB.out st en pp (by omega) (by omega) (by omega) (by omega) (by omega) (HI.out.1.imp (fun h=>by omega) id) (HI.out.2.imp (fun h=>by omega) id);obtain⟨A0,hA0⟩ : ∃ l,l=A.take (st - a):=⟨_,rfl⟩
   obtain⟨A1,hA1⟩ : ∃ l,l=A.drop (st - a):=⟨_,rfl⟩
   obtain⟨B1,hB1⟩ : ∃ l,l=B.take (en - m):=⟨_,rfl⟩
   obtain⟨B0,hB0⟩ : ∃ l,l=B.drop (en - m):=⟨_,rfl⟩
   have hAA:A0++A1=A:=by rw[hA0,hA1,List.take_append_drop]
   have hBB:B1++B0=B:=by rw[hB1,hB0,List.take_append_drop]
   have l1:a+A0.length=st:=by rw[hA0,List.length_take];omega
   have l2:B1.length+m=en:=by rw[hB1,List.length_take];omega
   have l3:A1.length+st=m:=by rw[hA1,List.length_drop];omega
   have l4:B0.length+en=b:=by rw[hB0,List.length_drop];omega
   rw[<-hA0,<-hA1,<-hB0,<-hB1] at cf0;have HS:Hid (Srt key A0/\Srt key B1/\Srt key A1/\Srt key B0):=by
    have q1:=HA.out;have q2:=HB.out
    rw[<-hAA] at q1;rw[<-hBB] at q2;exact⟨q1.left,q2.left,q1.right,q2.right⟩
   have fin:∀ M1 M2,(Srt key M1/\qs key (A0++B1) M1)->(Srt key M2/\qs key (A1++B0) M2)->Srt key (M1++M2)/\qs key (A++B) (M1++M2):=fun M1 M2 k1 k2=>by
    have:=q2k (by rw[hAA];exact HA.out) (by rw[hBB];exact HB.out) cf0.1 cf0.2 k1.1 k1.2 k2.1 k2.2
    rwa [hAA,hBB] at this
   have FIN:Aside _:=fin;have HDD:Hid (d.toList=p++(A0++(A1++(B1++(B0++q))))):=by
    show _=_;rw[HD.out,<-hAA,<-hBB];simp
   clear cf0 hA0 hA1 hB0 hB1 hAA hBB fin HI;by_cases hq:st < mid
   ·have r1:(st:Int) < (m:Int):=by omega
    have r2:(m:Int) < (en:Int):=by omega
    have r3:(st:Int) < (mid:Int):=by omega
    have r4:(mid:Int) < (en:Int):=by omega
    go_wp2_with fail;refine(qdr LL.out enc g cb blk off cap sz d0 w0 RR.out hs hsz d wr S1.out st m en (p++A0) A1 B1 (B0++q) (by rw[HDD.out];simp) (by simp;have:=HP.out;omega) (by omega) (by omega) (by omega) (by omega) (by omega) hds).mono ?_;rintro e w1 ⟨rfl,dk,hd1,S2⟩;have HR:Hid (dk.toList=p++(A0++(B1++(A1++(B0++q))))):=by show _=_;rw[hd1];simp
    have hsk:dk.size=sz:=by
     have h1:=congrArg List.length HR.out;have h2:=congrArg List.length HDD.out;simp at h1 h2;omega
    clear hd1;have S1:Aside _:=S2;clear S2;obtain⟨wr,hwr⟩ : ∃ wr,wr=w1:=⟨_,rfl⟩
    subst hwr;have lp:p.length=a:=HP.out;by_cases hun:a < st
    ·have hu:(a:Int) < (st:Int):=by omega
     go_wp2_with fail;refine(ih a st mid dk wr p A0 B1 (A1++(B0++q)) (by omega) S1.out HR.out HP.out (by omega) (by omega) (by omega) (by omega) HS.out.1 HS.out.2.1 (by omega) hsk).mono ?_;rintro e w2 ⟨rfl,d2,M1,hd2,hM1,hN1,S2⟩;have HM1:=lhd (aiq hM1 hN1);clear hM1 hN1;have HD2:=lhd hd2;clear hd2;have hl2:M1.length=A0.length+B1.length:=by have:=HM1.out.2.len;rw[List.length_append] at this;exact this.symm
     have hs2:d2.size=sz:=by
      have h1:=congrArg List.length HD2.out;have h2:=congrArg List.length HR.out;simp at h1 h2;omega
     have S2:Aside _:=S2;clear S1;by_cases hvn:en < b
     ·have hv:(en:Int) < (b:Int):=by omega
      go_wp2_with fail;refine(ih mid en b d2 _ (p++M1) A1 B0 q (by omega) S2.out (by rw[HD2.out];simp) (by simp;omega) (by omega) (by omega) (by omega) (by omega) HS.out.2.2.1 HS.out.2.2.2 (by omega) hs2).mono ?_;rintro e w3 ⟨rfl,d3,M2,hd3,hM2,hN2,S3⟩;have HM2:=lhd (aiq hM2 hN2);clear hM2 hN2;have HD3:=lhd hd3;clear hd3;have S3:Aside _:=S3;clear S2;go_wp2
      go_end0
      exact⟨rfl,d3,M1++M2,by rw[HD3.out];simp,(FIN.out M1 M2 HM1.out HM2.out).1,(FIN.out M1 M2 HM1.out HM2.out).2,S3.out⟩
     ·have hv:¬ (en:Int) < (b:Int):=by omega
      have hB0:B0=[]:=List.eq_nil_of_length_eq_zero (by omega);have HB0:=lhd hB0;clear hB0;go_wp2
      go_end0
      have hM2:Srt key (A1++B0)/\qs key (A1++B0) (A1++B0):=⟨ye HS.out.2.2.1 HS.out.2.2.2 (.inr HB0.out),qs.refl _⟩
      exact⟨rfl,d2,M1++(A1++B0),by rw[HD2.out];simp,(FIN.out M1 _ HM1.out hM2).1,(FIN.out M1 _ HM1.out hM2).2,S2.out⟩
    ·have hu:¬ (a:Int) < (st:Int):=by omega
     obtain⟨d2,hdd⟩ : ∃ d2,d2=dk:=⟨_,rfl⟩
     obtain⟨M1,hM1⟩ : ∃ M1,M1=A0++B1:=⟨_,rfl⟩
     have HD2:Hid (d2.toList=p++(M1++(A1++(B0++q)))):=by show _=_;rw[hdd,hM1,HR.out];simp
     have HM1:Hid (Srt key M1/\qs key (A0++B1) M1):=by
      refine⟨?_,by rw[hM1];exact qs.refl _⟩;rw[hM1];exact ye HS.out.1 HS.out.2.1 (.inl (List.eq_nil_of_length_eq_zero (by omega)))
     have hl2:M1.length=A0.length+B1.length:=by rw[hM1];simp
     have hs2:d2.size=sz:=by rw[hdd];exact hsk
     have S2:Aside (SWK enc k w0 blk off d2 wr):=by rw[hdd];exact S1
     clear S1 hdd hM1;by_cases hvn:en < b
     ·have hv:(en:Int) < (b:Int):=by omega
      go_wp2_with fail;refine(ih mid en b d2 _ (p++M1) A1 B0 q (by omega) S2.out (by rw[HD2.out];simp) (by simp;omega) (by omega) (by omega) (by omega) (by omega) HS.out.2.2.1 HS.out.2.2.2 (by omega) hs2).mono ?_;rintro e w3 ⟨rfl,d3,M2,hd3,hM2,hN2,S3⟩;have HM2:=lhd (aiq hM2 hN2);clear hM2 hN2;have HD3:=lhd hd3;clear hd3;have S3:Aside _:=S3;clear S2;go_wp2
      go_end0
      exact⟨rfl,d3,M1++M2,by rw[HD3.out];simp,(FIN.out M1 M2 HM1.out HM2.out).1,(FIN.out M1 M2 HM1.out HM2.out).2,S3.out⟩
     ·have hv:¬ (en:Int) < (b:Int):=by omega
      have hB0:B0=[]:=List.eq_nil_of_length_eq_zero (by omega);have HB0:=lhd hB0;clear hB0;go_wp2
      go_end0
      have hM2:Srt key (A1++B0)/\qs key (A1++B0) (A1++B0):=⟨ye HS.out.2.2.1 HS.out.2.2.2 (.inr HB0.out),qs.refl _⟩
      exact⟨rfl,d2,M1++(A1++B0),by rw[HD2.out];simp,(FIN.out M1 _ HM1.out hM2).1,(FIN.out M1 _ HM1.out hM2).2,S2.out⟩
   ·have r1:(st:Int) < (m:Int):=by omega
    have r2:¬ (m:Int) < (en:Int):=by omega
    have r3:¬ (st:Int) < (mid:Int):=by omega
    have r4:(mid:Int) < (en:Int):=by omega
    have r5:(a:Int) < (st:Int):=by omega
    have hv:(en:Int) < (b:Int):=by omega
    have hB1:B1=[]:=List.eq_nil_of_length_eq_zero (by omega);have HB1:=lhd hB1;clear hB1;have lp:p.length=a:=HP.out;go_wp2_with fail;refine(ih mid en b d _ (p++A0) A1 B0 q (by omega) S1.out (by rw[HDD.out,HB1.out];simp) (by simp;omega) (by omega) (by omega) (by omega) (by omega) HS.out.2.2.1 HS.out.2.2.2 (by omega) hds).mono ?_;rintro e w3 ⟨rfl,d3,M2,hd3,hM2,hN2,S3⟩;have HM2:=lhd (aiq hM2 hN2);clear hM2 hN2;have HD3:=lhd hd3;clear hd3;have S3:Aside _:=S3;clear S1;go_wp2
    go_end0
    have hM1:Srt key A0/\qs key (A0++B1) A0:=⟨HS.out.1,by rw[HB1.out,List.append_nil];exact qs.refl _⟩
    exact⟨rfl,d3,A0++M2,by rw[HD3.out];simp,(FIN.out A0 M2 hM1 HM2.out).1,(FIN.out A0 M2 hM1 HM2.out).2,S3.out⟩
end Go.Proofs.YtlhicnfeajejhaaGreatDoor
