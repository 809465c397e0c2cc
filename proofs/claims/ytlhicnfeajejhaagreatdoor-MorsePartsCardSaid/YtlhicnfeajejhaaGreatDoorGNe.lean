/- Steps towards MorseParts. Conditions: none. -/
import Derived.Test.YtlhicnfeajejhaaGreatDoorGNb
set_option maxRecDepth 1000000
set_option maxHeartbeats 16000000
namespace Go.Proofs.YtlhicnfeajejhaaGreatDoor
open Go.RowKit Go.Cx Go.Shelf Go.Lib Go.Sort Go.Proofs
variable {P:Program} {k:Nat} {α:Type} [Inhabited α]
theorem qhc (L:q33 P k) (enc:α->List Value) (cf:α->α->Int) (key:α->Int) (g:Nat) (cb:Array Value) (blk off cap sz:Nat) (d0:Array α) (w0:World) (eg:∀ args w,(callFunc g args).run P w = .ok (.enter g args) w) (bY:CmpLays P g cb enc k cf blk off d0.size w0) (aq:∀ x y,cf x y < 0↔key x < key y) (R:RowK enc k w0 blk off d0) (hs:d0.size=sz) (ao:sz<=1099511627776) (a m b:Nat) (d:Array α) (w:World) (p A B q:List α) (S:SWK enc k w0 blk off d w) (hd:d.toList=p++(A++(B++q))) (hp:p.length=a) (hm:a+A.length=m) (hb:m+B.length=b) (hA:Srt key A) (hB:Srt key B) (kI:b<=sz) (fX:d.size=sz) (nn:Nat) (uv:b - a<=nn+1) (iV:0 < A.length) (bT:0 < B.length) (fL:¬ m - a=1) (qM:¬ b - m=1) (ih:∀ (a m b:Nat) (d:Array α) (w:World) (p A B q:List α),b - a<=nn->SWK enc k w0 blk off d w->d.toList=p++(A++(B++q))->p.length=a->a+A.length=m->m+B.length=b->0 < A.length->0 < B.length->Srt key A->Srt key B->b<=sz->d.size=sz →
  Calls P 246 #[.slice (some ⟨blk,off,none⟩) sz cap,.int .i64 a,.int .i64 m,.int .i64 b,.func (.func g) #[] cb] w fun e w' =>e = .returned (.tuple #[])/\∃ d' M,d'.toList=p++(M++q)/\Srt key M/\qs key (A++B) M/\SWK enc k w0 blk off d' w') (mid:Nat) (oB:mid=(a+b) / 2) (jW:¬ mid < m) :
  Calls P 246 #[.slice (some ⟨blk,off,none⟩) sz cap,.int .i64 a,.int .i64 m,.int .i64 b,.func (.func g) #[] cb] w fun e w' =>
   e = .returned (.tuple #[])/\∃ d' M,d'.toList=p++(M++q)/\Srt key M/\qs key (A++B) M/\SWK enc k w0 blk off d' w':=by
 have LL:Aside _:=L;have RR:Aside _:=R;have HC:Aside _:=bY;have cT:Aside _:=aq;have cM:=L.c1;have cR:=L.c2;have mixed:=L.mixed;have aE:=L.aE;have zE:=L.zE;have uS:=run_underlying L.tS;have tN:=L.tN;have tNa:=L.tNa;have tNz:=L.tNz;have tNv:=L.tNv;have tB:=L.tB;have tBa:=L.tBa;have tBz:=L.tBz;have tBv:=L.tBv;have tS:=L.tS;have tSa:=L.tSa;have tSz:=L.tSz;have tSv:=L.tSv;have tU:=L.tU;have tUa:=L.tUa;have tUz:=L.tUz;have tUv:=L.tUv;have t0:=L.t0;have t0a:=L.t0a;have t0z:=L.t0z;have t0v:=L.t0v
 clear bY aq;have S1:Aside _:=S;have HD:=lhd hd;have HP:=lhd hp;have HA:=lhd hA;have HB:=lhd hB;clear S hd hp hA hB;go_enter L.f1,Tryz.ntmps246;have CA:¬ (m:Int) - (a:Int)=1:=by omega
 have DQ:((m:Int) - (a:Int) == 1)=false:=by simpa using CA
 have Hf:¬ (b:Int) - (m:Int)=1:=by omega
 have Kg:((b:Int) - (m:Int) == 1)=false:=by simpa using Hf
 have oC:IntKind.u64.wrap ((a:Int)+(b:Int))=(a:Int)+(b:Int):=by rw[IntKind.wrap_u64];omega
 have Hi:((a:Int)+(b:Int)) / 2=(mid:Int):=by omega
 have fA:a < mid/\mid < b/\2*mid<=a+b/\a+b<=2*mid+1:=by omega
 clear oB;have Kh:¬ (mid:Int) < (m:Int):=by omega
 obtain⟨s0,qN⟩ : ∃ s0:Nat,s0=a:=⟨_,rfl⟩
 obtain⟨r0,rL⟩ : ∃ r0:Nat,r0=m:=⟨_,rfl⟩
 have Ao:(mid:Int)+(m:Int) - 1=((mid+m - 1:Nat):Int):=by omega
 obtain⟨pp,lG⟩ : ∃ pp:Nat,pp=mid+m - 1:=⟨_,rfl⟩
 rw[<-lG] at Ao;have FA:=lhd (aiq qN (aiq rL lG));have b1:a<=s0:=by omega
 have b2:s0<=r0:=by omega
 have b3:r0<=m:=by omega
 have b4:r0<=mid:=by omega
 have b5:pp+1=mid+m:=by omega
 have b6:mid+m<=b+s0:=by omega
 have b7:s0=a\/mid+m=b+s0:=by omega
 have b8:r0=m\/r0=mid:=by omega
 clear qN rL lG;go_wp2;go_loopg [20,21] (r0 - s0) (fun g1 vi vj wr=>∃ (st r:Nat),vi = .int .i64 st/\vj = .int .i64 r/\s0<=st/\st<=r/\r<=r0/\r - st<=g1/\Hid ((st=s0\/¬ key d[pp - (st - 1)]! < key d[st - 1]!)/\(r=r0\/key d[pp - r]! < key d[r]!))/\Aside (SWK enc k w0 blk off d wr))
 case atStart=>exact⟨s0,r0,by first | (congr 1;omega) | (have:=FA.out.1;rw[this]),by first | (congr 1;omega) | (have:=FA.out.2.1;rw[this]),nlr _,b2,nlr _,nlr _,(show Hid _ from⟨.inl rfl,.inl rfl⟩),S1⟩
 case round =>
  clear S1;obtain⟨st,r,rfl,rfl,Ap,Ki,rL,dt,HI,S1⟩:=hrel;by_cases hlt:st < r
  ·have dO:(st:Int) < (r:Int):=by omega
   have DP:IntKind.u64.wrap ((st:Int)+(r:Int))=(st:Int)+(r:Int):=by rw[IntKind.wrap_u64];omega
   obtain⟨h,hh⟩ : ∃ h:Nat,h=(st+r) / 2:=⟨_,rfl⟩
   have jD:((st:Int)+(r:Int)) / 2=(h:Int):=by omega
   have oD:(pp:Int) - (h:Int)=((pp - h:Nat):Int):=by omega
   have b9:m<=pp - h:=by omega
   have sJ:pp - h < b:=by omega
   have uw:h < m:=by omega
   have Al:st<=h/\h < r:=by omega
   clear hh;obtain⟨dk,kR⟩ : ∃ dk,dk=d:=⟨_,rfl⟩
   subst kR;by_cases eB:key dk[pp - h]! < key dk[h]!
   ·have aH:cf dk[pp - h]! dk[h]! < 0:=(cT.out _ _).2 eB;have oA:=lhd eB;clear eB;have TB:(((pp - h:Nat):Int)).toNat=pp - h:=by omega
    have TC:(0:Int)<=((pp - h:Nat):Int):=by omega
    have TD:((pp - h:Nat):Int) < (sz:Int):=by omega
    have TE:IntKind.i64.wrap (((pp - h:Nat):Int))=((pp - h:Nat):Int):=by rw[IntKind.wrap_i64];omega
    have TF:((h:Int)).toNat=h:=by omega
    have TG:(0:Int)<=(h:Int):=by omega
    have TH:(h:Int) < (sz:Int):=by omega
    have TI:IntKind.i64.wrap ((h:Int))=(h:Int):=by rw[IntKind.wrap_i64];omega
    obtain⟨x7,Aq⟩ : ∃ x,x=dk[pp - h]!:=⟨_,rfl⟩
    obtain⟨y7,Ar⟩ : ∃ x,x=dk[h]!:=⟨_,rfl⟩
    have DT:=S1.out.ld R (by omega) P (pp - h) (by omega);have DU:=S1.out.ld R (by omega) P (h) (by omega);rw[<-Aq] at DT;rw[<-Ar] at DU;have xM:=S1.out.cmp HC.out (by omega) x7 y7;have Kj:cf x7 y7 < 0:=by rw[Aq,Ar];exact aH
    have TJ:decide (cf x7 y7 < 0)=true:=decide_eq_true Kj;clear Aq Ar aH;go_wp2_with fail
    go_quiet_grown (first | (go_at_fn g;refine Calls.grown_of (xM _ _)))
    have S2:Aside (SWK enc k w0 blk off dk (grow (wr.drewN nq) osq)):=S1.out.grown nq osq;clear DT DU xM S1;generalize grow (wr.drewN nq) osq=wq at S2 ⊢;clear nq osq;go_wp2;go_roundg (h - st)
    case measure=>omega
    case rel=>exact⟨st,h,by first | rfl | go_num,by first | rfl | go_num,Ap,by omega,by omega,by omega,(show Hid _ from⟨HI.out.1,.inr oA.out⟩),S2⟩
   ·have aH:¬ cf dk[pp - h]! dk[h]! < 0:=fun q=>eB ((cT.out _ _).1 q)
    have oA:=lhd eB;clear eB;have TK:(((pp - h:Nat):Int)).toNat=pp - h:=by omega
    have TL:(0:Int)<=((pp - h:Nat):Int):=by omega
    have TM:((pp - h:Nat):Int) < (sz:Int):=by omega
    have TN:IntKind.i64.wrap (((pp - h:Nat):Int))=((pp - h:Nat):Int):=by rw[IntKind.wrap_i64];omega
    have TO:((h:Int)).toNat=h:=by omega
    have TP:(0:Int)<=(h:Int):=by omega
    have TQ:(h:Int) < (sz:Int):=by omega
    have TR:IntKind.i64.wrap ((h:Int))=(h:Int):=by rw[IntKind.wrap_i64];omega
    obtain⟨x8,pA⟩ : ∃ x,x=dk[pp - h]!:=⟨_,rfl⟩
    obtain⟨y8,Au⟩ : ∃ x,x=dk[h]!:=⟨_,rfl⟩
    have DV:=S1.out.ld R (by omega) P (pp - h) (by omega);have DZ:=S1.out.ld R (by omega) P (h) (by omega);rw[<-pA] at DV;rw[<-Au] at DZ;have Ea:=S1.out.cmp HC.out (by omega) x8 y8;have Kk:¬ cf x8 y8 < 0:=by rw[pA,Au];exact aH
    have Hj:decide (cf x8 y8 < 0)=false:=decide_eq_false Kk;clear pA Au aH;go_wp2_with fail
    go_quiet_grown (first | (go_at_fn g;refine Calls.grown_of (Ea _ _)))
    have S2:Aside (SWK enc k w0 blk off dk (grow (wr.drewN nq) osq)):=S1.out.grown nq osq;clear DV DZ Ea S1;generalize grow (wr.drewN nq) osq=wq at S2 ⊢;clear nq osq;go_wp2;go_roundg (r - (h+1))
    case measure=>omega
    case rel=>exact⟨h+1,r,by first | rfl | go_num,by first | rfl | go_num,by omega,by omega,rL,by omega,(show Hid _ from⟨.inr (by simpa using oA.out),HI.out.2⟩),S2⟩
  ·have dO:¬ (st:Int) < (r:Int):=by omega
   have xN:r=st:=by omega
   subst xN;have nY:(mid:Int)+(m:Int) - (r:Int)=((mid+m - r:Nat):Int):=by omega
   obtain⟨en,sK⟩ : ∃ en:Nat,en=mid+m - r:=⟨_,rfl⟩
   rw[<-sK] at nY;have TS:en+r=mid+m:=by omega
   clear sK;obtain⟨st,az⟩ : ∃ st,st=r:=⟨_,rfl⟩
   subst az;have uW:=q7m d HD.out HP.out hm hb HA.out HB.out st en pp (by omega) (by omega) (by omega) (by omega) (by omega) (HI.out.1.imp (fun h=>by omega) id) (HI.out.2.imp (fun h=>by omega) id);obtain⟨A0,iV⟩ : ∃ l,l=A.take (st - a):=⟨_,rfl⟩
   obtain⟨A1,mZ⟩ : ∃ l,l=A.drop (st - a):=⟨_,rfl⟩
   obtain⟨B1,ak⟩ : ∃ l,l=B.take (en - m):=⟨_,rfl⟩
   obtain⟨B0,bT⟩ : ∃ l,l=B.drop (en - m):=⟨_,rfl⟩
   have nZ:A0++A1=A:=by rw[iV,mZ,gu]
   have eQ:B1++B0=B:=by rw[ak,bT,gu]
   have l1:a+A0.length=st:=by rw[iV,gd];omega
   have l2:B1.length+m=en:=by rw[ak,gd];omega
   have l3:A1.length+st=m:=by rw[mZ,gv];omega
   have l4:B0.length+en=b:=by rw[bT,gv];omega
   rw[<-iV,<-mZ,<-bT,<-ak] at uW;have HS:Hid (Srt key A0/\Srt key B1/\Srt key A1/\Srt key B0):=by
    have q1:=HA.out;have q2:=HB.out
    rw[<-nZ] at q1;rw[<-eQ] at q2;exact⟨q1.left,q2.left,q1.right,q2.right⟩
   have fin:∀ M1 M2,(Srt key M1/\qs key (A0++B1) M1)->(Srt key M2/\qs key (A1++B0) M2)->Srt key (M1++M2)/\qs key (A++B) (M1++M2):=fun M1 M2 k1 k2=>by
    have:=q2k (by rw[nZ];exact HA.out) (by rw[eQ];exact HB.out) uW.1 uW.2 k1.1 k1.2 k2.1 k2.2
    rwa [nZ,eQ] at this
   have bM:Aside _:=fin;have dJ:Hid (d.toList=p++(A0++(A1++(B1++(B0++q))))):=by show _=_;rw[HD.out,<-nZ,<-eQ];simp
   clear uW iV mZ bT ak nZ eQ fin HI;by_cases hq:st < m
   ·have r1:(st:Int) < (m:Int):=by omega
    have r2:(m:Int) < (en:Int):=by omega
    have r3:(st:Int) < (mid:Int):=by omega
    have r4:(mid:Int) < (en:Int):=by omega
    go_wp2_with fail;refine(qdr LL.out enc g cb blk off cap sz d0 w0 RR.out hs ao d wr S1.out st m en (p++A0) A1 B1 (B0++q) (by rw[dJ.out];simp) (by simp;have:=HP.out;omega) (by omega) (by omega) (by omega) (by omega) (by omega) fX).mono ?_;rintro e w1 ⟨rfl,dk,hd1,S2⟩;have HR:Hid (dk.toList=p++(A0++(B1++(A1++(B0++q))))):=by show _=_;rw[hd1];simp
    have fY:dk.size=sz:=by have h1:=congrArg List.length HR.out;have h2:=congrArg List.length dJ.out;simp at h1 h2;omega
    clear hd1;have S1:Aside _:=S2;clear S2;obtain⟨wr,ux⟩ : ∃ wr,wr=w1:=⟨_,rfl⟩
    subst ux;have lp:p.length=a:=HP.out;by_cases sL:a < st
    ·have hu:(a:Int) < (st:Int):=by omega
     go_wp2_with fail;refine(ih a st mid dk wr p A0 B1 (A1++(B0++q)) (by omega) S1.out HR.out HP.out (by omega) (by omega) (by omega) (by omega) HS.out.1 HS.out.2.1 (by omega) fY).mono ?_;rintro e w2 ⟨rfl,d2,M1,cj,iF,uN,S2⟩;have iW:=lhd (aiq iF uN);clear iF uN;have iu:=lhd cj;clear cj;have sM:M1.length=A0.length+B1.length:=by have:=iW.out.2.len;rw[gc] at this;exact this.symm
     have dy:d2.size=sz:=by have h1:=congrArg List.length iu.out;have h2:=congrArg List.length HR.out;simp at h1 h2;omega
     have S2:Aside _:=S2;clear S1;by_cases uy:en < b
     ·have hv:(en:Int) < (b:Int):=by omega
      go_wp2_with fail;refine(ih mid en b d2 _ (p++M1) A1 B0 q (by omega) S2.out (by rw[iu.out];simp) (by simp;omega) (by omega) (by omega) (by omega) (by omega) HS.out.2.2.1 HS.out.2.2.2 (by omega) dy).mono ?_;rintro e w3 ⟨rfl,d3,M2,eJ,eK,oz,S3⟩;have kE:=lhd (aiq eK oz);clear eK oz;have qO:=lhd eJ;clear eJ;have S3:Aside _:=S3;clear S2;go_wp2
      go_end0
      exact⟨rfl,d3,M1++M2,by rw[qO.out];simp,(bM.out M1 M2 iW.out kE.out).1,(bM.out M1 M2 iW.out kE.out).2,S3.out⟩
     ·have hv:¬ (en:Int) < (b:Int):=by omega
      have bT:B0=[]:=gz (by omega);have lD:=lhd bT;clear bT;go_wp2
      go_end0
      have eK:Srt key (A1++B0)/\qs key (A1++B0) (A1++B0):=⟨ye HS.out.2.2.1 HS.out.2.2.2 (.inr lD.out),qs.refl _⟩
      exact⟨rfl,d2,M1++(A1++B0),by rw[iu.out];simp,(bM.out M1 _ iW.out eK).1,(bM.out M1 _ iW.out eK).2,S2.out⟩
    ·have hu:¬ (a:Int) < (st:Int):=by omega
     obtain⟨d2,da⟩ : ∃ d2,d2=dk:=⟨_,rfl⟩
     obtain⟨M1,iF⟩ : ∃ M1,M1=A0++B1:=⟨_,rfl⟩
     have iu:Hid (d2.toList=p++(M1++(A1++(B0++q)))):=by show _=_;rw[da,iF,HR.out];simp
     have iW:Hid (Srt key M1/\qs key (A0++B1) M1):=by refine⟨?_,by rw[iF];exact qs.refl _⟩;rw[iF];exact ye HS.out.1 HS.out.2.1 (.inl (gz (by omega)))
     have sM:M1.length=A0.length+B1.length:=by rw[iF];simp
     have dy:d2.size=sz:=by rw[da];exact fY
     have S2:Aside (SWK enc k w0 blk off d2 wr):=by rw[da];exact S1
     clear S1 da iF;by_cases uy:en < b
     ·have hv:(en:Int) < (b:Int):=by omega
      go_wp2_with fail;refine(ih mid en b d2 _ (p++M1) A1 B0 q (by omega) S2.out (by rw[iu.out];simp) (by simp;omega) (by omega) (by omega) (by omega) (by omega) HS.out.2.2.1 HS.out.2.2.2 (by omega) dy).mono ?_;rintro e w3 ⟨rfl,d3,M2,eJ,eK,oz,S3⟩;have kE:=lhd (aiq eK oz);clear eK oz;have qO:=lhd eJ;clear eJ;have S3:Aside _:=S3;clear S2;go_wp2
      go_end0
      exact⟨rfl,d3,M1++M2,by rw[qO.out];simp,(bM.out M1 M2 iW.out kE.out).1,(bM.out M1 M2 iW.out kE.out).2,S3.out⟩
     ·have hv:¬ (en:Int) < (b:Int):=by omega
      have bT:B0=[]:=gz (by omega);have lD:=lhd bT;clear bT;go_wp2
      go_end0
      have eK:Srt key (A1++B0)/\qs key (A1++B0) (A1++B0):=⟨ye HS.out.2.2.1 HS.out.2.2.2 (.inr lD.out),qs.refl _⟩
      exact⟨rfl,d2,M1++(A1++B0),by rw[iu.out];simp,(bM.out M1 _ iW.out eK).1,(bM.out M1 _ iW.out eK).2,S2.out⟩
   ·have r1:¬ (st:Int) < (m:Int):=by omega
    have r4:¬ (mid:Int) < (en:Int):=by omega
    have r5:(a:Int) < (st:Int):=by omega
    have lp:p.length=a:=HP.out;have mZ:A1=[]:=gz (by omega);have Hk:=lhd mZ;clear mZ;have eK:Srt key (A1++B0)/\qs key (A1++B0) (A1++B0):=⟨ye HS.out.2.2.1 HS.out.2.2.2 (.inl Hk.out),qs.refl _⟩
    have kE:=lhd eK;clear eK;by_cases Eb:st < mid
    ·have r3:(st:Int) < (mid:Int):=by omega
     go_wp2_with fail;refine(ih a st mid d wr p A0 B1 (A1++(B0++q)) (by omega) S1.out (by rw[dJ.out,Hk.out];simp) HP.out (by omega) (by omega) (by omega) (by omega) HS.out.1 HS.out.2.1 (by omega) fX).mono ?_;rintro e w2 ⟨rfl,d2,M1,cj,iF,uN,S2⟩;have iW:=lhd (aiq iF uN);clear iF uN;have iu:=lhd cj;clear cj;have S2:Aside _:=S2;clear S1;go_wp2
     go_end0
     exact⟨rfl,d2,M1++(A1++B0),by rw[iu.out];simp,(bM.out M1 _ iW.out kE.out).1,(bM.out M1 _ iW.out kE.out).2,S2.out⟩
    ·have r3:¬ (st:Int) < (mid:Int):=by omega
     have ak:B1=[]:=gz (by omega);have aV:=lhd ak;clear ak;go_wp2
     go_end0
     have iF:Srt key A0/\qs key (A0++B1) A0:=⟨HS.out.1,by rw[aV.out,gH];exact qs.refl _⟩
     exact⟨rfl,d,A0++(A1++B0),by rw[dJ.out,aV.out];simp,(bM.out A0 _ iF kE.out).1,(bM.out A0 _ iF kE.out).2,S1.out⟩
end Go.Proofs.YtlhicnfeajejhaaGreatDoor
