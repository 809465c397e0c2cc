/- Steps towards MorseChecks. Conditions: none. -/
import Derived.Test.YtlhicnfeajejhaaGreatDoorFNb
set_option maxRecDepth 1000000
set_option maxHeartbeats 16000000
namespace Go.Proofs.YtlhicnfeajejhaaGreatDoor
open Go.RowKit Go.Cx Go.Shelf Go.Lib Go.Sort Go.Proofs
variable {P:Program} {k:Nat} {α:Type} [Inhabited α]
theorem qhb (L:q33 P k) (enc:α->List Value) (cf:α->α->Int) (key:α->Int) (g:Nat) (cb:Array Value) (blk off cap sz:Nat) (d0:Array α) (w0:World) (eg:∀ args w,(callFunc g args).run P w = .ok (.enter g args) w) (aY:CmpLays P g cb enc k cf blk off d0.size w0) (aq:∀ x y,cf x y < 0↔key x < key y) (R:RowK enc k w0 blk off d0) (hs:d0.size=sz) (ao:sz<=1099511627776) (a m b:Nat) (d:Array α) (w:World) (p A B q:List α) (S:SWK enc k w0 blk off d w) (hd:d.toList=p++(A++(B++q))) (hp:p.length=a) (hm:a+A.length=m) (hb:m+B.length=b) (hA:Srt key A) (hB:Srt key B) (kG:b<=sz) (et:d.size=sz) (nn:Nat) (jM:b - a<=nn+1) (fi:0 < A.length) (aV:0 < B.length) (eh:¬ m - a=1) (np:¬ b - m=1) (ih:∀ (a m b:Nat) (d:Array α) (w:World) (p A B q:List α),b - a<=nn->SWK enc k w0 blk off d w->d.toList=p++(A++(B++q))->p.length=a->a+A.length=m->m+B.length=b->0 < A.length->0 < B.length->Srt key A->Srt key B->b<=sz->d.size=sz →
  Calls P 246 #[.slice (some ⟨blk,off,none⟩) sz cap,.int .i64 a,.int .i64 m,.int .i64 b,.func (.func g) #[] cb] w fun e w' =>
   e = .returned (.tuple #[])/\∃ d' M,d'.toList=p++(M++q)/\Srt key M/\qs key (A++B) M/\SWK enc k w0 blk off d' w') (aW:Nat) (wA:aW=(a+b) / 2) (fY:aW < m) :
  Calls P 246 #[.slice (some ⟨blk,off,none⟩) sz cap,.int .i64 a,.int .i64 m,.int .i64 b,.func (.func g) #[] cb] w fun e w' =>
   e = .returned (.tuple #[])/\∃ d' M,d'.toList=p++(M++q)/\Srt key M/\qs key (A++B) M/\SWK enc k w0 blk off d' w':=by
 have LL:Aside _:=L;have RR:Aside _:=R;have HC:Aside _:=aY;have bY:Aside _:=aq;have cM:=L.c1;have cR:=L.c2;have mixed:=L.mixed;have aE:=L.aE;have zE:=L.zE;have uS:=run_underlying L.tS;have tN:=L.tN;have tNa:=L.tNa;have tNz:=L.tNz;have tNv:=L.tNv;have tB:=L.tB;have tBa:=L.tBa;have tBz:=L.tBz;have tBv:=L.tBv;have tS:=L.tS;have tSa:=L.tSa;have tSz:=L.tSz;have tSv:=L.tSv;have tU:=L.tU;have tUa:=L.tUa;have tUz:=L.tUz;have tUv:=L.tUv;have t0:=L.t0;have t0a:=L.t0a;have t0z:=L.t0z;have t0v:=L.t0v
 clear aY aq;have S1:Aside _:=S;have HD:=lhd hd;have HP:=lhd hp;have HA:=lhd hA;have HB:=lhd hB;clear S hd hp hA hB;go_enter L.f1,Tryz.ntmps246;have zZ:¬ (m:Int) - (a:Int)=1:=by omega
 have BC:((m:Int) - (a:Int) == 1)=false:=by simpa using zZ
 have E7:¬ (b:Int) - (m:Int)=1:=by omega
 have GZ:((b:Int) - (m:Int) == 1)=false:=by simpa using E7
 have ly:IntKind.u64.wrap ((a:Int)+(b:Int))=(a:Int)+(b:Int):=by rw[IntKind.wrap_u64];omega
 have E8:((a:Int)+(b:Int)) / 2=(aW:Int):=by omega
 have cO:a < aW/\aW < b/\2*aW<=a+b/\a+b<=2*aW+1:=by omega
 clear wA;have Ha:(aW:Int) < (m:Int):=by omega
 have jG:(aW:Int)+(m:Int) - (b:Int)=((aW+m - b:Nat):Int):=by omega
 obtain⟨s0,l5⟩ : ∃ s0:Nat,s0=aW+m - b:=⟨_,rfl⟩
 obtain⟨r0,o8⟩ : ∃ r0:Nat,r0=aW:=⟨_,rfl⟩
 have wB:(aW:Int)+(m:Int) - 1=((aW+m - 1:Nat):Int):=by omega
 obtain⟨pp,iD⟩ : ∃ pp:Nat,pp=aW+m - 1:=⟨_,rfl⟩
 rw[<-iD] at wB;have FA:=lhd (aiq l5 (aiq o8 iD));rw[<-l5] at jG;have b1:a<=s0:=by omega
 have b2:s0<=r0:=by omega
 have b3:r0<=m:=by omega
 have b4:r0<=aW:=by omega
 have b5:pp+1=aW+m:=by omega
 have b6:aW+m<=b+s0:=by omega
 have b7:s0=a\/aW+m=b+s0:=by omega
 have b8:r0=m\/r0=aW:=by omega
 clear l5 o8 iD;go_wp2;go_loopg [20,21] (r0 - s0) (fun g1 vi vj wr=>∃ (st r:Nat),vi = .int .i64 st/\vj = .int .i64 r/\s0<=st/\st<=r/\r<=r0/\r - st<=g1/\Hid ((st=s0\/¬ key d[pp - (st - 1)]! < key d[st - 1]!)/\(r=r0\/key d[pp - r]! < key d[r]!))/\Aside (SWK enc k w0 blk off d wr))
 case atStart=>exact⟨s0,r0,by first | rfl | go_num | (congr 1;omega),by first | (congr 1;omega) | (have:=FA.out.2.1;rw[this]),nlr _,b2,nlr _,nlr _,(show Hid _ from⟨.inl rfl,.inl rfl⟩),S1⟩
 case round =>
  clear S1;obtain⟨st,r,rfl,rfl,wC,Hb,o8,cA,HI,S1⟩:=hrel;by_cases hlt:st < r
  ·have cF:(st:Int) < (r:Int):=by omega
   have Aa:IntKind.u64.wrap ((st:Int)+(r:Int))=(st:Int)+(r:Int):=by rw[IntKind.wrap_u64];omega
   obtain⟨h,hh⟩ : ∃ h:Nat,h=(st+r) / 2:=⟨_,rfl⟩
   have kY:((st:Int)+(r:Int)) / 2=(h:Int):=by omega
   have o9:(pp:Int) - (h:Int)=((pp - h:Nat):Int):=by omega
   have b9:m<=pp - h:=by omega
   have wE:pp - h < b:=by omega
   have rn:h < m:=by omega
   have wk:st<=h/\h < r:=by omega
   clear hh;obtain⟨dk,kZ⟩ : ∃ dk,dk=d:=⟨_,rfl⟩
   subst kZ;by_cases dg:key dk[pp - h]! < key dk[h]!
   ·have az:cf dk[pp - h]! dk[h]! < 0:=(bY.out _ _).2 dg;have lx:=lhd dg;clear dg;have QM:(((pp - h:Nat):Int)).toNat=pp - h:=by omega
    have QN:(0:Int)<=((pp - h:Nat):Int):=by omega
    have QO:((pp - h:Nat):Int) < (sz:Int):=by omega
    have QP:IntKind.i64.wrap (((pp - h:Nat):Int))=((pp - h:Nat):Int):=by rw[IntKind.wrap_i64];omega
    have QQ:((h:Int)).toNat=h:=by omega
    have QR:(0:Int)<=(h:Int):=by omega
    have QS:(h:Int) < (sz:Int):=by omega
    have QT:IntKind.i64.wrap ((h:Int))=(h:Int):=by rw[IntKind.wrap_i64];omega
    obtain⟨x7,wF⟩ : ∃ x,x=dk[pp - h]!:=⟨_,rfl⟩
    obtain⟨y7,wG⟩ : ∃ x,x=dk[h]!:=⟨_,rfl⟩
    have BF:=S1.out.ld R (by omega) P (pp - h) (by omega);have BG:=S1.out.ld R (by omega) P (h) (by omega);rw[<-wF] at BF;rw[<-wG] at BG;have ub:=S1.out.cmp HC.out (by omega) x7 y7;have Hf:cf x7 y7 < 0:=by rw[wF,wG];exact az
    have QU:decide (cf x7 y7 < 0)=true:=decide_eq_true Hf;clear wF wG az;go_wp2_with fail
    go_quiet_grown (first | (go_at_fn g;refine Calls.grown_of (ub _ _)))
    have S2:Aside (SWK enc k w0 blk off dk (grow (wr.drewN nq) osq)):=S1.out.grown nq osq;clear BF BG ub S1;generalize grow (wr.drewN nq) osq=wq at S2 ⊢;clear nq osq;go_wp2;go_roundg (h - st)
    case measure=>omega
    case rel=>exact⟨st,h,by first | rfl | go_num,by first | rfl | go_num,wC,by omega,by omega,by omega,(show Hid _ from⟨HI.out.1,.inr lx.out⟩),S2⟩
   ·have az:¬ cf dk[pp - h]! dk[h]! < 0:=fun q=>dg ((bY.out _ _).1 q)
    have lx:=lhd dg;clear dg;have QV:(((pp - h:Nat):Int)).toNat=pp - h:=by omega
    have QW:(0:Int)<=((pp - h:Nat):Int):=by omega
    have QX:((pp - h:Nat):Int) < (sz:Int):=by omega
    have QY:IntKind.i64.wrap (((pp - h:Nat):Int))=((pp - h:Nat):Int):=by rw[IntKind.wrap_i64];omega
    have QZ:((h:Int)).toNat=h:=by omega
    have Ra:(0:Int)<=(h:Int):=by omega
    have Rb:(h:Int) < (sz:Int):=by omega
    have Rc:IntKind.i64.wrap ((h:Int))=(h:Int):=by rw[IntKind.wrap_i64];omega
    obtain⟨x8,lY⟩ : ∃ x,x=dk[pp - h]!:=⟨_,rfl⟩
    obtain⟨y8,wH⟩ : ∃ x,x=dk[h]!:=⟨_,rfl⟩
    have BI:=S1.out.ld R (by omega) P (pp - h) (by omega);have BK:=S1.out.ld R (by omega) P (h) (by omega);rw[<-lY] at BI;rw[<-wH] at BK;have BN:=S1.out.cmp HC.out (by omega) x8 y8;have Hi:¬ cf x8 y8 < 0:=by rw[lY,wH];exact az
    have Ac:decide (cf x8 y8 < 0)=false:=decide_eq_false Hi;clear lY wH az;go_wp2_with fail
    go_quiet_grown (first | (go_at_fn g;refine Calls.grown_of (BN _ _)))
    have S2:Aside (SWK enc k w0 blk off dk (grow (wr.drewN nq) osq)):=S1.out.grown nq osq;clear BI BK BN S1;generalize grow (wr.drewN nq) osq=wq at S2 ⊢;clear nq osq;go_wp2;go_roundg (r - (h+1))
    case measure=>omega
    case rel=>exact⟨h+1,r,by first | rfl | go_num,by first | rfl | go_num,by omega,by omega,o8,by omega,(show Hid _ from⟨.inr (by simpa using lx.out),HI.out.2⟩),S2⟩
  ·have cF:¬ (st:Int) < (r:Int):=by omega
   have ud:r=st:=by omega
   subst ud;have kM:(aW:Int)+(m:Int) - (r:Int)=((aW+m - r:Nat):Int):=by omega
   obtain⟨en,pq⟩ : ∃ en:Nat,en=aW+m - r:=⟨_,rfl⟩
   rw[<-pq] at kM;have Re:en+r=aW+m:=by omega
   clear pq;obtain⟨st,aS⟩ : ∃ st,st=r:=⟨_,rfl⟩
   subst aS;have sr:=q7m d HD.out HP.out hm hb HA.out HB.out st en pp (by omega) (by omega) (by omega) (by omega) (by omega) (HI.out.1.imp (fun h=>by omega) id) (HI.out.2.imp (fun h=>by omega) id);obtain⟨A0,fi⟩ : ∃ l,l=A.take (st - a):=⟨_,rfl⟩
   obtain⟨A1,jL⟩ : ∃ l,l=A.drop (st - a):=⟨_,rfl⟩
   obtain⟨B1,al⟩ : ∃ l,l=B.take (en - m):=⟨_,rfl⟩
   obtain⟨B0,aV⟩ : ∃ l,l=B.drop (en - m):=⟨_,rfl⟩
   have kN:A0++A1=A:=by rw[fi,jL,gr]
   have dI:B1++B0=B:=by rw[al,aV,gr]
   have l1:a+A0.length=st:=by rw[fi,gh];omega
   have l2:B1.length+m=en:=by rw[al,gh];omega
   have l3:A1.length+st=m:=by rw[jL,gC];omega
   have l4:B0.length+en=b:=by rw[aV,gC];omega
   rw[<-fi,<-jL,<-aV,<-al] at sr;have HS:Hid (Srt key A0/\Srt key B1/\Srt key A1/\Srt key B0):=by
    have q1:=HA.out;have q2:=HB.out
    rw[<-kN] at q1;rw[<-dI] at q2;exact⟨q1.left,q2.left,q1.right,q2.right⟩
   have fin:∀ M1 M2,(Srt key M1/\qs key (A0++B1) M1)->(Srt key M2/\qs key (A1++B0) M2)->Srt key (M1++M2)/\qs key (A++B) (M1++M2):=fun M1 M2 k1 k2=>by
    have:=q2k (by rw[kN];exact HA.out) (by rw[dI];exact HB.out) sr.1 sr.2 k1.1 k1.2 k2.1 k2.2
    rwa [kN,dI] at this
   have aP:Aside _:=fin;have ei:Hid (d.toList=p++(A0++(A1++(B1++(B0++q))))):=by
    show _=_;rw[HD.out,<-kN,<-dI];simp
   clear sr fi jL aV al kN dI fin HI;by_cases hq:st < aW
   ·have r1:(st:Int) < (m:Int):=by omega
    have r2:(m:Int) < (en:Int):=by omega
    have r3:(st:Int) < (aW:Int):=by omega
    have r4:(aW:Int) < (en:Int):=by omega
    go_wp2_with fail;refine(qdr LL.out enc g cb blk off cap sz d0 w0 RR.out hs ao d wr S1.out st m en (p++A0) A1 B1 (B0++q) (by rw[ei.out];simp) (by simp;have:=HP.out;omega) (by omega) (by omega) (by omega) (by omega) (by omega) et).mono ?_;rintro e w1 ⟨rfl,dk,bZ,S2⟩;have HR:Hid (dk.toList=p++(A0++(B1++(A1++(B0++q))))):=by show _=_;rw[bZ];simp
    have eu:dk.size=sz:=by
     have h1:=congrArg List.length HR.out;have h2:=congrArg List.length ei.out;simp at h1 h2;omega
    clear bZ;have S1:Aside _:=S2;clear S2;obtain⟨wr,l6⟩ : ∃ wr,wr=w1:=⟨_,rfl⟩
    subst l6;have lp:p.length=a:=HP.out;by_cases su:a < st
    ·have hu:(a:Int) < (st:Int):=by omega
     go_wp2_with fail;refine(ih a st aW dk wr p A0 B1 (A1++(B0++q)) (by omega) S1.out HR.out HP.out (by omega) (by omega) (by omega) (by omega) HS.out.1 HS.out.2.1 (by omega) eu).mono ?_;rintro e w2 ⟨rfl,d2,M1,bQ,eN,rR,S2⟩;have eE:=lhd (aiq eN rR);clear eN rR;have eC:=lhd bQ;clear bQ;have pt:M1.length=A0.length+B1.length:=by have:=eE.out.2.len;rw[gl] at this;exact this.symm
     have dh:d2.size=sz:=by
      have h1:=congrArg List.length eC.out;have h2:=congrArg List.length HR.out;simp at h1 h2;omega
     have S2:Aside _:=S2;clear S1;by_cases Hj:en < b
     ·have hv:(en:Int) < (b:Int):=by omega
      go_wp2_with fail;refine(ih aW en b d2 _ (p++M1) A1 B0 q (by omega) S2.out (by rw[eC.out];simp) (by simp;omega) (by omega) (by omega) (by omega) (by omega) HS.out.2.2.1 HS.out.2.2.2 (by omega) dh).mono ?_;rintro e w3 ⟨rfl,d3,M2,eA,cV,kX,S3⟩;have fK:=lhd (aiq cV kX);clear cV kX;have nt:=lhd eA;clear eA;have S3:Aside _:=S3;clear S2;go_wp2
      go_end0
      exact⟨rfl,d3,M1++M2,by rw[nt.out];simp,(aP.out M1 M2 eE.out fK.out).1,(aP.out M1 M2 eE.out fK.out).2,S3.out⟩
     ·have hv:¬ (en:Int) < (b:Int):=by omega
      have aV:B0=[]:=gu (by omega);have i7:=lhd aV;clear aV;go_wp2
      go_end0
      have cV:Srt key (A1++B0)/\qs key (A1++B0) (A1++B0):=⟨ye HS.out.2.2.1 HS.out.2.2.2 (.inr i7.out),qs.refl _⟩
      exact⟨rfl,d2,M1++(A1++B0),by rw[eC.out];simp,(aP.out M1 _ eE.out cV).1,(aP.out M1 _ eE.out cV).2,S2.out⟩
    ·have hu:¬ (a:Int) < (st:Int):=by omega
     obtain⟨d2,dn⟩ : ∃ d2,d2=dk:=⟨_,rfl⟩
     obtain⟨M1,eN⟩ : ∃ M1,M1=A0++B1:=⟨_,rfl⟩
     have eC:Hid (d2.toList=p++(M1++(A1++(B0++q)))):=by show _=_;rw[dn,eN,HR.out];simp
     have eE:Hid (Srt key M1/\qs key (A0++B1) M1):=by
      refine⟨?_,by rw[eN];exact qs.refl _⟩;rw[eN];exact ye HS.out.1 HS.out.2.1 (.inl (gu (by omega)))
     have pt:M1.length=A0.length+B1.length:=by rw[eN];simp
     have dh:d2.size=sz:=by rw[dn];exact eu
     have S2:Aside (SWK enc k w0 blk off d2 wr):=by rw[dn];exact S1
     clear S1 dn eN;by_cases Hj:en < b
     ·have hv:(en:Int) < (b:Int):=by omega
      go_wp2_with fail;refine(ih aW en b d2 _ (p++M1) A1 B0 q (by omega) S2.out (by rw[eC.out];simp) (by simp;omega) (by omega) (by omega) (by omega) (by omega) HS.out.2.2.1 HS.out.2.2.2 (by omega) dh).mono ?_;rintro e w3 ⟨rfl,d3,M2,eA,cV,kX,S3⟩;have fK:=lhd (aiq cV kX);clear cV kX;have nt:=lhd eA;clear eA;have S3:Aside _:=S3;clear S2;go_wp2
      go_end0
      exact⟨rfl,d3,M1++M2,by rw[nt.out];simp,(aP.out M1 M2 eE.out fK.out).1,(aP.out M1 M2 eE.out fK.out).2,S3.out⟩
     ·have hv:¬ (en:Int) < (b:Int):=by omega
      have aV:B0=[]:=gu (by omega);have i7:=lhd aV;clear aV;go_wp2
      go_end0
      have cV:Srt key (A1++B0)/\qs key (A1++B0) (A1++B0):=⟨ye HS.out.2.2.1 HS.out.2.2.2 (.inr i7.out),qs.refl _⟩
      exact⟨rfl,d2,M1++(A1++B0),by rw[eC.out];simp,(aP.out M1 _ eE.out cV).1,(aP.out M1 _ eE.out cV).2,S2.out⟩
   ·have r1:(st:Int) < (m:Int):=by omega
    have r2:¬ (m:Int) < (en:Int):=by omega
    have r3:¬ (st:Int) < (aW:Int):=by omega
    have r4:(aW:Int) < (en:Int):=by omega
    have r5:(a:Int) < (st:Int):=by omega
    have hv:(en:Int) < (b:Int):=by omega
    have al:B1=[]:=gu (by omega);have aN:=lhd al;clear al;have lp:p.length=a:=HP.out;go_wp2_with fail;refine(ih aW en b d _ (p++A0) A1 B0 q (by omega) S1.out (by rw[ei.out,aN.out];simp) (by simp;omega) (by omega) (by omega) (by omega) (by omega) HS.out.2.2.1 HS.out.2.2.2 (by omega) et).mono ?_;rintro e w3 ⟨rfl,d3,M2,eA,cV,kX,S3⟩;have fK:=lhd (aiq cV kX);clear cV kX;have nt:=lhd eA;clear eA;have S3:Aside _:=S3;clear S1;go_wp2
    go_end0
    have eN:Srt key A0/\qs key (A0++B1) A0:=⟨HS.out.1,by rw[aN.out,gQ];exact qs.refl _⟩
    exact⟨rfl,d3,A0++M2,by rw[nt.out];simp,(aP.out A0 M2 eN fK.out).1,(aP.out A0 M2 eN fK.out).2,S3.out⟩
end Go.Proofs.YtlhicnfeajejhaaGreatDoor
