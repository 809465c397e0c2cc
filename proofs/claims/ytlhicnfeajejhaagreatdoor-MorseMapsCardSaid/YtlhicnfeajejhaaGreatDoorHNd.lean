/- Steps towards MorseMaps. Conditions: none. -/
import Derived.Test.YtlhicnfeajejhaaGreatDoorHNb
set_option maxRecDepth 1000000
set_option maxHeartbeats 16000000
namespace Go.Proofs.YtlhicnfeajejhaaGreatDoor
open Go.RowKit Go.Cx Go.Shelf Go.Lib Go.Sort Go.Proofs
variable {P:Program} {k:Nat} {α:Type} [Inhabited α]
theorem qhb (L:q33 P k) (enc:α->List Value) (cf:α->α->Int) (key:α->Int) (g:Nat) (cb:Array Value) (blk off cap sz:Nat) (d0:Array α) (w0:World) (eg:∀ args w,(callFunc g args).run P w = .ok (.enter g args) w) (bV:CmpLays P g cb enc k cf blk off d0.size w0) (au:∀ x y,cf x y < 0↔key x < key y) (R:RowK enc k w0 blk off d0) (hs:d0.size=sz) (az:sz<=1099511627776) (a m b:Nat) (d:Array α) (w:World) (p A B q:List α) (S:SWK enc k w0 blk off d w) (hd:d.toList=p++(A++(B++q))) (hp:p.length=a) (hm:a+A.length=m) (hb:m+B.length=b) (hA:Srt key A) (hB:Srt key B) (jD:b<=sz) (fw:d.size=sz) (nn:Nat) (te:b - a<=nn+1) (iw:0 < A.length) (bQ:0 < B.length) (fh:¬ m - a=1) (oS:¬ b - m=1) (ih:∀ (a m b:Nat) (d:Array α) (w:World) (p A B q:List α),b - a<=nn->SWK enc k w0 blk off d w->d.toList=p++(A++(B++q))->p.length=a->a+A.length=m->m+B.length=b->0 < A.length->0 < B.length->Srt key A->Srt key B->b<=sz->d.size=sz →
  Calls P 246 #[.slice (some ⟨blk,off,none⟩) sz cap,.int .i64 a,.int .i64 m,.int .i64 b,.func (.func g) #[] cb] w fun e w' =>
   e = .returned (.tuple #[])/\∃ d' M,d'.toList=p++(M++q)/\Srt key M/\qs key (A++B) M/\SWK enc k w0 blk off d' w') (mid:Nat) (nt:mid=(a+b) / 2) (iN:mid < m) :
  Calls P 246 #[.slice (some ⟨blk,off,none⟩) sz cap,.int .i64 a,.int .i64 m,.int .i64 b,.func (.func g) #[] cb] w fun e w' =>
   e = .returned (.tuple #[])/\∃ d' M,d'.toList=p++(M++q)/\Srt key M/\qs key (A++B) M/\SWK enc k w0 blk off d' w':=by
 have LL:Aside _:=L;have RR:Aside _:=R;have HC:Aside _:=bV;have cJ:Aside _:=au;have cM:=L.c1;have cR:=L.c2;have mixed:=L.mixed;have aE:=L.aE;have zE:=L.zE;have uS:=run_underlying L.tS;have tN:=L.tN;have tNa:=L.tNa;have tNz:=L.tNz;have tNv:=L.tNv;have tB:=L.tB;have tBa:=L.tBa;have tBz:=L.tBz;have tBv:=L.tBv;have tS:=L.tS;have tSa:=L.tSa;have tSz:=L.tSz;have tSv:=L.tSv;have tU:=L.tU;have tUa:=L.tUa;have tUz:=L.tUz;have tUv:=L.tUv;have t0:=L.t0;have t0a:=L.t0a;have t0z:=L.t0z;have t0v:=L.t0v
 clear bV au;have S1:Aside _:=S;have HD:=lhd hd;have HP:=lhd hp;have HA:=lhd hA;have HB:=lhd hB;clear S hd hp hA hB;go_enter L.f1,Tryz.ntmps246;have Br:¬ (m:Int) - (a:Int)=1:=by omega
 have De:((m:Int) - (a:Int) == 1)=false:=by simpa using Br
 have GA:¬ (b:Int) - (m:Int)=1:=by omega
 have JR:((b:Int) - (m:Int) == 1)=false:=by simpa using GA
 have nu:IntKind.u64.wrap ((a:Int)+(b:Int))=(a:Int)+(b:Int):=by rw[IntKind.wrap_u64];omega
 have GB:((a:Int)+(b:Int)) / 2=(mid:Int):=by omega
 have eB:a < mid/\mid < b/\2*mid<=a+b/\a+b<=2*mid+1:=by omega
 clear nt;have JS:(mid:Int) < (m:Int):=by omega
 have fX:(mid:Int)+(m:Int) - (b:Int)=((mid+m - b:Nat):Int):=by omega
 obtain⟨s0,oT⟩ : ∃ s0:Nat,s0=mid+m - b:=⟨_,rfl⟩
 obtain⟨r0,pY⟩ : ∃ r0:Nat,r0=mid:=⟨_,rfl⟩
 have yW:(mid:Int)+(m:Int) - 1=((mid+m - 1:Nat):Int):=by omega
 obtain⟨pp,kC⟩ : ∃ pp:Nat,pp=mid+m - 1:=⟨_,rfl⟩
 rw[<-kC] at yW;have FA:=lhd (aiq oT (aiq pY kC));rw[<-oT] at fX;have b1:a<=s0:=by omega
 have b2:s0<=r0:=by omega
 have b3:r0<=m:=by omega
 have b4:r0<=mid:=by omega
 have b5:pp+1=mid+m:=by omega
 have b6:mid+m<=b+s0:=by omega
 have b7:s0=a\/mid+m=b+s0:=by omega
 have b8:r0=m\/r0=mid:=by omega
 clear oT pY kC;go_wp2;go_loopg [20,21] (r0 - s0) (fun g1 vi vj wr=>∃ (st r:Nat),vi = .int .i64 st/\vj = .int .i64 r/\s0<=st/\st<=r/\r<=r0/\r - st<=g1/\Hid ((st=s0\/¬ key d[pp - (st - 1)]! < key d[st - 1]!)/\(r=r0\/key d[pp - r]! < key d[r]!))/\Aside (SWK enc k w0 blk off d wr))
 case atStart=>exact⟨s0,r0,by first | rfl | go_num | (congr 1;omega),by first | (congr 1;omega) | (have:=FA.out.2.1;rw[this]),nlr _,b2,nlr _,nlr _,(show Hid _ from⟨.inl rfl,.inl rfl⟩),S1⟩
 case round =>
  clear S1;obtain⟨st,r,rfl,rfl,yX,JT,pY,dd,HI,S1⟩:=hrel;by_cases hlt:st < r
  ·have dE:(st:Int) < (r:Int):=by omega
   have Dd:IntKind.u64.wrap ((st:Int)+(r:Int))=(st:Int)+(r:Int):=by rw[IntKind.wrap_u64];omega
   obtain⟨h,hh⟩ : ∃ h:Nat,h=(st+r) / 2:=⟨_,rfl⟩
   have na:((st:Int)+(r:Int)) / 2=(h:Int):=by omega
   have pZ:(pp:Int) - (h:Int)=((pp - h:Nat):Int):=by omega
   have b9:m<=pp - h:=by omega
   have yY:pp - h < b:=by omega
   have tg:h < m:=by omega
   have yT:st<=h/\h < r:=by omega
   clear hh;obtain⟨dk,jF⟩ : ∃ dk,dk=d:=⟨_,rfl⟩
   subst jF;by_cases ed:key dk[pp - h]! < key dk[h]!
   ·have aG:cf dk[pp - h]! dk[h]! < 0:=(cJ.out _ _).2 ed;have np:=lhd ed;clear ed;have T6:(((pp - h:Nat):Int)).toNat=pp - h:=by omega
    have T7:(0:Int)<=((pp - h:Nat):Int):=by omega
    have T8:((pp - h:Nat):Int) < (sz:Int):=by omega
    have T9:IntKind.i64.wrap (((pp - h:Nat):Int))=((pp - h:Nat):Int):=by rw[IntKind.wrap_i64];omega
    have TA:((h:Int)).toNat=h:=by omega
    have TB:(0:Int)<=(h:Int):=by omega
    have TC:(h:Int) < (sz:Int):=by omega
    have TD:IntKind.i64.wrap ((h:Int))=(h:Int):=by rw[IntKind.wrap_i64];omega
    obtain⟨x7,yZ⟩ : ∃ x,x=dk[pp - h]!:=⟨_,rfl⟩
    obtain⟨y7,zA⟩ : ∃ x,x=dk[h]!:=⟨_,rfl⟩
    have Dg:=S1.out.ld R (by omega) P (pp - h) (by omega);have Dh:=S1.out.ld R (by omega) P (h) (by omega);rw[<-yZ] at Dg;rw[<-zA] at Dh;have vW:=S1.out.cmp HC.out (by omega) x7 y7;have JU:cf x7 y7 < 0:=by rw[yZ,zA];exact aG
    have TE:decide (cf x7 y7 < 0)=true:=decide_eq_true JU;clear yZ zA aG;go_wp2_with fail
    go_quiet_grown (first | (go_at_fn g;refine Calls.grown_of (vW _ _)))
    have S2:Aside (SWK enc k w0 blk off dk (grow (wr.drewN nq) osq)):=S1.out.grown nq osq;clear Dg Dh vW S1;generalize grow (wr.drewN nq) osq=wq at S2 ⊢;clear nq osq;go_wp2;go_roundg (h - st)
    case measure=>omega
    case rel=>exact⟨st,h,by first | rfl | go_num,by first | rfl | go_num,yX,by omega,by omega,by omega,(show Hid _ from⟨HI.out.1,.inr np.out⟩),S2⟩
   ·have aG:¬ cf dk[pp - h]! dk[h]! < 0:=fun q=>ed ((cJ.out _ _).1 q)
    have np:=lhd ed;clear ed;have TF:(((pp - h:Nat):Int)).toNat=pp - h:=by omega
    have TG:(0:Int)<=((pp - h:Nat):Int):=by omega
    have TH:((pp - h:Nat):Int) < (sz:Int):=by omega
    have TI:IntKind.i64.wrap (((pp - h:Nat):Int))=((pp - h:Nat):Int):=by rw[IntKind.wrap_i64];omega
    have TJ:((h:Int)).toNat=h:=by omega
    have TK:(0:Int)<=(h:Int):=by omega
    have TL:(h:Int) < (sz:Int):=by omega
    have TM:IntKind.i64.wrap ((h:Int))=(h:Int):=by rw[IntKind.wrap_i64];omega
    obtain⟨x8,oe⟩ : ∃ x,x=dk[pp - h]!:=⟨_,rfl⟩
    obtain⟨y8,zB⟩ : ∃ x,x=dk[h]!:=⟨_,rfl⟩
    have Di:=S1.out.ld R (by omega) P (pp - h) (by omega);have Dj:=S1.out.ld R (by omega) P (h) (by omega);rw[<-oe] at Di;rw[<-zB] at Dj;have Dk:=S1.out.cmp HC.out (by omega) x8 y8;have JV:¬ cf x8 y8 < 0:=by rw[oe,zB];exact aG
    have GC:decide (cf x8 y8 < 0)=false:=decide_eq_false JV;clear oe zB aG;go_wp2_with fail
    go_quiet_grown (first | (go_at_fn g;refine Calls.grown_of (Dk _ _)))
    have S2:Aside (SWK enc k w0 blk off dk (grow (wr.drewN nq) osq)):=S1.out.grown nq osq;clear Di Dj Dk S1;generalize grow (wr.drewN nq) osq=wq at S2 ⊢;clear nq osq;go_wp2;go_roundg (r - (h+1))
    case measure=>omega
    case rel=>exact⟨h+1,r,by first | rfl | go_num,by first | rfl | go_num,by omega,by omega,pY,by omega,(show Hid _ from⟨.inr (by simpa using np.out),HI.out.2⟩),S2⟩
  ·have dE:¬ (st:Int) < (r:Int):=by omega
   have vX:r=st:=by omega
   subst vX;have mD:(mid:Int)+(m:Int) - (r:Int)=((mid+m - r:Nat):Int):=by omega
   obtain⟨en,rq⟩ : ∃ en:Nat,en=mid+m - r:=⟨_,rfl⟩
   rw[<-rq] at mD;have TN:en+r=mid+m:=by omega
   clear rq;obtain⟨st,aB⟩ : ∃ st,st=r:=⟨_,rfl⟩
   subst aB;have tV:=q7m d HD.out HP.out hm hb HA.out HB.out st en pp (by omega) (by omega) (by omega) (by omega) (by omega) (HI.out.1.imp (fun h=>by omega) id) (HI.out.2.imp (fun h=>by omega) id);obtain⟨A0,iw⟩ : ∃ l,l=A.take (st - a):=⟨_,rfl⟩
   obtain⟨A1,lH⟩ : ∃ l,l=A.drop (st - a):=⟨_,rfl⟩
   obtain⟨B1,ak⟩ : ∃ l,l=B.take (en - m):=⟨_,rfl⟩
   obtain⟨B0,bQ⟩ : ∃ l,l=B.drop (en - m):=⟨_,rfl⟩
   have mE:A0++A1=A:=by rw[iw,lH,gr]
   have eF:B1++B0=B:=by rw[ak,bQ,gr]
   have l1:a+A0.length=st:=by rw[iw,gd];omega
   have l2:B1.length+m=en:=by rw[ak,gd];omega
   have l3:A1.length+st=m:=by rw[lH,gu];omega
   have l4:B0.length+en=b:=by rw[bQ,gu];omega
   rw[<-iw,<-lH,<-bQ,<-ak] at tV;have HS:Hid (Srt key A0/\Srt key B1/\Srt key A1/\Srt key B0):=by
    have q1:=HA.out;have q2:=HB.out
    rw[<-mE] at q1;rw[<-eF] at q2;exact⟨q1.left,q2.left,q1.right,q2.right⟩
   have fin:∀ M1 M2,(Srt key M1/\qs key (A0++B1) M1)->(Srt key M2/\qs key (A1++B0) M2)->Srt key (M1++M2)/\qs key (A++B) (M1++M2):=fun M1 M2 k1 k2=>by
    have:=q2k (by rw[mE];exact HA.out) (by rw[eF];exact HB.out) tV.1 tV.2 k1.1 k1.2 k2.1 k2.2
    rwa [mE,eF] at this
   have bI:Aside _:=fin;have fi:Hid (d.toList=p++(A0++(A1++(B1++(B0++q))))):=by
    show _=_;rw[HD.out,<-mE,<-eF];simp
   clear tV iw lH bQ ak mE eF fin HI;by_cases hq:st < mid
   ·have r1:(st:Int) < (m:Int):=by omega
    have r2:(m:Int) < (en:Int):=by omega
    have r3:(st:Int) < (mid:Int):=by omega
    have r4:(mid:Int) < (en:Int):=by omega
    go_wp2_with fail;refine(qdr LL.out enc g cb blk off cap sz d0 w0 RR.out hs az d wr S1.out st m en (p++A0) A1 B1 (B0++q) (by rw[fi.out];simp) (by simp;have:=HP.out;omega) (by omega) (by omega) (by omega) (by omega) (by omega) fw).mono ?_;rintro e w1 ⟨rfl,dk,hd1,S2⟩;have HR:Hid (dk.toList=p++(A0++(B1++(A1++(B0++q))))):=by show _=_;rw[hd1];simp
    have fA:dk.size=sz:=by
     have h1:=congrArg List.length HR.out;have h2:=congrArg List.length fi.out;simp at h1 h2;omega
    clear hd1;have S1:Aside _:=S2;clear S2;obtain⟨wr,Dl⟩ : ∃ wr,wr=w1:=⟨_,rfl⟩
    subst Dl;have lp:p.length=a:=HP.out;by_cases tW:a < st
    ·have hu:(a:Int) < (st:Int):=by omega
     go_wp2_with fail;refine(ih a st mid dk wr p A0 B1 (A1++(B0++q)) (by omega) S1.out HR.out HP.out (by omega) (by omega) (by omega) (by omega) HS.out.1 HS.out.2.1 (by omega) fA).mono ?_;rintro e w2 ⟨rfl,d2,M1,bX,fS,tH,S2⟩;have iy:=lhd (aiq fS tH);clear fS tH;have fL:=lhd bX;clear bX;have ru:M1.length=A0.length+B1.length:=by have:=iy.out.2.len;rw[gc] at this;exact this.symm
     have er:d2.size=sz:=by
      have h1:=congrArg List.length fL.out;have h2:=congrArg List.length HR.out;simp at h1 h2;omega
     have S2:Aside _:=S2;clear S1;by_cases JW:en < b
     ·have hv:(en:Int) < (b:Int):=by omega
      go_wp2_with fail;refine(ih mid en b d2 _ (p++M1) A1 B0 q (by omega) S2.out (by rw[fL.out];simp) (by simp;omega) (by omega) (by omega) (by omega) (by omega) HS.out.2.2.1 HS.out.2.2.2 (by omega) er).mono ?_;rintro e w3 ⟨rfl,d3,M2,ey,ez,mU,S3⟩;have iV:=lhd (aiq ez mU);clear ez mU;have oU:=lhd ey;clear ey;have S3:Aside _:=S3;clear S2;go_wp2
      go_end0
      exact⟨rfl,d3,M1++M2,by rw[oU.out];simp,(bI.out M1 M2 iy.out iV.out).1,(bI.out M1 M2 iy.out iV.out).2,S3.out⟩
     ·have hv:¬ (en:Int) < (b:Int):=by omega
      have bQ:B0=[]:=gz (by omega);have kA:=lhd bQ;clear bQ;go_wp2
      go_end0
      have ez:Srt key (A1++B0)/\qs key (A1++B0) (A1++B0):=⟨ye HS.out.2.2.1 HS.out.2.2.2 (.inr kA.out),qs.refl _⟩
      exact⟨rfl,d2,M1++(A1++B0),by rw[fL.out];simp,(bI.out M1 _ iy.out ez).1,(bI.out M1 _ iy.out ez).2,S2.out⟩
    ·have hu:¬ (a:Int) < (st:Int):=by omega
     obtain⟨d2,eR⟩ : ∃ d2,d2=dk:=⟨_,rfl⟩
     obtain⟨M1,fS⟩ : ∃ M1,M1=A0++B1:=⟨_,rfl⟩
     have fL:Hid (d2.toList=p++(M1++(A1++(B0++q)))):=by show _=_;rw[eR,fS,HR.out];simp
     have iy:Hid (Srt key M1/\qs key (A0++B1) M1):=by
      refine⟨?_,by rw[fS];exact qs.refl _⟩;rw[fS];exact ye HS.out.1 HS.out.2.1 (.inl (gz (by omega)))
     have ru:M1.length=A0.length+B1.length:=by rw[fS];simp
     have er:d2.size=sz:=by rw[eR];exact fA
     have S2:Aside (SWK enc k w0 blk off d2 wr):=by rw[eR];exact S1
     clear S1 eR fS;by_cases JW:en < b
     ·have hv:(en:Int) < (b:Int):=by omega
      go_wp2_with fail;refine(ih mid en b d2 _ (p++M1) A1 B0 q (by omega) S2.out (by rw[fL.out];simp) (by simp;omega) (by omega) (by omega) (by omega) (by omega) HS.out.2.2.1 HS.out.2.2.2 (by omega) er).mono ?_;rintro e w3 ⟨rfl,d3,M2,ey,ez,mU,S3⟩;have iV:=lhd (aiq ez mU);clear ez mU;have oU:=lhd ey;clear ey;have S3:Aside _:=S3;clear S2;go_wp2
      go_end0
      exact⟨rfl,d3,M1++M2,by rw[oU.out];simp,(bI.out M1 M2 iy.out iV.out).1,(bI.out M1 M2 iy.out iV.out).2,S3.out⟩
     ·have hv:¬ (en:Int) < (b:Int):=by omega
      have bQ:B0=[]:=gz (by omega);have kA:=lhd bQ;clear bQ;go_wp2
      go_end0
      have ez:Srt key (A1++B0)/\qs key (A1++B0) (A1++B0):=⟨ye HS.out.2.2.1 HS.out.2.2.2 (.inr kA.out),qs.refl _⟩
      exact⟨rfl,d2,M1++(A1++B0),by rw[fL.out];simp,(bI.out M1 _ iy.out ez).1,(bI.out M1 _ iy.out ez).2,S2.out⟩
   ·have r1:(st:Int) < (m:Int):=by omega
    have r2:¬ (m:Int) < (en:Int):=by omega
    have r3:¬ (st:Int) < (mid:Int):=by omega
    have r4:(mid:Int) < (en:Int):=by omega
    have r5:(a:Int) < (st:Int):=by omega
    have hv:(en:Int) < (b:Int):=by omega
    have ak:B1=[]:=gz (by omega);have aV:=lhd ak;clear ak;have lp:p.length=a:=HP.out;go_wp2_with fail;refine(ih mid en b d _ (p++A0) A1 B0 q (by omega) S1.out (by rw[fi.out,aV.out];simp) (by simp;omega) (by omega) (by omega) (by omega) (by omega) HS.out.2.2.1 HS.out.2.2.2 (by omega) fw).mono ?_;rintro e w3 ⟨rfl,d3,M2,ey,ez,mU,S3⟩;have iV:=lhd (aiq ez mU);clear ez mU;have oU:=lhd ey;clear ey;have S3:Aside _:=S3;clear S1;go_wp2
    go_end0
    have fS:Srt key A0/\qs key (A0++B1) A0:=⟨HS.out.1,by rw[aV.out,gN];exact qs.refl _⟩
    exact⟨rfl,d3,A0++M2,by rw[oU.out];simp,(bI.out A0 M2 fS iV.out).1,(bI.out A0 M2 fS iV.out).2,S3.out⟩
end Go.Proofs.YtlhicnfeajejhaaGreatDoor
