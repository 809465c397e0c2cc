/- Steps towards MorseMaps. Conditions: none. -/
import Derived.Test.YtlhicnfeajejhaaGreatDoorHNb
set_option maxRecDepth 1000000
set_option maxHeartbeats 16000000
namespace Go.Proofs.YtlhicnfeajejhaaGreatDoor
open Go.RowKit Go.Cx Go.Shelf Go.Lib Go.Sort Go.Proofs
variable {P:Program} {k:Nat} {α:Type} [Inhabited α]
theorem qh9 (L:q33 P k) (enc:α->List Value) (cf:α->α->Int) (key:α->Int) (g:Nat) (cb:Array Value) (blk off cap sz:Nat) (d0:Array α) (w0:World) (eg:∀ args w,(callFunc g args).run P w = .ok (.enter g args) w) (bV:CmpLays P g cb enc k cf blk off d0.size w0) (au:∀ x y,cf x y < 0↔key x < key y) (R:RowK enc k w0 blk off d0) (hs:d0.size=sz) (az:sz<=1099511627776) (a m b:Nat) (d:Array α) (w:World) (p A B q:List α) (S:SWK enc k w0 blk off d w) (hd:d.toList=p++(A++(B++q))) (hp:p.length=a) (hm:a+A.length=m) (hb:m+B.length=b) (hA:Srt key A) (hB:Srt key B) (jD:b<=sz) (fw:d.size=sz) (fh:m - a=1) (bQ:0 < B.length) :
  Calls P 246 #[.slice (some ⟨blk,off,none⟩) sz cap,.int .i64 a,.int .i64 m,.int .i64 b,.func (.func g) #[] cb] w fun e w' =>
   e = .returned (.tuple #[])/\∃ d' M,d'.toList=p++(M++q)/\Srt key M/\qs key (A++B) M/\SWK enc k w0 blk off d' w':=by
 have LL:Aside _:=L;have RR:Aside _:=R;have HC:Aside _:=bV;have cJ:Aside _:=au;have cM:=L.c1;have cR:=L.c2;have mixed:=L.mixed;have aE:=L.aE;have zE:=L.zE;have uS:=run_underlying L.tS;have tN:=L.tN;have tNa:=L.tNa;have tNz:=L.tNz;have tNv:=L.tNv;have tB:=L.tB;have tBa:=L.tBa;have tBz:=L.tBz;have tBv:=L.tBv;have tS:=L.tS;have tSa:=L.tSa;have tSz:=L.tSz;have tSv:=L.tSv;have tU:=L.tU;have tUa:=L.tUa;have tUz:=L.tUz;have tUv:=L.tUv;have t0:=L.t0;have t0a:=L.t0a;have t0z:=L.t0z;have t0v:=L.t0v
 clear bV au;have S1:Aside _:=S;have HD:=lhd hd;have HP:=lhd hp;have HA:=lhd hA;have HB:=lhd hB;clear S hd hp hA hB;go_enter L.f1,Tryz.ntmps246;have Br:(m:Int) - (a:Int)=1:=by omega
 obtain⟨x,O5⟩ : ∃ x,A=[x]:=by
  match A,(show A.length=1 by omega) with
  | [x],_=>exact⟨x,rfl⟩
 have JJ:=lhd O5;clear O5;have dX:d[a]! = x:=yo d (p:=p) (q:=B++q) (by rw[HD.out,JJ.out];rfl) HP.out;have DX:=lhd dX;clear dX;go_wp2;go_loopg [10,11] (b - m) (fun g1 vi vj wr=>∃ (i j:Nat),vi = .int .i64 i/\vj = .int .i64 j/\m<=i/\i<=j/\j<=b/\j - i<=g1/\Hid ((i=m\/key d[i - 1]! < key x)/\(j=b\/¬ key d[j]! < key x))/\Aside (SWK enc k w0 blk off d wr))
 case atStart=>exact⟨m,b,rfl,rfl,nlr _,by omega,nlr _,nlr _,(show Hid _ from⟨.inl rfl,.inl rfl⟩),S1⟩
 case round =>
  clear S1;obtain⟨i,j,rfl,rfl,hi0,iB,JK,dd,HI,S1⟩:=hrel;by_cases hlt:i < j
  ·have dE:(i:Int) < (j:Int):=by omega
   have Dd:IntKind.u64.wrap ((i:Int)+(j:Int))=(i:Int)+(j:Int):=by rw[IntKind.wrap_u64];omega
   obtain⟨h,hh⟩ : ∃ h:Nat,h=(i+j) / 2:=⟨_,rfl⟩
   have na:((i:Int)+(j:Int)) / 2=(h:Int):=by omega
   have yT:i<=h/\h < j:=by omega
   clear hh;obtain⟨dk,jF⟩ : ∃ dk,dk=d:=⟨_,rfl⟩
   subst jF;by_cases ed:key dk[h]! < key x
   ·have aG:cf dk[h]! dk[a]! < 0:=by rw[DX.out];exact(cJ.out _ _).2 ed
    have np:=lhd ed;clear ed;have Ol:((h:Int)).toNat=h:=by omega
    have Om:(0:Int)<=(h:Int):=by omega
    have On:(h:Int) < (sz:Int):=by omega
    have Oo:IntKind.i64.wrap ((h:Int))=(h:Int):=by rw[IntKind.wrap_i64];omega
    have Oq:((a:Int)).toNat=a:=by omega
    have Ot:(0:Int)<=(a:Int):=by omega
    have Ou:(a:Int) < (sz:Int):=by omega
    have Ov:IntKind.i64.wrap ((a:Int))=(a:Int):=by rw[IntKind.wrap_i64];omega
    obtain⟨x1,eQ⟩ : ∃ x,x=dk[h]!:=⟨_,rfl⟩
    obtain⟨y1,ib⟩ : ∃ x,x=dk[a]!:=⟨_,rfl⟩
    have vN:=S1.out.ld R (by omega) P (h) (by omega);have vO:=S1.out.ld R (by omega) P (a) (by omega);rw[<-eQ] at vN;rw[<-ib] at vO;have fs:=S1.out.cmp HC.out (by omega) x1 y1;have hv1:cf x1 y1 < 0:=by rw[eQ,ib];exact aG
    have hd1:decide (cf x1 y1 < 0)=true:=decide_eq_true hv1;clear eQ ib aG;go_wp2_with fail
    go_quiet_grown (first | (go_at_fn g;refine Calls.grown_of (fs _ _)))
    have S2:Aside (SWK enc k w0 blk off dk (grow (wr.drewN nq) osq)):=S1.out.grown nq osq;clear vN vO fs S1;generalize grow (wr.drewN nq) osq=wq at S2 ⊢;clear nq osq;go_wp2;go_roundg (j - (h+1))
    case measure=>omega
    case rel=>exact⟨h+1,j,by first | rfl | go_num,by first | rfl | go_num,by omega,by omega,JK,by omega,(show Hid _ from⟨.inr (by simpa using np.out),HI.out.2⟩),S2⟩
   ·have aG:¬ cf dk[h]! dk[a]! < 0:=by rw[DX.out];exact fun q=>ed ((cJ.out _ _).1 q)
    have np:=lhd ed;clear ed;have J7:((h:Int)).toNat=h:=by omega
    have J8:(0:Int)<=(h:Int):=by omega
    have J9:(h:Int) < (sz:Int):=by omega
    have JA:IntKind.i64.wrap ((h:Int))=(h:Int):=by rw[IntKind.wrap_i64];omega
    have JC:((a:Int)).toNat=a:=by omega
    have JD:(0:Int)<=(a:Int):=by omega
    have JE:(a:Int) < (sz:Int):=by omega
    have JF:IntKind.i64.wrap ((a:Int))=(a:Int):=by rw[IntKind.wrap_i64];omega
    obtain⟨x2,ri⟩ : ∃ x,x=dk[h]!:=⟨_,rfl⟩
    obtain⟨y2,pX⟩ : ∃ x,x=dk[a]!:=⟨_,rfl⟩
    have rm:=S1.out.ld R (by omega) P (h) (by omega);have rn:=S1.out.ld R (by omega) P (a) (by omega);rw[<-ri] at rm;rw[<-pX] at rn;have jW:=S1.out.cmp HC.out (by omega) x2 y2;have hv2:¬ cf x2 y2 < 0:=by rw[ri,pX];exact aG
    have bX:decide (cf x2 y2 < 0)=false:=decide_eq_false hv2;clear ri pX aG;go_wp2_with fail
    go_quiet_grown (first | (go_at_fn g;refine Calls.grown_of (jW _ _)))
    have S2:Aside (SWK enc k w0 blk off dk (grow (wr.drewN nq) osq)):=S1.out.grown nq osq;clear rm rn jW S1;generalize grow (wr.drewN nq) osq=wq at S2 ⊢;clear nq osq;go_wp2;go_roundg (h - i)
    case measure=>omega
    case rel=>exact⟨i,h,by first | rfl | go_num,by first | rfl | go_num,hi0,by omega,by omega,by omega,(show Hid _ from⟨HI.out.1,.inr np.out⟩),S2⟩
  ·have dE:¬ (i:Int) < (j:Int):=by omega
   have dA:j=i:=by omega
   subst dA;obtain⟨t,ht⟩ : ∃ t,t=j:=⟨_,rfl⟩
   subst ht;have bX:d.toList=(p++A)++(B++q):=by rw[HD.out];simp
   have qS:(p++A).length=m:=by have:=HP.out;simp;omega
   have q1:=qdm d bX qS HB.out t hi0 (by omega) (key x - 1) (HI.out.1.imp id (fun h=>by omega));have q2:=qdn d bX qS HB.out t hi0 (key x) (HI.out.2.imp (fun h=>by omega) (fun h=>by omega));obtain⟨B1,ak⟩ : ∃ l,l=B.take (t - m):=⟨_,rfl⟩
   obtain⟨B2,ar⟩ : ∃ l,l=B.drop (t - m):=⟨_,rfl⟩
   rw[<-ak] at q1;rw[<-ar] at q2;have l1:B1.length+m=t:=by rw[ak,gd];omega
   have eF:B1++B2=B:=by rw[ak,ar,gr]
   have fin:=qh6 (key:=key) (x:=x) (B1:=B1) (B2:=B2) (by rw[eF];exact HB.out) (fun y hy=>by have:=q1 y hy;omega) (fun y hy=>by have:=q2 y hy;omega);rw[eF,<-JJ.out] at fin;have fi:Hid (d.toList=p++x :: (B1++(B2++q))):=by show _=_;rw[HD.out,JJ.out,<-eF];simp
   have bI:=lhd fin;clear q1 q2 bX qS ak ar eF fin HI;go_wp2;go_loopg [13] (t - a) (fun g2 vk nk=>∃ (kk:Nat) (dk:Array α),vk = .int .i64 kk/\a<=kk/\kk+1<=t/\t - kk<=g2/\dk.size=sz/\Hid (dk.toList=p++(B1.take (kk - a)++x :: (B1.drop (kk - a)++(B2++q))))/\Aside (SWK enc k w0 blk off dk nk))
   case atStart=>exact⟨a,d,rfl,nlr _,by omega,nlr _,fw,(show Hid _ from by show _=_;rw[fi.out];simp),S1⟩
   case round =>
    clear S1;obtain⟨kk,dk,rfl,eC,fD,eW,fA,HT,S1⟩:=hrel;by_cases G9:kk+1 < t
    ·have yU:(kk:Int) < (t:Int) - 1:=by omega
     have hls:kk - a < B1.length:=by omega
     have eD:B1.drop (kk - a)=B1[kk - a]'hls :: B1.drop (kk - a+1):=gY hls;have eT:B1.take (kk - a+1)=B1.take (kk - a)++[B1[kk - a]'hls]:=List.take_succ_eq_append_getElem hls;generalize B1[kk - a]'hls=z at eD eT;have mT:(swp dk kk (kk+1)).toList=(p++B1.take (kk - a))++z :: x :: (B1.drop (kk - a+1)++(B2++q)) :=
      qkc dk (by rw[HT.out,eD];simp only [gE,bh]) (by have:=HP.out;rw[gc,gd];omega) (by have:=HP.out;rw[gc,gd];omega)
     have ou:Hid ((swp dk kk (kk+1)).toList=p++(B1.take (kk+1 - a)++x :: (B1.drop (kk+1 - a)++(B2++q)))):=by
      show _=_;rw[mT,show kk+1 - a=kk - a+1 by omega,eT];simp only [gE,bh,List.nil_append]
     clear mT eD eT;go_wp2_with fail;have Ow:((kk:Int)).toNat=kk:=by omega
     have Ox:(0:Int)<=(kk:Int):=by omega
     have Oy:(kk:Int) < (sz:Int):=by omega
     have Oz:IntKind.i64.wrap ((kk:Int))=(kk:Int):=by rw[IntKind.wrap_i64];omega
     have O0:((kk:Int)+1).toNat=kk+1:=by omega
     have O1:(0:Int)<=(kk:Int)+1:=by omega
     have O2:(kk:Int)+1 < (sz:Int):=by omega
     have O3:IntKind.i64.wrap ((kk:Int)+1)=(kk:Int)+1:=by rw[IntKind.wrap_i64];omega
     have S3:Aside (SWK enc k w0 blk off (swp dk (kk) (kk+1)) ((wr.drew.setCells blk (off+(kk)*k) (enc dk[kk+1]!)).setCells blk (off+(kk+1)*k) (enc dk[kk]!))):=S1.out.swapped R (kk) (kk+1) (by omega) (by omega);have vQ:=S1.out.ld1 R (by omega) P (kk) (by omega);have vR:=S1.out.ld1 R (by omega) P (kk+1) (by omega);have O6:=S1.out.st1 R (by omega) P (kk) (by omega) dk[kk+1]!;have JL:=S1.out.st2 R (by omega) P (kk) (kk+1) (by omega) (by omega) dk[kk+1]! dk[kk]!;have Ty:(enc dk[kk]!).length=k:=R.hk _;have Tz:(enc dk[kk+1]!).length=k:=R.hk _;generalize enc dk[kk]! = cI3 at S3 vQ JL Ty;generalize enc dk[kk+1]! = cJ3 at S3 vR O6 JL Tz;clear S1;go_wp2_with fail
     go_big_region_o
     clear vQ vR O6 JL;generalize (wr.drew.setCells blk (off+(kk)*k) cJ3).setCells blk (off+(kk+1)*k) cI3=wq2 at S3 ⊢
     all_goals go_wp2
     go_roundg (t - (kk+1))
     case measure=>omega
     case rel=>exact⟨kk+1,_,by first | rfl | go_num | (congr 1;omega),by omega,by omega,nlr _,by rw[size_swp];exact fA,ou,S3⟩
    ·have yU:¬ (kk:Int) < (t:Int) - 1:=by omega
     have HK:Hid (kk - a=B1.length):=by show _=_;omega
     go_wp2
     (try simp only [Exit.inBlock,Exit.then]);refine bodyPost_ret (results_none rfl _ _ _) rfl ?_
     refine⟨rfl,dk,B1++x :: B2,?_,bI.out.1,bI.out.2,S1.out⟩;rw[HT.out,HK.out];simp
theorem qha (L:q33 P k) (enc:α->List Value) (cf:α->α->Int) (key:α->Int) (g:Nat) (cb:Array Value) (blk off cap sz:Nat) (d0:Array α) (w0:World) (eg:∀ args w,(callFunc g args).run P w = .ok (.enter g args) w) (bV:CmpLays P g cb enc k cf blk off d0.size w0) (au:∀ x y,cf x y < 0↔key x < key y) (R:RowK enc k w0 blk off d0) (hs:d0.size=sz) (az:sz<=1099511627776) (a m b:Nat) (d:Array α) (w:World) (p A B q:List α) (S:SWK enc k w0 blk off d w) (hd:d.toList=p++(A++(B++q))) (hp:p.length=a) (hm:a+A.length=m) (hb:m+B.length=b) (hA:Srt key A) (hB:Srt key B) (jD:b<=sz) (fw:d.size=sz) (fh:¬ m - a=1) (oS:b - m=1) :
  Calls P 246 #[.slice (some ⟨blk,off,none⟩) sz cap,.int .i64 a,.int .i64 m,.int .i64 b,.func (.func g) #[] cb] w fun e w' =>
   e = .returned (.tuple #[])/\∃ d' M,d'.toList=p++(M++q)/\Srt key M/\qs key (A++B) M/\SWK enc k w0 blk off d' w':=by
 have LL:Aside _:=L;have RR:Aside _:=R;have HC:Aside _:=bV;have cJ:Aside _:=au;have cM:=L.c1;have cR:=L.c2;have mixed:=L.mixed;have aE:=L.aE;have zE:=L.zE;have uS:=run_underlying L.tS;have tN:=L.tN;have tNa:=L.tNa;have tNz:=L.tNz;have tNv:=L.tNv;have tB:=L.tB;have tBa:=L.tBa;have tBz:=L.tBz;have tBv:=L.tBv;have tS:=L.tS;have tSa:=L.tSa;have tSz:=L.tSz;have tSv:=L.tSv;have tU:=L.tU;have tUa:=L.tUa;have tUz:=L.tUz;have tUv:=L.tUv;have t0:=L.t0;have t0a:=L.t0a;have t0z:=L.t0z;have t0v:=L.t0v
 clear bV au;have S1:Aside _:=S;have HD:=lhd hd;have HP:=lhd hp;have HA:=lhd hA;have HB:=lhd hB;clear S hd hp hA hB;go_enter L.f1,Tryz.ntmps246;have Br:¬ (m:Int) - (a:Int)=1:=by omega
 have De:((m:Int) - (a:Int) == 1)=false:=by simpa using Br
 have GA:(b:Int) - (m:Int)=1:=by omega
 obtain⟨y,JM⟩ : ∃ y,B=[y]:=by
  match B,(show B.length=1 by omega) with
  | [y],_=>exact⟨y,rfl⟩
 have JN:=lhd JM;clear JM;have dY:d[m]! = y:=yo d (p:=p++A) (q:=q) (by rw[HD.out,JN.out];simp) (by have:=HP.out;simp;omega);have DY:=lhd dY;clear dY;go_wp2;go_loopg [14,15] (m - a) (fun g1 vi vj wr=>∃ (i j:Nat),vi = .int .i64 i/\vj = .int .i64 j/\a<=i/\i<=j/\j<=m/\j - i<=g1/\Hid ((i=a\/¬ key y < key d[i - 1]!)/\(j=m\/key y < key d[j]!))/\Aside (SWK enc k w0 blk off d wr))
 case atStart=>exact⟨a,m,rfl,rfl,nlr _,by omega,nlr _,nlr _,(show Hid _ from⟨.inl rfl,.inl rfl⟩),S1⟩
 case round =>
  clear S1;obtain⟨i,j,rfl,rfl,hi0,iB,JK,dd,HI,S1⟩:=hrel;by_cases hlt:i < j
  ·have dE:(i:Int) < (j:Int):=by omega
   have Dd:IntKind.u64.wrap ((i:Int)+(j:Int))=(i:Int)+(j:Int):=by rw[IntKind.wrap_u64];omega
   obtain⟨h,hh⟩ : ∃ h:Nat,h=(i+j) / 2:=⟨_,rfl⟩
   have na:((i:Int)+(j:Int)) / 2=(h:Int):=by omega
   have yT:i<=h/\h < j:=by omega
   clear hh;obtain⟨dk,jF⟩ : ∃ dk,dk=d:=⟨_,rfl⟩
   subst jF;by_cases ed:key y < key dk[h]!
   ·have aG:cf dk[m]! dk[h]! < 0:=by rw[DY.out];exact(cJ.out _ _).2 ed
    have np:=lhd ed;clear ed;have Yg:((m:Int)).toNat=m:=by omega
    have Yh:(0:Int)<=(m:Int):=by omega
    have Yi:(m:Int) < (sz:Int):=by omega
    have Yj:IntKind.i64.wrap ((m:Int))=(m:Int):=by rw[IntKind.wrap_i64];omega
    have Yk:((h:Int)).toNat=h:=by omega
    have Yl:(0:Int)<=(h:Int):=by omega
    have Ym:(h:Int) < (sz:Int):=by omega
    have Yn:IntKind.i64.wrap ((h:Int))=(h:Int):=by rw[IntKind.wrap_i64];omega
    obtain⟨x4,tT⟩ : ∃ x,x=dk[m]!:=⟨_,rfl⟩
    obtain⟨y4,Bt⟩ : ∃ x,x=dk[h]!:=⟨_,rfl⟩
    have O7:=S1.out.ld R (by omega) P (m) (by omega);have O8:=S1.out.ld R (by omega) P (h) (by omega);rw[<-tT] at O7;rw[<-Bt] at O8;have Df:=S1.out.cmp HC.out (by omega) x4 y4;have T0:cf x4 y4 < 0:=by rw[tT,Bt];exact aG
    have JO:decide (cf x4 y4 < 0)=true:=decide_eq_true T0;clear tT Bt aG;go_wp2_with fail
    go_quiet_grown (first | (go_at_fn g;refine Calls.grown_of (Df _ _)))
    have S2:Aside (SWK enc k w0 blk off dk (grow (wr.drewN nq) osq)):=S1.out.grown nq osq;clear O7 O8 Df S1;generalize grow (wr.drewN nq) osq=wq at S2 ⊢;clear nq osq;go_wp2;go_roundg (h - i)
    case measure=>omega
    case rel=>exact⟨i,h,by first | rfl | go_num,by first | rfl | go_num,hi0,by omega,by omega,by omega,(show Hid _ from⟨HI.out.1,.inr np.out⟩),S2⟩
   ·have aG:¬ cf dk[m]! dk[h]! < 0:=by rw[DY.out];exact fun q=>ed ((cJ.out _ _).1 q)
    have np:=lhd ed;clear ed;have Yo:((m:Int)).toNat=m:=by omega
    have Yp:(0:Int)<=(m:Int):=by omega
    have Yq:(m:Int) < (sz:Int):=by omega
    have Yr:IntKind.i64.wrap ((m:Int))=(m:Int):=by rw[IntKind.wrap_i64];omega
    have Ys:((h:Int)).toNat=h:=by omega
    have Yt:(0:Int)<=(h:Int):=by omega
    have Yu:(h:Int) < (sz:Int):=by omega
    have Yv:IntKind.i64.wrap ((h:Int))=(h:Int):=by rw[IntKind.wrap_i64];omega
    obtain⟨x5,JP⟩ : ∃ x,x=dk[m]!:=⟨_,rfl⟩
    obtain⟨y5,vU⟩ : ∃ x,x=dk[h]!:=⟨_,rfl⟩
    have O9:=S1.out.ld R (by omega) P (m) (by omega);have OA:=S1.out.ld R (by omega) P (h) (by omega);rw[<-JP] at O9;rw[<-vU] at OA;have vV:=S1.out.cmp HC.out (by omega) x5 y5;have T3:¬ cf x5 y5 < 0:=by rw[JP,vU];exact aG
    have Yw:decide (cf x5 y5 < 0)=false:=decide_eq_false T3;clear JP vU aG;go_wp2_with fail
    go_quiet_grown (first | (go_at_fn g;refine Calls.grown_of (vV _ _)))
    have S2:Aside (SWK enc k w0 blk off dk (grow (wr.drewN nq) osq)):=S1.out.grown nq osq;clear O9 OA vV S1;generalize grow (wr.drewN nq) osq=wq at S2 ⊢;clear nq osq;go_wp2;go_roundg (j - (h+1))
    case measure=>omega
    case rel=>exact⟨h+1,j,by first | rfl | go_num,by first | rfl | go_num,by omega,by omega,JK,by omega,(show Hid _ from⟨.inr (by simpa using np.out),HI.out.2⟩),S2⟩
  ·have dE:¬ (i:Int) < (j:Int):=by omega
   have dA:j=i:=by omega
   subst dA;obtain⟨t,ht⟩ : ∃ t,t=j:=⟨_,rfl⟩
   subst ht;have q1:=qdm d HD.out HP.out HA.out t hi0 (by omega) (key y) (HI.out.1.imp id (fun h=>by omega));have q2:=qdn d HD.out HP.out HA.out t hi0 (key y+1) (HI.out.2.imp (fun h=>by omega) (fun h=>by omega));obtain⟨A1,lH⟩ : ∃ l,l=A.take (t - a):=⟨_,rfl⟩
   obtain⟨A2,Bu⟩ : ∃ l,l=A.drop (t - a):=⟨_,rfl⟩
   rw[<-lH] at q1;rw[<-Bu] at q2;have l1:A1.length+a=t:=by rw[lH,gd];omega
   have l2:A2.length+t=m:=by rw[Bu,gu];omega
   have mE:A1++A2=A:=by rw[lH,Bu,gr]
   have fin:=qf4 (key:=key) (y:=y) (A1:=A1) (A2:=A2) (by rw[mE];exact HA.out) (fun x hx=>by have:=q1 x hx;omega) (fun x hx=>by have:=q2 x hx;omega);rw[mE,<-JN.out] at fin;have fi:Hid (d.toList=p++(A1++(A2++y :: q))):=by show _=_;rw[HD.out,JN.out,<-mE];simp
   have bI:=lhd fin;clear q1 q2 lH Bu mE fin HI;go_wp2;go_loopg [17] (m - t) (fun g2 vk nk=>∃ (kk:Nat) (dk:Array α),vk = .int .i64 kk/\t<=kk/\kk<=m/\kk - t<=g2/\dk.size=sz/\Hid (dk.toList=p++(A1++(A2.take (kk - t)++y :: (A2.drop (kk - t)++q))))/\Aside (SWK enc k w0 blk off dk nk))
   case atStart=>exact⟨m,d,rfl,by omega,nlr _,nlr _,fw,(show Hid _ from by show _=_;rw[fi.out,gm (by omega),gX (by omega)];simp),S1⟩
   case round =>
    clear S1;obtain⟨kk,dk,rfl,eC,fD,eW,fA,HT,S1⟩:=hrel;by_cases G9:t < kk
    ·obtain⟨kp,rfl⟩ : ∃ kp,kk=kp+1:=⟨kk - 1,by omega⟩
     have yU:(t:Int) < (kp:Int)+1:=by omega
     have my:IntKind.i64.wrap (kp:Int)=(kp:Int):=by rw[IntKind.wrap_i64];omega
     have hls:kp - t < A2.length:=by omega
     have eD:A2.drop (kp - t)=A2[kp - t]'hls :: A2.drop (kp - t+1):=gY hls;have eT:A2.take (kp - t+1)=A2.take (kp - t)++[A2[kp - t]'hls]:=List.take_succ_eq_append_getElem hls;generalize A2[kp - t]'hls=z at eD eT;have mT:(swp dk (kp+1) kp).toList=(p++(A1++A2.take (kp - t)))++y :: z :: (A2.drop (kp - t+1)++q) :=
      arr_adj' dk (by rw[HT.out,show kp+1 - t=kp - t+1 by omega,eT];simp only [gE,bh,List.nil_append]) (by have:=HP.out;rw[gc,gc,gd];omega) (by have:=HP.out;rw[gc,gc,gd];omega)
     have ou:Hid ((swp dk (kp+1) kp).toList=p++(A1++(A2.take (kp - t)++y :: (A2.drop (kp - t)++q)))):=by
      show _=_;rw[mT,eD];simp only [gE,bh]
     clear mT eD eT;go_wp2_with fail;have Yx:((kp:Int)+1).toNat=kp+1:=by omega
     have Yy:(0:Int)<=(kp:Int)+1:=by omega
     have Yz:(kp:Int)+1 < (sz:Int):=by omega
     have Y0:IntKind.i64.wrap ((kp:Int)+1)=(kp:Int)+1:=by rw[IntKind.wrap_i64];omega
     have Y1:((kp:Int)).toNat=kp:=by omega
     have Y2:(0:Int)<=(kp:Int):=by omega
     have Y3:(kp:Int) < (sz:Int):=by omega
     have Y4:IntKind.i64.wrap ((kp:Int))=(kp:Int):=by rw[IntKind.wrap_i64];omega
     have S3:Aside (SWK enc k w0 blk off (swp dk (kp+1) (kp)) ((wr.drew.setCells blk (off+(kp+1)*k) (enc dk[kp]!)).setCells blk (off+(kp)*k) (enc dk[kp+1]!))):=S1.out.swapped R (kp+1) (kp) (by omega) (by omega);have OB:=S1.out.ld1 R (by omega) P (kp+1) (by omega);have OC:=S1.out.ld1 R (by omega) P (kp) (by omega);have OD:=S1.out.st1 R (by omega) P (kp+1) (by omega) dk[kp]!;have JQ:=S1.out.st2 R (by omega) P (kp+1) (kp) (by omega) (by omega) dk[kp]! dk[kp+1]!;have T4:(enc dk[kp+1]!).length=k:=R.hk _;have T5:(enc dk[kp]!).length=k:=R.hk _;generalize enc dk[kp+1]! = cI6 at S3 OB JQ T4;generalize enc dk[kp]! = cJ6 at S3 OC OD JQ T5;clear S1;go_wp2_with fail
     go_big_region_o
     clear OB OC OD JQ;generalize (wr.drew.setCells blk (off+(kp+1)*k) cJ6).setCells blk (off+(kp)*k) cI6=wq2 at S3 ⊢
     all_goals go_wp2
     go_roundg (kp - t)
     case measure=>omega
     case rel=>exact⟨kp,_,by first | rfl | go_num | (congr 1;omega),by omega,by omega,nlr _,by rw[size_swp];exact fA,ou,S3⟩
    ·have yU:¬ (t:Int) < (kk:Int):=by omega
     have HK:Hid (kk - t=0):=by show _=_;omega
     go_wp2
     (try simp only [Exit.inBlock,Exit.then]);refine bodyPost_ret (results_none rfl _ _ _) rfl ?_
     refine⟨rfl,dk,A1++y :: A2,?_,bI.out.1,bI.out.2,S1.out⟩;rw[HT.out,HK.out];simp
end Go.Proofs.YtlhicnfeajejhaaGreatDoor
