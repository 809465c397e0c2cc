/- Steps towards MorseParts. Conditions: none. -/
import Derived.Test.YtlhicnfeajejhaaGreatDoorGNb
set_option maxRecDepth 1000000
set_option maxHeartbeats 16000000
namespace Go.Proofs.YtlhicnfeajejhaaGreatDoor
open Go.RowKit Go.Cx Go.Shelf Go.Lib Go.Sort Go.Proofs
variable {P:Program} {k:Nat} {α:Type} [Inhabited α]
theorem qh9 (L:q33 P k) (enc:α->List Value) (cf:α->α->Int) (key:α->Int) (g:Nat) (cb:Array Value) (blk off cap sz:Nat) (d0:Array α) (w0:World) (eg:∀ args w,(callFunc g args).run P w = .ok (.enter g args) w) (bY:CmpLays P g cb enc k cf blk off d0.size w0) (aq:∀ x y,cf x y < 0↔key x < key y) (R:RowK enc k w0 blk off d0) (hs:d0.size=sz) (ao:sz<=1099511627776) (a m b:Nat) (d:Array α) (w:World) (p A B q:List α) (S:SWK enc k w0 blk off d w) (hd:d.toList=p++(A++(B++q))) (hp:p.length=a) (hm:a+A.length=m) (hb:m+B.length=b) (hA:Srt key A) (hB:Srt key B) (kI:b<=sz) (fX:d.size=sz) (fL:m - a=1) (bT:0 < B.length) :
  Calls P 246 #[.slice (some ⟨blk,off,none⟩) sz cap,.int .i64 a,.int .i64 m,.int .i64 b,.func (.func g) #[] cb] w fun e w' =>
   e = .returned (.tuple #[])/\∃ d' M,d'.toList=p++(M++q)/\Srt key M/\qs key (A++B) M/\SWK enc k w0 blk off d' w':=by
 have LL:Aside _:=L;have RR:Aside _:=R;have HC:Aside _:=bY;have cT:Aside _:=aq;have cM:=L.c1;have cR:=L.c2;have mixed:=L.mixed;have aE:=L.aE;have zE:=L.zE;have uS:=run_underlying L.tS;have tN:=L.tN;have tNa:=L.tNa;have tNz:=L.tNz;have tNv:=L.tNv;have tB:=L.tB;have tBa:=L.tBa;have tBz:=L.tBz;have tBv:=L.tBv;have tS:=L.tS;have tSa:=L.tSa;have tSz:=L.tSz;have tSv:=L.tSv;have tU:=L.tU;have tUa:=L.tUa;have tUz:=L.tUz;have tUv:=L.tUv;have t0:=L.t0;have t0a:=L.t0a;have t0z:=L.t0z;have t0v:=L.t0v
 clear bY aq;have S1:Aside _:=S;have HD:=lhd hd;have HP:=lhd hp;have HA:=lhd hA;have HB:=lhd hB;clear S hd hp hA hB;go_enter L.f1,Tryz.ntmps246;have CA:(m:Int) - (a:Int)=1:=by omega
 obtain⟨x,OD⟩ : ∃ x,A=[x]:=by
  match A,(show A.length=1 by omega) with
  | [x],_=>exact⟨x,rfl⟩
 have JX:=lhd OD;clear OD;have dX:d[a]! = x:=yo d (p:=p) (q:=B++q) (by rw[HD.out,JX.out];rfl) HP.out;have DX:=lhd dX;clear dX;go_wp2;go_loopg [10,11] (b - m) (fun g1 vi vj wr=>∃ (i j:Nat),vi = .int .i64 i/\vj = .int .i64 j/\m<=i/\i<=j/\j<=b/\j - i<=g1/\Hid ((i=m\/key d[i - 1]! < key x)/\(j=b\/¬ key d[j]! < key x))/\Aside (SWK enc k w0 blk off d wr))
 case atStart=>exact⟨m,b,rfl,rfl,nlr _,by omega,nlr _,nlr _,(show Hid _ from⟨.inl rfl,.inl rfl⟩),S1⟩
 case round =>
  clear S1;obtain⟨i,j,rfl,rfl,hi0,jE,JY,dt,HI,S1⟩:=hrel;by_cases hlt:i < j
  ·have dO:(i:Int) < (j:Int):=by omega
   have DP:IntKind.u64.wrap ((i:Int)+(j:Int))=(i:Int)+(j:Int):=by rw[IntKind.wrap_u64];omega
   obtain⟨h,hh⟩ : ∃ h:Nat,h=(i+j) / 2:=⟨_,rfl⟩
   have jD:((i:Int)+(j:Int)) / 2=(h:Int):=by omega
   have Al:i<=h/\h < j:=by omega
   clear hh;obtain⟨dk,kR⟩ : ∃ dk,dk=d:=⟨_,rfl⟩
   subst kR;by_cases eB:key dk[h]! < key x
   ·have aH:cf dk[h]! dk[a]! < 0:=by rw[DX.out];exact(cT.out _ _).2 eB
    have oA:=lhd eB;clear eB;have Ow:((h:Int)).toNat=h:=by omega
    have Ox:(0:Int)<=(h:Int):=by omega
    have Oy:(h:Int) < (sz:Int):=by omega
    have Oz:IntKind.i64.wrap ((h:Int))=(h:Int):=by rw[IntKind.wrap_i64];omega
    have O0:((a:Int)).toNat=a:=by omega
    have O1:(0:Int)<=(a:Int):=by omega
    have O2:(a:Int) < (sz:Int):=by omega
    have O3:IntKind.i64.wrap ((a:Int))=(a:Int):=by rw[IntKind.wrap_i64];omega
    obtain⟨x1,eA⟩ : ∃ x,x=dk[h]!:=⟨_,rfl⟩
    obtain⟨y1,iU⟩ : ∃ x,x=dk[a]!:=⟨_,rfl⟩
    have xC:=S1.out.ld R (by omega) P (h) (by omega);have xD:=S1.out.ld R (by omega) P (a) (by omega);rw[<-eA] at xC;rw[<-iU] at xD;have fH:=S1.out.cmp HC.out (by omega) x1 y1;have hv1:cf x1 y1 < 0:=by rw[eA,iU];exact aH
    have hd1:decide (cf x1 y1 < 0)=true:=decide_eq_true hv1;clear eA iU aH;go_wp2_with fail
    go_quiet_grown (first | (go_at_fn g;refine Calls.grown_of (fH _ _)))
    have S2:Aside (SWK enc k w0 blk off dk (grow (wr.drewN nq) osq)):=S1.out.grown nq osq;clear xC xD fH S1;generalize grow (wr.drewN nq) osq=wq at S2 ⊢;clear nq osq;go_wp2;go_roundg (j - (h+1))
    case measure=>omega
    case rel=>exact⟨h+1,j,by first | rfl | go_num,by first | rfl | go_num,by omega,by omega,JY,by omega,(show Hid _ from⟨.inr (by simpa using oA.out),HI.out.2⟩),S2⟩
   ·have aH:¬ cf dk[h]! dk[a]! < 0:=by rw[DX.out];exact fun q=>eB ((cT.out _ _).1 q)
    have oA:=lhd eB;clear eB;have JM:((h:Int)).toNat=h:=by omega
    have JN:(0:Int)<=(h:Int):=by omega
    have JO:(h:Int) < (sz:Int):=by omega
    have JP:IntKind.i64.wrap ((h:Int))=(h:Int):=by rw[IntKind.wrap_i64];omega
    have JQ:((a:Int)).toNat=a:=by omega
    have JR:(0:Int)<=(a:Int):=by omega
    have JS:(a:Int) < (sz:Int):=by omega
    have JT:IntKind.i64.wrap ((a:Int))=(a:Int):=by rw[IntKind.wrap_i64];omega
    obtain⟨x2,xB⟩ : ∃ x,x=dk[h]!:=⟨_,rfl⟩
    obtain⟨y2,uU⟩ : ∃ x,x=dk[a]!:=⟨_,rfl⟩
    have sF:=S1.out.ld R (by omega) P (h) (by omega);have sH:=S1.out.ld R (by omega) P (a) (by omega);rw[<-xB] at sF;rw[<-uU] at sH;have ml:=S1.out.cmp HC.out (by omega) x2 y2;have hv2:¬ cf x2 y2 < 0:=by rw[xB,uU];exact aH
    have cj:decide (cf x2 y2 < 0)=false:=decide_eq_false hv2;clear xB uU aH;go_wp2_with fail
    go_quiet_grown (first | (go_at_fn g;refine Calls.grown_of (ml _ _)))
    have S2:Aside (SWK enc k w0 blk off dk (grow (wr.drewN nq) osq)):=S1.out.grown nq osq;clear sF sH ml S1;generalize grow (wr.drewN nq) osq=wq at S2 ⊢;clear nq osq;go_wp2;go_roundg (h - i)
    case measure=>omega
    case rel=>exact⟨i,h,by first | rfl | go_num,by first | rfl | go_num,hi0,by omega,by omega,by omega,(show Hid _ from⟨HI.out.1,.inr oA.out⟩),S2⟩
  ·have dO:¬ (i:Int) < (j:Int):=by omega
   have cE:j=i:=by omega
   subst cE;obtain⟨t,ht⟩ : ∃ t,t=j:=⟨_,rfl⟩
   subst ht;have cj:d.toList=(p++A)++(B++q):=by rw[HD.out];simp
   have rZ:(p++A).length=m:=by have:=HP.out;simp;omega
   have q1:=qdm d cj rZ HB.out t hi0 (by omega) (key x - 1) (HI.out.1.imp id (fun h=>by omega));have q2:=qdn d cj rZ HB.out t hi0 (key x) (HI.out.2.imp (fun h=>by omega) (fun h=>by omega));obtain⟨B1,ak⟩ : ∃ l,l=B.take (t - m):=⟨_,rfl⟩
   obtain⟨B2,aw⟩ : ∃ l,l=B.drop (t - m):=⟨_,rfl⟩
   rw[<-ak] at q1;rw[<-aw] at q2;have l1:B1.length+m=t:=by rw[ak,gd];omega
   have eQ:B1++B2=B:=by rw[ak,aw,gu]
   have fin:=qh6 (key:=key) (x:=x) (B1:=B1) (B2:=B2) (by rw[eQ];exact HB.out) (fun y hy=>by have:=q1 y hy;omega) (fun y hy=>by have:=q2 y hy;omega);rw[eQ,<-JX.out] at fin;have dJ:Hid (d.toList=p++x :: (B1++(B2++q))):=by show _=_;rw[HD.out,JX.out,<-eQ];simp
   have bM:=lhd fin;clear q1 q2 cj rZ ak aw eQ fin HI;go_wp2;go_loopg [13] (t - a) (fun g2 vk o9=>∃ (kk:Nat) (dk:Array α),vk = .int .i64 kk/\a<=kk/\kk+1<=t/\t - kk<=g2/\dk.size=sz/\Hid (dk.toList=p++(B1.take (kk - a)++x :: (B1.drop (kk - a)++(B2++q))))/\Aside (SWK enc k w0 blk off dk o9))
   case atStart=>exact⟨a,d,rfl,nlr _,by omega,nlr _,fX,(show Hid _ from by show _=_;rw[dJ.out];simp),S1⟩
   case round =>
    clear S1;obtain⟨kk,dk,rfl,dH,ig,fJ,fY,HT,S1⟩:=hrel;by_cases Hb:kk+1 < t
    ·have Am:(kk:Int) < (t:Int) - 1:=by omega
     have hls:kk - a < B1.length:=by omega
     have eD:B1.drop (kk - a)=B1[kk - a]'hls :: B1.drop (kk - a+1):=bf hls;have eT:B1.take (kk - a+1)=B1.take (kk - a)++[B1[kk - a]'hls]:=List.take_succ_eq_append_getElem hls;generalize B1[kk - a]'hls=z at eD eT;have oy:(swp dk kk (kk+1)).toList=(p++B1.take (kk - a))++z :: x :: (B1.drop (kk - a+1)++(B2++q)) :=
      qkc dk (by rw[HT.out,eD];simp only [List.append_assoc,List.cons_append]) (by have:=HP.out;rw[gc,gd];omega) (by have:=HP.out;rw[gc,gd];omega)
     have pK:Hid ((swp dk kk (kk+1)).toList=p++(B1.take (kk+1 - a)++x :: (B1.drop (kk+1 - a)++(B2++q)))):=by show _=_;rw[oy,show kk+1 - a=kk - a+1 by omega,eT];simp only [List.append_assoc,List.cons_append,List.nil_append]
     clear oy eD eT;go_wp2_with fail;have O4:((kk:Int)).toNat=kk:=by omega
     have O5:(0:Int)<=(kk:Int):=by omega
     have O6:(kk:Int) < (sz:Int):=by omega
     have O7:IntKind.i64.wrap ((kk:Int))=(kk:Int):=by rw[IntKind.wrap_i64];omega
     have O8:((kk:Int)+1).toNat=kk+1:=by omega
     have O9:(0:Int)<=(kk:Int)+1:=by omega
     have OA:(kk:Int)+1 < (sz:Int):=by omega
     have OB:IntKind.i64.wrap ((kk:Int)+1)=(kk:Int)+1:=by rw[IntKind.wrap_i64];omega
     have S3:Aside (SWK enc k w0 blk off (swp dk (kk) (kk+1)) ((wr.drew.setCells blk (off+(kk)*k) (enc dk[kk+1]!)).setCells blk (off+(kk+1)*k) (enc dk[kk]!))):=S1.out.swapped R (kk) (kk+1) (by omega) (by omega);have xH:=S1.out.ld1 R (by omega) P (kk) (by omega);have xJ:=S1.out.ld1 R (by omega) P (kk+1) (by omega);have OE:=S1.out.st1 R (by omega) P (kk) (by omega) dk[kk+1]!;have JZ:=S1.out.st2 R (by omega) P (kk) (kk+1) (by omega) (by omega) dk[kk+1]! dk[kk]!;have T5:(enc dk[kk]!).length=k:=R.hk _;have T6:(enc dk[kk+1]!).length=k:=R.hk _;generalize enc dk[kk]! = cI3 at S3 xH JZ T5;generalize enc dk[kk+1]! = cJ3 at S3 xJ OE JZ T6;clear S1;go_wp2_with fail
     go_big_region_o
     clear xH xJ OE JZ;generalize (wr.drew.setCells blk (off+(kk)*k) cJ3).setCells blk (off+(kk+1)*k) cI3=wq2 at S3 ⊢
     all_goals go_wp2
     go_roundg (t - (kk+1))
     case measure=>omega
     case rel=>exact⟨kk+1,_,by first | rfl | go_num | (congr 1;omega),by omega,by omega,nlr _,by rw[size_swp];exact fY,pK,S3⟩
    ·have Am:¬ (kk:Int) < (t:Int) - 1:=by omega
     have HK:Hid (kk - a=B1.length):=by show _=_;omega
     go_wp2
     (try simp only [Exit.inBlock,Exit.then]);refine bodyPost_ret (results_none rfl _ _ _) rfl ?_
     refine⟨rfl,dk,B1++x :: B2,?_,bM.out.1,bM.out.2,S1.out⟩;rw[HT.out,HK.out];simp
theorem qha (L:q33 P k) (enc:α->List Value) (cf:α->α->Int) (key:α->Int) (g:Nat) (cb:Array Value) (blk off cap sz:Nat) (d0:Array α) (w0:World) (eg:∀ args w,(callFunc g args).run P w = .ok (.enter g args) w) (bY:CmpLays P g cb enc k cf blk off d0.size w0) (aq:∀ x y,cf x y < 0↔key x < key y) (R:RowK enc k w0 blk off d0) (hs:d0.size=sz) (ao:sz<=1099511627776) (a m b:Nat) (d:Array α) (w:World) (p A B q:List α) (S:SWK enc k w0 blk off d w) (hd:d.toList=p++(A++(B++q))) (hp:p.length=a) (hm:a+A.length=m) (hb:m+B.length=b) (hA:Srt key A) (hB:Srt key B) (kI:b<=sz) (fX:d.size=sz) (fL:¬ m - a=1) (qM:b - m=1) :
  Calls P 246 #[.slice (some ⟨blk,off,none⟩) sz cap,.int .i64 a,.int .i64 m,.int .i64 b,.func (.func g) #[] cb] w fun e w' =>
   e = .returned (.tuple #[])/\∃ d' M,d'.toList=p++(M++q)/\Srt key M/\qs key (A++B) M/\SWK enc k w0 blk off d' w':=by
 have LL:Aside _:=L;have RR:Aside _:=R;have HC:Aside _:=bY;have cT:Aside _:=aq;have cM:=L.c1;have cR:=L.c2;have mixed:=L.mixed;have aE:=L.aE;have zE:=L.zE;have uS:=run_underlying L.tS;have tN:=L.tN;have tNa:=L.tNa;have tNz:=L.tNz;have tNv:=L.tNv;have tB:=L.tB;have tBa:=L.tBa;have tBz:=L.tBz;have tBv:=L.tBv;have tS:=L.tS;have tSa:=L.tSa;have tSz:=L.tSz;have tSv:=L.tSv;have tU:=L.tU;have tUa:=L.tUa;have tUz:=L.tUz;have tUv:=L.tUv;have t0:=L.t0;have t0a:=L.t0a;have t0z:=L.t0z;have t0v:=L.t0v
 clear bY aq;have S1:Aside _:=S;have HD:=lhd hd;have HP:=lhd hp;have HA:=lhd hA;have HB:=lhd hB;clear S hd hp hA hB;go_enter L.f1,Tryz.ntmps246;have CA:¬ (m:Int) - (a:Int)=1:=by omega
 have DQ:((m:Int) - (a:Int) == 1)=false:=by simpa using CA
 have Hf:(b:Int) - (m:Int)=1:=by omega
 obtain⟨y,Ka⟩ : ∃ y,B=[y]:=by
  match B,(show B.length=1 by omega) with
  | [y],_=>exact⟨y,rfl⟩
 have Kb:=lhd Ka;clear Ka;have dY:d[m]! = y:=yo d (p:=p++A) (q:=q) (by rw[HD.out,Kb.out];simp) (by have:=HP.out;simp;omega);have DY:=lhd dY;clear dY;go_wp2;go_loopg [14,15] (m - a) (fun g1 vi vj wr=>∃ (i j:Nat),vi = .int .i64 i/\vj = .int .i64 j/\a<=i/\i<=j/\j<=m/\j - i<=g1/\Hid ((i=a\/¬ key y < key d[i - 1]!)/\(j=m\/key y < key d[j]!))/\Aside (SWK enc k w0 blk off d wr))
 case atStart=>exact⟨a,m,rfl,rfl,nlr _,by omega,nlr _,nlr _,(show Hid _ from⟨.inl rfl,.inl rfl⟩),S1⟩
 case round =>
  clear S1;obtain⟨i,j,rfl,rfl,hi0,jE,JY,dt,HI,S1⟩:=hrel;by_cases hlt:i < j
  ·have dO:(i:Int) < (j:Int):=by omega
   have DP:IntKind.u64.wrap ((i:Int)+(j:Int))=(i:Int)+(j:Int):=by rw[IntKind.wrap_u64];omega
   obtain⟨h,hh⟩ : ∃ h:Nat,h=(i+j) / 2:=⟨_,rfl⟩
   have jD:((i:Int)+(j:Int)) / 2=(h:Int):=by omega
   have Al:i<=h/\h < j:=by omega
   clear hh;obtain⟨dk,kR⟩ : ∃ dk,dk=d:=⟨_,rfl⟩
   subst kR;by_cases eB:key y < key dk[h]!
   ·have aH:cf dk[m]! dk[h]! < 0:=by rw[DY.out];exact(cT.out _ _).2 eB
    have oA:=lhd eB;clear eB;have Yi:((m:Int)).toNat=m:=by omega
    have Yj:(0:Int)<=(m:Int):=by omega
    have Yk:(m:Int) < (sz:Int):=by omega
    have Yl:IntKind.i64.wrap ((m:Int))=(m:Int):=by rw[IntKind.wrap_i64];omega
    have Ym:((h:Int)).toNat=h:=by omega
    have Yn:(0:Int)<=(h:Int):=by omega
    have Yo:(h:Int) < (sz:Int):=by omega
    have Yp:IntKind.i64.wrap ((h:Int))=(h:Int):=by rw[IntKind.wrap_i64];omega
    obtain⟨x4,DR⟩ : ∃ x,x=dk[m]!:=⟨_,rfl⟩
    obtain⟨y4,Kc⟩ : ∃ x,x=dk[h]!:=⟨_,rfl⟩
    have OF:=S1.out.ld R (by omega) P (m) (by omega);have OG:=S1.out.ld R (by omega) P (h) (by omega);rw[<-DR] at OF;rw[<-Kc] at OG;have OH:=S1.out.cmp HC.out (by omega) x4 y4;have T7:cf x4 y4 < 0:=by rw[DR,Kc];exact aH
    have Yq:decide (cf x4 y4 < 0)=true:=decide_eq_true T7;clear DR Kc aH;go_wp2_with fail
    go_quiet_grown (first | (go_at_fn g;refine Calls.grown_of (OH _ _)))
    have S2:Aside (SWK enc k w0 blk off dk (grow (wr.drewN nq) osq)):=S1.out.grown nq osq;clear OF OG OH S1;generalize grow (wr.drewN nq) osq=wq at S2 ⊢;clear nq osq;go_wp2;go_roundg (h - i)
    case measure=>omega
    case rel=>exact⟨i,h,by first | rfl | go_num,by first | rfl | go_num,hi0,by omega,by omega,by omega,(show Hid _ from⟨HI.out.1,.inr oA.out⟩),S2⟩
   ·have aH:¬ cf dk[m]! dk[h]! < 0:=by rw[DY.out];exact fun q=>eB ((cT.out _ _).1 q)
    have oA:=lhd eB;clear eB;have Yr:((m:Int)).toNat=m:=by omega
    have Ys:(0:Int)<=(m:Int):=by omega
    have Yt:(m:Int) < (sz:Int):=by omega
    have Yu:IntKind.i64.wrap ((m:Int))=(m:Int):=by rw[IntKind.wrap_i64];omega
    have Yv:((h:Int)).toNat=h:=by omega
    have Yw:(0:Int)<=(h:Int):=by omega
    have Yx:(h:Int) < (sz:Int):=by omega
    have Yy:IntKind.i64.wrap ((h:Int))=(h:Int):=by rw[IntKind.wrap_i64];omega
    obtain⟨x5,Kd⟩ : ∃ x,x=dk[m]!:=⟨_,rfl⟩
    obtain⟨y5,Ke⟩ : ∃ x,x=dk[h]!:=⟨_,rfl⟩
    have OI:=S1.out.ld R (by omega) P (m) (by omega);have OJ:=S1.out.ld R (by omega) P (h) (by omega);rw[<-Kd] at OI;rw[<-Ke] at OJ;have DS:=S1.out.cmp HC.out (by omega) x5 y5;have T8:¬ cf x5 y5 < 0:=by rw[Kd,Ke];exact aH
    have OK:decide (cf x5 y5 < 0)=false:=decide_eq_false T8;clear Kd Ke aH;go_wp2_with fail
    go_quiet_grown (first | (go_at_fn g;refine Calls.grown_of (DS _ _)))
    have S2:Aside (SWK enc k w0 blk off dk (grow (wr.drewN nq) osq)):=S1.out.grown nq osq;clear OI OJ DS S1;generalize grow (wr.drewN nq) osq=wq at S2 ⊢;clear nq osq;go_wp2;go_roundg (j - (h+1))
    case measure=>omega
    case rel=>exact⟨h+1,j,by first | rfl | go_num,by first | rfl | go_num,by omega,by omega,JY,by omega,(show Hid _ from⟨.inr (by simpa using oA.out),HI.out.2⟩),S2⟩
  ·have dO:¬ (i:Int) < (j:Int):=by omega
   have cE:j=i:=by omega
   subst cE;obtain⟨t,ht⟩ : ∃ t,t=j:=⟨_,rfl⟩
   subst ht;have q1:=qdm d HD.out HP.out HA.out t hi0 (by omega) (key y) (HI.out.1.imp id (fun h=>by omega));have q2:=qdn d HD.out HP.out HA.out t hi0 (key y+1) (HI.out.2.imp (fun h=>by omega) (fun h=>by omega));obtain⟨A1,mZ⟩ : ∃ l,l=A.take (t - a):=⟨_,rfl⟩
   obtain⟨A2,CB⟩ : ∃ l,l=A.drop (t - a):=⟨_,rfl⟩
   rw[<-mZ] at q1;rw[<-CB] at q2;have l1:A1.length+a=t:=by rw[mZ,gd];omega
   have l2:A2.length+t=m:=by rw[CB,gv];omega
   have nZ:A1++A2=A:=by rw[mZ,CB,gu]
   have fin:=qf4 (key:=key) (y:=y) (A1:=A1) (A2:=A2) (by rw[nZ];exact HA.out) (fun x hx=>by have:=q1 x hx;omega) (fun x hx=>by have:=q2 x hx;omega);rw[nZ,<-Kb.out] at fin;have dJ:Hid (d.toList=p++(A1++(A2++y :: q))):=by show _=_;rw[HD.out,Kb.out,<-nZ];simp
   have bM:=lhd fin;clear q1 q2 mZ CB nZ fin HI;go_wp2;go_loopg [17] (m - t) (fun g2 vk o9=>∃ (kk:Nat) (dk:Array α),vk = .int .i64 kk/\t<=kk/\kk<=m/\kk - t<=g2/\dk.size=sz/\Hid (dk.toList=p++(A1++(A2.take (kk - t)++y :: (A2.drop (kk - t)++q))))/\Aside (SWK enc k w0 blk off dk o9))
   case atStart=>exact⟨m,d,rfl,by omega,nlr _,nlr _,fX,(show Hid _ from by show _=_;rw[dJ.out,gm (by omega),gY (by omega)];simp),S1⟩
   case round =>
    clear S1;obtain⟨kk,dk,rfl,dH,ig,fJ,fY,HT,S1⟩:=hrel;by_cases Hb:t < kk
    ·obtain⟨kp,rfl⟩ : ∃ kp,kk=kp+1:=⟨kk - 1,by omega⟩
     have Am:(t:Int) < (kp:Int)+1:=by omega
     have my:IntKind.i64.wrap (kp:Int)=(kp:Int):=by rw[IntKind.wrap_i64];omega
     have hls:kp - t < A2.length:=by omega
     have eD:A2.drop (kp - t)=A2[kp - t]'hls :: A2.drop (kp - t+1):=bf hls;have eT:A2.take (kp - t+1)=A2.take (kp - t)++[A2[kp - t]'hls]:=List.take_succ_eq_append_getElem hls;generalize A2[kp - t]'hls=z at eD eT;have oy:(swp dk (kp+1) kp).toList=(p++(A1++A2.take (kp - t)))++y :: z :: (A2.drop (kp - t+1)++q) :=
      arr_adj' dk (by rw[HT.out,show kp+1 - t=kp - t+1 by omega,eT];simp only [List.append_assoc,List.cons_append,List.nil_append]) (by have:=HP.out;rw[gc,gc,gd];omega) (by have:=HP.out;rw[gc,gc,gd];omega)
     have pK:Hid ((swp dk (kp+1) kp).toList=p++(A1++(A2.take (kp - t)++y :: (A2.drop (kp - t)++q)))):=by show _=_;rw[oy,eD];simp only [List.append_assoc,List.cons_append]
     clear oy eD eT;go_wp2_with fail;have Yz:((kp:Int)+1).toNat=kp+1:=by omega
     have Y0:(0:Int)<=(kp:Int)+1:=by omega
     have Y1:(kp:Int)+1 < (sz:Int):=by omega
     have Y2:IntKind.i64.wrap ((kp:Int)+1)=(kp:Int)+1:=by rw[IntKind.wrap_i64];omega
     have Y3:((kp:Int)).toNat=kp:=by omega
     have Y4:(0:Int)<=(kp:Int):=by omega
     have Y5:(kp:Int) < (sz:Int):=by omega
     have Y6:IntKind.i64.wrap ((kp:Int))=(kp:Int):=by rw[IntKind.wrap_i64];omega
     have S3:Aside (SWK enc k w0 blk off (swp dk (kp+1) (kp)) ((wr.drew.setCells blk (off+(kp+1)*k) (enc dk[kp]!)).setCells blk (off+(kp)*k) (enc dk[kp+1]!))):=S1.out.swapped R (kp+1) (kp) (by omega) (by omega);have OL:=S1.out.ld1 R (by omega) P (kp+1) (by omega);have OM:=S1.out.ld1 R (by omega) P (kp) (by omega);have ON:=S1.out.st1 R (by omega) P (kp+1) (by omega) dk[kp]!;have Kf:=S1.out.st2 R (by omega) P (kp+1) (kp) (by omega) (by omega) dk[kp]! dk[kp+1]!;have T9:(enc dk[kp+1]!).length=k:=R.hk _;have TA:(enc dk[kp]!).length=k:=R.hk _;generalize enc dk[kp+1]! = cI6 at S3 OL Kf T9;generalize enc dk[kp]! = cJ6 at S3 OM ON Kf TA;clear S1;go_wp2_with fail
     go_big_region_o
     clear OL OM ON Kf;generalize (wr.drew.setCells blk (off+(kp+1)*k) cJ6).setCells blk (off+(kp)*k) cI6=wq2 at S3 ⊢
     all_goals go_wp2
     go_roundg (kp - t)
     case measure=>omega
     case rel=>exact⟨kp,_,by first | rfl | go_num | (congr 1;omega),by omega,by omega,nlr _,by rw[size_swp];exact fY,pK,S3⟩
    ·have Am:¬ (t:Int) < (kk:Int):=by omega
     have HK:Hid (kk - t=0):=by show _=_;omega
     go_wp2
     (try simp only [Exit.inBlock,Exit.then]);refine bodyPost_ret (results_none rfl _ _ _) rfl ?_
     refine⟨rfl,dk,A1++y :: A2,?_,bM.out.1,bM.out.2,S1.out⟩;rw[HT.out,HK.out];simp
end Go.Proofs.YtlhicnfeajejhaaGreatDoor
