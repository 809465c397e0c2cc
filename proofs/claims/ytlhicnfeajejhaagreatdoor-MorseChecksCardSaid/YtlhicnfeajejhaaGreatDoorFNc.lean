/- Steps towards MorseChecks. Conditions: none. -/
import Derived.Test.YtlhicnfeajejhaaGreatDoorFNb
set_option maxRecDepth 1000000
set_option maxHeartbeats 16000000
namespace Go.Proofs.YtlhicnfeajejhaaGreatDoor
open Go.RowKit Go.Cx Go.Shelf Go.Lib Go.Sort Go.Proofs
variable {P:Program} {k:Nat} {α:Type} [Inhabited α]
theorem qh9 (L:q33 P k) (enc:α->List Value) (cf:α->α->Int) (key:α->Int) (g:Nat) (cb:Array Value) (blk off cap sz:Nat) (d0:Array α) (w0:World) (eg:∀ args w,(callFunc g args).run P w = .ok (.enter g args) w) (aY:CmpLays P g cb enc k cf blk off d0.size w0) (aq:∀ x y,cf x y < 0↔key x < key y) (R:RowK enc k w0 blk off d0) (hs:d0.size=sz) (ao:sz<=1099511627776) (a m b:Nat) (d:Array α) (w:World) (p A B q:List α) (S:SWK enc k w0 blk off d w) (hd:d.toList=p++(A++(B++q))) (hp:p.length=a) (hm:a+A.length=m) (hb:m+B.length=b) (hA:Srt key A) (hB:Srt key B) (kG:b<=sz) (et:d.size=sz) (eh:m - a=1) (aV:0 < B.length) :
  Calls P 246 #[.slice (some ⟨blk,off,none⟩) sz cap,.int .i64 a,.int .i64 m,.int .i64 b,.func (.func g) #[] cb] w fun e w' =>
   e = .returned (.tuple #[])/\∃ d' M,d'.toList=p++(M++q)/\Srt key M/\qs key (A++B) M/\SWK enc k w0 blk off d' w':=by
 have LL:Aside _:=L;have RR:Aside _:=R;have HC:Aside _:=aY;have bY:Aside _:=aq;have cM:=L.c1;have cR:=L.c2;have mixed:=L.mixed;have aE:=L.aE;have zE:=L.zE;have uS:=run_underlying L.tS;have tN:=L.tN;have tNa:=L.tNa;have tNz:=L.tNz;have tNv:=L.tNv;have tB:=L.tB;have tBa:=L.tBa;have tBz:=L.tBz;have tBv:=L.tBv;have tS:=L.tS;have tSa:=L.tSa;have tSz:=L.tSz;have tSv:=L.tSv;have tU:=L.tU;have tUa:=L.tUa;have tUz:=L.tUz;have tUv:=L.tUv;have t0:=L.t0;have t0a:=L.t0a;have t0z:=L.t0z;have t0v:=L.t0v
 clear aY aq;have S1:Aside _:=S;have HD:=lhd hd;have HP:=lhd hp;have HA:=lhd hA;have HB:=lhd hB;clear S hd hp hA hB;go_enter L.f1,Tryz.ntmps246;have zZ:(m:Int) - (a:Int)=1:=by omega
 obtain⟨x,Mj⟩ : ∃ x,A=[x]:=by
  match A,(show A.length=1 by omega) with
  | [x],_=>exact⟨x,rfl⟩
 have GP:=lhd Mj;clear Mj;have dX:d[a]! = x:=yo d (p:=p) (q:=B++q) (by rw[HD.out,GP.out];rfl) HP.out;have DX:=lhd dX;clear dX;go_wp2;go_loopg [10,11] (b - m) (fun g1 vi vj wr=>∃ (i j:Nat),vi = .int .i64 i/\vj = .int .i64 j/\m<=i/\i<=j/\j<=b/\j - i<=g1/\Hid ((i=m\/key d[i - 1]! < key x)/\(j=b\/¬ key d[j]! < key x))/\Aside (SWK enc k w0 blk off d wr))
 case atStart=>exact⟨m,b,rfl,rfl,nlr _,by omega,nlr _,nlr _,(show Hid _ from⟨.inl rfl,.inl rfl⟩),S1⟩
 case round =>
  clear S1;obtain⟨i,j,rfl,rfl,hi0,dS,GQ,cA,HI,S1⟩:=hrel;by_cases hlt:i < j
  ·have cF:(i:Int) < (j:Int):=by omega
   have Aa:IntKind.u64.wrap ((i:Int)+(j:Int))=(i:Int)+(j:Int):=by rw[IntKind.wrap_u64];omega
   obtain⟨h,hh⟩ : ∃ h:Nat,h=(i+j) / 2:=⟨_,rfl⟩
   have kY:((i:Int)+(j:Int)) / 2=(h:Int):=by omega
   have wk:i<=h/\h < j:=by omega
   clear hh;obtain⟨dk,kZ⟩ : ∃ dk,dk=d:=⟨_,rfl⟩
   subst kZ;by_cases dg:key dk[h]! < key x
   ·have az:cf dk[h]! dk[a]! < 0:=by rw[DX.out];exact(bY.out _ _).2 dg
    have lx:=lhd dg;clear dg;have LR:((h:Int)).toNat=h:=by omega
    have LS:(0:Int)<=(h:Int):=by omega
    have LU:(h:Int) < (sz:Int):=by omega
    have LV:IntKind.i64.wrap ((h:Int))=(h:Int):=by rw[IntKind.wrap_i64];omega
    have LW:((a:Int)).toNat=a:=by omega
    have LX:(0:Int)<=(a:Int):=by omega
    have LY:(a:Int) < (sz:Int):=by omega
    have LZ:IntKind.i64.wrap ((a:Int))=(a:Int):=by rw[IntKind.wrap_i64];omega
    obtain⟨x1,eM⟩ : ∃ x,x=dk[h]!:=⟨_,rfl⟩
    obtain⟨y1,iC⟩ : ∃ x,x=dk[a]!:=⟨_,rfl⟩
    have tO:=S1.out.ld R (by omega) P (h) (by omega);have tP:=S1.out.ld R (by omega) P (a) (by omega);rw[<-eM] at tO;rw[<-iC] at tP;have eI:=S1.out.cmp HC.out (by omega) x1 y1;have hv1:cf x1 y1 < 0:=by rw[eM,iC];exact az
    have bZ:decide (cf x1 y1 < 0)=true:=decide_eq_true hv1;clear eM iC az;go_wp2_with fail
    go_quiet_grown (first | (go_at_fn g;refine Calls.grown_of (eI _ _)))
    have S2:Aside (SWK enc k w0 blk off dk (grow (wr.drewN nq) osq)):=S1.out.grown nq osq;clear tO tP eI S1;generalize grow (wr.drewN nq) osq=wq at S2 ⊢;clear nq osq;go_wp2;go_roundg (j - (h+1))
    case measure=>omega
    case rel=>exact⟨h+1,j,by first | rfl | go_num,by first | rfl | go_num,by omega,by omega,GQ,by omega,(show Hid _ from⟨.inr (by simpa using lx.out),HI.out.2⟩),S2⟩
   ·have az:¬ cf dk[h]! dk[a]! < 0:=by rw[DX.out];exact fun q=>dg ((bY.out _ _).1 q)
    have lx:=lhd dg;clear dg;have GD:((h:Int)).toNat=h:=by omega
    have GF:(0:Int)<=(h:Int):=by omega
    have GG:(h:Int) < (sz:Int):=by omega
    have GH:IntKind.i64.wrap ((h:Int))=(h:Int):=by rw[IntKind.wrap_i64];omega
    have GI:((a:Int)).toNat=a:=by omega
    have GJ:(0:Int)<=(a:Int):=by omega
    have GK:(a:Int) < (sz:Int):=by omega
    have GL:IntKind.i64.wrap ((a:Int))=(a:Int):=by rw[IntKind.wrap_i64];omega
    obtain⟨x2,rZ⟩ : ∃ x,x=dk[h]!:=⟨_,rfl⟩
    obtain⟨y2,sh⟩ : ∃ x,x=dk[a]!:=⟨_,rfl⟩
    have pj:=S1.out.ld R (by omega) P (h) (by omega);have pk:=S1.out.ld R (by omega) P (a) (by omega);rw[<-rZ] at pj;rw[<-sh] at pk;have kJ:=S1.out.cmp HC.out (by omega) x2 y2;have hv2:¬ cf x2 y2 < 0:=by rw[rZ,sh];exact az
    have bQ:decide (cf x2 y2 < 0)=false:=decide_eq_false hv2;clear rZ sh az;go_wp2_with fail
    go_quiet_grown (first | (go_at_fn g;refine Calls.grown_of (kJ _ _)))
    have S2:Aside (SWK enc k w0 blk off dk (grow (wr.drewN nq) osq)):=S1.out.grown nq osq;clear pj pk kJ S1;generalize grow (wr.drewN nq) osq=wq at S2 ⊢;clear nq osq;go_wp2;go_roundg (h - i)
    case measure=>omega
    case rel=>exact⟨i,h,by first | rfl | go_num,by first | rfl | go_num,hi0,by omega,by omega,by omega,(show Hid _ from⟨HI.out.1,.inr lx.out⟩),S2⟩
  ·have cF:¬ (i:Int) < (j:Int):=by omega
   have lu:j=i:=by omega
   subst lu;obtain⟨t,ht⟩ : ∃ t,t=j:=⟨_,rfl⟩
   subst ht;have bQ:d.toList=(p++A)++(B++q):=by rw[HD.out];simp
   have oS:(p++A).length=m:=by have:=HP.out;simp;omega
   have q1:=qdm d bQ oS HB.out t hi0 (by omega) (key x - 1) (HI.out.1.imp id (fun h=>by omega));have q2:=qdn d bQ oS HB.out t hi0 (key x) (HI.out.2.imp (fun h=>by omega) (fun h=>by omega));obtain⟨B1,al⟩ : ∃ l,l=B.take (t - m):=⟨_,rfl⟩
   obtain⟨B2,aw⟩ : ∃ l,l=B.drop (t - m):=⟨_,rfl⟩
   rw[<-al] at q1;rw[<-aw] at q2;have l1:B1.length+m=t:=by rw[al,gh];omega
   have dI:B1++B2=B:=by rw[al,aw,gr]
   have fin:=qh6 (key:=key) (x:=x) (B1:=B1) (B2:=B2) (by rw[dI];exact HB.out) (fun y hy=>by have:=q1 y hy;omega) (fun y hy=>by have:=q2 y hy;omega);rw[dI,<-GP.out] at fin;have ei:Hid (d.toList=p++x :: (B1++(B2++q))):=by show _=_;rw[HD.out,GP.out,<-dI];simp
   have aP:=lhd fin;clear q1 q2 bQ oS al aw dI fin HI;go_wp2;go_loopg [13] (t - a) (fun g2 vk lv=>∃ (kk:Nat) (dk:Array α),vk = .int .i64 kk/\a<=kk/\kk+1<=t/\t - kk<=g2/\dk.size=sz/\Hid (dk.toList=p++(B1.take (kk - a)++x :: (B1.drop (kk - a)++(B2++q))))/\Aside (SWK enc k w0 blk off dk lv))
   case atStart=>exact⟨a,d,rfl,nlr _,by omega,nlr _,et,(show Hid _ from by show _=_;rw[ei.out];simp),S1⟩
   case round =>
    clear S1;obtain⟨kk,dk,rfl,dr,ey,dH,eu,HT,S1⟩:=hrel;by_cases E6:kk+1 < t
    ·have wu:(kk:Int) < (t:Int) - 1:=by omega
     have hls:kk - a < B1.length:=by omega
     have eD:B1.drop (kk - a)=B1[kk - a]'hls :: B1.drop (kk - a+1):=be hls;have eT:B1.take (kk - a+1)=B1.take (kk - a)++[B1[kk - a]'hls]:=List.take_succ_eq_append_getElem hls;generalize B1[kk - a]'hls=z at eD eT;have kW:(swp dk kk (kk+1)).toList=(p++B1.take (kk - a))++z :: x :: (B1.drop (kk - a+1)++(B2++q)) :=
      qkc dk (by rw[HT.out,eD];simp only [List.append_assoc,List.cons_append]) (by have:=HP.out;rw[gl,gh];omega) (by have:=HP.out;rw[gl,gh];omega)
     have mj:Hid ((swp dk kk (kk+1)).toList=p++(B1.take (kk+1 - a)++x :: (B1.drop (kk+1 - a)++(B2++q)))):=by
      show _=_;rw[kW,show kk+1 - a=kk - a+1 by omega,eT];simp only [List.append_assoc,List.cons_append,List.nil_append]
     clear kW eD eT;go_wp2_with fail;have Ma:((kk:Int)).toNat=kk:=by omega
     have Mb:(0:Int)<=(kk:Int):=by omega
     have Mc:(kk:Int) < (sz:Int):=by omega
     have Md:IntKind.i64.wrap ((kk:Int))=(kk:Int):=by rw[IntKind.wrap_i64];omega
     have Me:((kk:Int)+1).toNat=kk+1:=by omega
     have Mf:(0:Int)<=(kk:Int)+1:=by omega
     have Mg:(kk:Int)+1 < (sz:Int):=by omega
     have Mh:IntKind.i64.wrap ((kk:Int)+1)=(kk:Int)+1:=by rw[IntKind.wrap_i64];omega
     have S3:Aside (SWK enc k w0 blk off (swp dk (kk) (kk+1)) ((wr.drew.setCells blk (off+(kk)*k) (enc dk[kk+1]!)).setCells blk (off+(kk+1)*k) (enc dk[kk]!))):=S1.out.swapped R (kk) (kk+1) (by omega) (by omega);have tV:=S1.out.ld1 R (by omega) P (kk) (by omega);have tW:=S1.out.ld1 R (by omega) P (kk+1) (by omega);have Mk:=S1.out.st1 R (by omega) P (kk) (by omega) dk[kk+1]!;have GR:=S1.out.st2 R (by omega) P (kk) (kk+1) (by omega) (by omega) dk[kk+1]! dk[kk]!;have QG:(enc dk[kk]!).length=k:=R.hk _;have QH:(enc dk[kk+1]!).length=k:=R.hk _;generalize enc dk[kk]! = cI3 at S3 tV GR QG;generalize enc dk[kk+1]! = cJ3 at S3 tW Mk GR QH;clear S1;go_wp2_with fail
     go_big_region_o
     clear tV tW Mk GR;generalize (wr.drew.setCells blk (off+(kk)*k) cJ3).setCells blk (off+(kk+1)*k) cI3=wq2 at S3 ⊢
     all_goals go_wp2
     go_roundg (t - (kk+1))
     case measure=>omega
     case rel=>exact⟨kk+1,_,by first | rfl | go_num | (congr 1;omega),by omega,by omega,nlr _,by rw[size_swp];exact eu,mj,S3⟩
    ·have wu:¬ (kk:Int) < (t:Int) - 1:=by omega
     have HK:Hid (kk - a=B1.length):=by show _=_;omega
     go_wp2
     (try simp only [Exit.inBlock,Exit.then]);refine bodyPost_ret (results_none rfl _ _ _) rfl ?_
     refine⟨rfl,dk,B1++x :: B2,?_,aP.out.1,aP.out.2,S1.out⟩;rw[HT.out,HK.out];simp
theorem qha (L:q33 P k) (enc:α->List Value) (cf:α->α->Int) (key:α->Int) (g:Nat) (cb:Array Value) (blk off cap sz:Nat) (d0:Array α) (w0:World) (eg:∀ args w,(callFunc g args).run P w = .ok (.enter g args) w) (aY:CmpLays P g cb enc k cf blk off d0.size w0) (aq:∀ x y,cf x y < 0↔key x < key y) (R:RowK enc k w0 blk off d0) (hs:d0.size=sz) (ao:sz<=1099511627776) (a m b:Nat) (d:Array α) (w:World) (p A B q:List α) (S:SWK enc k w0 blk off d w) (hd:d.toList=p++(A++(B++q))) (hp:p.length=a) (hm:a+A.length=m) (hb:m+B.length=b) (hA:Srt key A) (hB:Srt key B) (kG:b<=sz) (et:d.size=sz) (eh:¬ m - a=1) (np:b - m=1) :
  Calls P 246 #[.slice (some ⟨blk,off,none⟩) sz cap,.int .i64 a,.int .i64 m,.int .i64 b,.func (.func g) #[] cb] w fun e w' =>
   e = .returned (.tuple #[])/\∃ d' M,d'.toList=p++(M++q)/\Srt key M/\qs key (A++B) M/\SWK enc k w0 blk off d' w':=by
 have LL:Aside _:=L;have RR:Aside _:=R;have HC:Aside _:=aY;have bY:Aside _:=aq;have cM:=L.c1;have cR:=L.c2;have mixed:=L.mixed;have aE:=L.aE;have zE:=L.zE;have uS:=run_underlying L.tS;have tN:=L.tN;have tNa:=L.tNa;have tNz:=L.tNz;have tNv:=L.tNv;have tB:=L.tB;have tBa:=L.tBa;have tBz:=L.tBz;have tBv:=L.tBv;have tS:=L.tS;have tSa:=L.tSa;have tSz:=L.tSz;have tSv:=L.tSv;have tU:=L.tU;have tUa:=L.tUa;have tUz:=L.tUz;have tUv:=L.tUv;have t0:=L.t0;have t0a:=L.t0a;have t0z:=L.t0z;have t0v:=L.t0v
 clear aY aq;have S1:Aside _:=S;have HD:=lhd hd;have HP:=lhd hp;have HA:=lhd hA;have HB:=lhd hB;clear S hd hp hA hB;go_enter L.f1,Tryz.ntmps246;have zZ:¬ (m:Int) - (a:Int)=1:=by omega
 have BC:((m:Int) - (a:Int) == 1)=false:=by simpa using zZ
 have E7:(b:Int) - (m:Int)=1:=by omega
 obtain⟨y,GS⟩ : ∃ y,B=[y]:=by
  match B,(show B.length=1 by omega) with
  | [y],_=>exact⟨y,rfl⟩
 have GU:=lhd GS;clear GS;have dY:d[m]! = y:=yo d (p:=p++A) (q:=q) (by rw[HD.out,GU.out];simp) (by have:=HP.out;simp;omega);have DY:=lhd dY;clear dY;go_wp2;go_loopg [14,15] (m - a) (fun g1 vi vj wr=>∃ (i j:Nat),vi = .int .i64 i/\vj = .int .i64 j/\a<=i/\i<=j/\j<=m/\j - i<=g1/\Hid ((i=a\/¬ key y < key d[i - 1]!)/\(j=m\/key y < key d[j]!))/\Aside (SWK enc k w0 blk off d wr))
 case atStart=>exact⟨a,m,rfl,rfl,nlr _,by omega,nlr _,nlr _,(show Hid _ from⟨.inl rfl,.inl rfl⟩),S1⟩
 case round =>
  clear S1;obtain⟨i,j,rfl,rfl,hi0,dS,GQ,cA,HI,S1⟩:=hrel;by_cases hlt:i < j
  ·have cF:(i:Int) < (j:Int):=by omega
   have Aa:IntKind.u64.wrap ((i:Int)+(j:Int))=(i:Int)+(j:Int):=by rw[IntKind.wrap_u64];omega
   obtain⟨h,hh⟩ : ∃ h:Nat,h=(i+j) / 2:=⟨_,rfl⟩
   have kY:((i:Int)+(j:Int)) / 2=(h:Int):=by omega
   have wk:i<=h/\h < j:=by omega
   clear hh;obtain⟨dk,kZ⟩ : ∃ dk,dk=d:=⟨_,rfl⟩
   subst kZ;by_cases dg:key y < key dk[h]!
   ·have az:cf dk[m]! dk[h]! < 0:=by rw[DY.out];exact(bY.out _ _).2 dg
    have lx:=lhd dg;clear dg;have Vq:((m:Int)).toNat=m:=by omega
    have Vr:(0:Int)<=(m:Int):=by omega
    have Vs:(m:Int) < (sz:Int):=by omega
    have Vu:IntKind.i64.wrap ((m:Int))=(m:Int):=by rw[IntKind.wrap_i64];omega
    have Vv:((h:Int)).toNat=h:=by omega
    have Vw:(0:Int)<=(h:Int):=by omega
    have Vx:(h:Int) < (sz:Int):=by omega
    have V4:IntKind.i64.wrap ((h:Int))=(h:Int):=by rw[IntKind.wrap_i64];omega
    obtain⟨x4,BD⟩ : ∃ x,x=dk[m]!:=⟨_,rfl⟩
    obtain⟨y4,GV⟩ : ∃ x,x=dk[h]!:=⟨_,rfl⟩
    have Ml:=S1.out.ld R (by omega) P (m) (by omega);have Mm:=S1.out.ld R (by omega) P (h) (by omega);rw[<-BD] at Ml;rw[<-GV] at Mm;have Mn:=S1.out.cmp HC.out (by omega) x4 y4;have QI:cf x4 y4 < 0:=by rw[BD,GV];exact az
    have V5:decide (cf x4 y4 < 0)=true:=decide_eq_true QI;clear BD GV az;go_wp2_with fail
    go_quiet_grown (first | (go_at_fn g;refine Calls.grown_of (Mn _ _)))
    have S2:Aside (SWK enc k w0 blk off dk (grow (wr.drewN nq) osq)):=S1.out.grown nq osq;clear Ml Mm Mn S1;generalize grow (wr.drewN nq) osq=wq at S2 ⊢;clear nq osq;go_wp2;go_roundg (h - i)
    case measure=>omega
    case rel=>exact⟨i,h,by first | rfl | go_num,by first | rfl | go_num,hi0,by omega,by omega,by omega,(show Hid _ from⟨HI.out.1,.inr lx.out⟩),S2⟩
   ·have az:¬ cf dk[m]! dk[h]! < 0:=by rw[DY.out];exact fun q=>dg ((bY.out _ _).1 q)
    have lx:=lhd dg;clear dg;have V6:((m:Int)).toNat=m:=by omega
    have V7:(0:Int)<=(m:Int):=by omega
    have V8:(m:Int) < (sz:Int):=by omega
    have V9:IntKind.i64.wrap ((m:Int))=(m:Int):=by rw[IntKind.wrap_i64];omega
    have VA:((h:Int)).toNat=h:=by omega
    have VB:(0:Int)<=(h:Int):=by omega
    have VC:(h:Int) < (sz:Int):=by omega
    have VD:IntKind.i64.wrap ((h:Int))=(h:Int):=by rw[IntKind.wrap_i64];omega
    obtain⟨x5,GW⟩ : ∃ x,x=dk[m]!:=⟨_,rfl⟩
    obtain⟨y5,GX⟩ : ∃ x,x=dk[h]!:=⟨_,rfl⟩
    have Mo:=S1.out.ld R (by omega) P (m) (by omega);have Mq:=S1.out.ld R (by omega) P (h) (by omega);rw[<-GW] at Mo;rw[<-GX] at Mq;have BE:=S1.out.cmp HC.out (by omega) x5 y5;have QJ:¬ cf x5 y5 < 0:=by rw[GW,GX];exact az
    have VE:decide (cf x5 y5 < 0)=false:=decide_eq_false QJ;clear GW GX az;go_wp2_with fail
    go_quiet_grown (first | (go_at_fn g;refine Calls.grown_of (BE _ _)))
    have S2:Aside (SWK enc k w0 blk off dk (grow (wr.drewN nq) osq)):=S1.out.grown nq osq;clear Mo Mq BE S1;generalize grow (wr.drewN nq) osq=wq at S2 ⊢;clear nq osq;go_wp2;go_roundg (j - (h+1))
    case measure=>omega
    case rel=>exact⟨h+1,j,by first | rfl | go_num,by first | rfl | go_num,by omega,by omega,GQ,by omega,(show Hid _ from⟨.inr (by simpa using lx.out),HI.out.2⟩),S2⟩
  ·have cF:¬ (i:Int) < (j:Int):=by omega
   have lu:j=i:=by omega
   subst lu;obtain⟨t,ht⟩ : ∃ t,t=j:=⟨_,rfl⟩
   subst ht;have q1:=qdm d HD.out HP.out HA.out t hi0 (by omega) (key y) (HI.out.1.imp id (fun h=>by omega));have q2:=qdn d HD.out HP.out HA.out t hi0 (key y+1) (HI.out.2.imp (fun h=>by omega) (fun h=>by omega));obtain⟨A1,jL⟩ : ∃ l,l=A.take (t - a):=⟨_,rfl⟩
   obtain⟨A2,Ab⟩ : ∃ l,l=A.drop (t - a):=⟨_,rfl⟩
   rw[<-jL] at q1;rw[<-Ab] at q2;have l1:A1.length+a=t:=by rw[jL,gh];omega
   have l2:A2.length+t=m:=by rw[Ab,gC];omega
   have kN:A1++A2=A:=by rw[jL,Ab,gr]
   have fin:=qf4 (key:=key) (y:=y) (A1:=A1) (A2:=A2) (by rw[kN];exact HA.out) (fun x hx=>by have:=q1 x hx;omega) (fun x hx=>by have:=q2 x hx;omega);rw[kN,<-GU.out] at fin;have ei:Hid (d.toList=p++(A1++(A2++y :: q))):=by show _=_;rw[HD.out,GU.out,<-kN];simp
   have aP:=lhd fin;clear q1 q2 jL Ab kN fin HI;go_wp2;go_loopg [17] (m - t) (fun g2 vk lv=>∃ (kk:Nat) (dk:Array α),vk = .int .i64 kk/\t<=kk/\kk<=m/\kk - t<=g2/\dk.size=sz/\Hid (dk.toList=p++(A1++(A2.take (kk - t)++y :: (A2.drop (kk - t)++q))))/\Aside (SWK enc k w0 blk off dk lv))
   case atStart=>exact⟨m,d,rfl,by omega,nlr _,nlr _,et,(show Hid _ from by show _=_;rw[ei.out,ge (by omega),gW (by omega)];simp),S1⟩
   case round =>
    clear S1;obtain⟨kk,dk,rfl,dr,ey,dH,eu,HT,S1⟩:=hrel;by_cases E6:t < kk
    ·obtain⟨kp,rfl⟩ : ∃ kp,kk=kp+1:=⟨kk - 1,by omega⟩
     have wu:(t:Int) < (kp:Int)+1:=by omega
     have rm:IntKind.i64.wrap (kp:Int)=(kp:Int):=by rw[IntKind.wrap_i64];omega
     have hls:kp - t < A2.length:=by omega
     have eD:A2.drop (kp - t)=A2[kp - t]'hls :: A2.drop (kp - t+1):=be hls;have eT:A2.take (kp - t+1)=A2.take (kp - t)++[A2[kp - t]'hls]:=List.take_succ_eq_append_getElem hls;generalize A2[kp - t]'hls=z at eD eT;have kW:(swp dk (kp+1) kp).toList=(p++(A1++A2.take (kp - t)))++y :: z :: (A2.drop (kp - t+1)++q) :=
      arr_adj' dk (by rw[HT.out,show kp+1 - t=kp - t+1 by omega,eT];simp only [List.append_assoc,List.cons_append,List.nil_append]) (by have:=HP.out;rw[gl,gl,gh];omega) (by have:=HP.out;rw[gl,gl,gh];omega)
     have mj:Hid ((swp dk (kp+1) kp).toList=p++(A1++(A2.take (kp - t)++y :: (A2.drop (kp - t)++q)))):=by
      show _=_;rw[kW,eD];simp only [List.append_assoc,List.cons_append]
     clear kW eD eT;go_wp2_with fail;have VF:((kp:Int)+1).toNat=kp+1:=by omega
     have VG:(0:Int)<=(kp:Int)+1:=by omega
     have VH:(kp:Int)+1 < (sz:Int):=by omega
     have VI:IntKind.i64.wrap ((kp:Int)+1)=(kp:Int)+1:=by rw[IntKind.wrap_i64];omega
     have VJ:((kp:Int)).toNat=kp:=by omega
     have VK:(0:Int)<=(kp:Int):=by omega
     have VL:(kp:Int) < (sz:Int):=by omega
     have VM:IntKind.i64.wrap ((kp:Int))=(kp:Int):=by rw[IntKind.wrap_i64];omega
     have S3:Aside (SWK enc k w0 blk off (swp dk (kp+1) (kp)) ((wr.drew.setCells blk (off+(kp+1)*k) (enc dk[kp]!)).setCells blk (off+(kp)*k) (enc dk[kp+1]!))):=S1.out.swapped R (kp+1) (kp) (by omega) (by omega);have Mr:=S1.out.ld1 R (by omega) P (kp+1) (by omega);have Ms:=S1.out.ld1 R (by omega) P (kp) (by omega);have Mt:=S1.out.st1 R (by omega) P (kp+1) (by omega) dk[kp]!;have GY:=S1.out.st2 R (by omega) P (kp+1) (kp) (by omega) (by omega) dk[kp]! dk[kp+1]!;have QK:(enc dk[kp+1]!).length=k:=R.hk _;have QL:(enc dk[kp]!).length=k:=R.hk _;generalize enc dk[kp+1]! = cI6 at S3 Mr GY QK;generalize enc dk[kp]! = cJ6 at S3 Ms Mt GY QL;clear S1;go_wp2_with fail
     go_big_region_o
     clear Mr Ms Mt GY;generalize (wr.drew.setCells blk (off+(kp+1)*k) cJ6).setCells blk (off+(kp)*k) cI6=wq2 at S3 ⊢
     all_goals go_wp2
     go_roundg (kp - t)
     case measure=>omega
     case rel=>exact⟨kp,_,by first | rfl | go_num | (congr 1;omega),by omega,by omega,nlr _,by rw[size_swp];exact eu,mj,S3⟩
    ·have wu:¬ (t:Int) < (kk:Int):=by omega
     have HK:Hid (kk - t=0):=by show _=_;omega
     go_wp2
     (try simp only [Exit.inBlock,Exit.then]);refine bodyPost_ret (results_none rfl _ _ _) rfl ?_
     refine⟨rfl,dk,A1++y :: A2,?_,aP.out.1,aP.out.2,S1.out⟩;rw[HT.out,HK.out];simp
end Go.Proofs.YtlhicnfeajejhaaGreatDoor
