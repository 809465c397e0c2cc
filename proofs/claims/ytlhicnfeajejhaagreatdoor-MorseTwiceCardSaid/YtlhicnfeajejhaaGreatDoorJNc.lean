/- Stable sorting at api.Cell: slices.symMergeCmpFunc, one element on the left. Stable sorting at api.Cell: slices.symMergeCmpFunc, one element on .. -/
import Derived.Test.YtlhicnfeajejhaaGreatDoorJNb
set_option maxRecDepth 1000000
set_option maxHeartbeats 16000000
namespace Go.Proofs.YtlhicnfeajejhaaGreatDoor
open Go.RowKit Go.Cx Go.Shelf Go.Lib Go.Sort Go.Proofs
variable {P:Program} {k:Nat} {α:Type} [Inhabited α]
theorem qh9 (L:q33 P k) (enc:α->List Value) (cf:α->α->Int) (key:α->Int) (g:Nat) (cb:Array Value) (blk off cap sz:Nat) (d0:Array α) (w0:World) (eg:∀ args w,(callFunc g args).run P w = .ok (.enter g args) w) (hcmp:CmpLays P g cb enc k cf blk off d0.size w0) (hkey:∀ x y,cf x y < 0↔key x < key y) (R:RowK enc k w0 blk off d0) (hs:d0.size=sz) (hsz:sz<=1099511627776) (a m b:Nat) (d:Array α) (w:World) (p A B q:List α) (S:SWK enc k w0 blk off d w) (hd:d.toList=p++(A++(B++q))) (hp:p.length=a) (hm:a+A.length=m) (hb:m+B.length=b) (hA:Srt key A) (hB:Srt key B) (hbs:b<=sz) (hds:d.size=sz) (hone:m - a=1) (hB0:0 < B.length) :
  Calls P 246 #[.slice (some ⟨blk,off,none⟩) sz cap,.int .i64 a,.int .i64 m,.int .i64 b,.func (.func g) #[] cb] w fun e w' =>
   e = .returned (.tuple #[])/\∃ d' M,d'.toList=p++(M++q)/\Srt key M/\qs key (A++B) M/\SWK enc k w0 blk off d' w':=by
 have LL:Aside _:=L;have RR:Aside _:=R;have HC:Aside _:=hcmp;have HKey:Aside _:=hkey;have cM:=L.c1;have cR:=L.c2;have mixed:=L.mixed;have aE:=L.aE;have zE:=L.zE;have uS:=run_underlying L.tS;have tN:=L.tN;have tNa:=L.tNa;have tNz:=L.tNz;have tNv:=L.tNv;have tB:=L.tB;have tBa:=L.tBa;have tBz:=L.tBz;have tBv:=L.tBv;have tS:=L.tS;have tSa:=L.tSa;have tSz:=L.tSz;have tSv:=L.tSv;have tU:=L.tU;have tUa:=L.tUa;have tUz:=L.tUz;have tUv:=L.tUv;have t0:=L.t0;have t0a:=L.t0a;have t0z:=L.t0z;have t0v:=L.t0v
 clear hcmp hkey;have S1:Aside _:=S;have HD:=lhd hd;have HP:=lhd hp;have HA:=lhd hA;have HB:=lhd hB;clear S hd hp hA hB;go_enter L.f1,Tryz.ntmps246;have hma:(m:Int) - (a:Int)=1:=by omega
 obtain⟨x,hAx⟩ : ∃ x,A=[x]:=by
  match A,(show A.length=1 by omega) with
  | [x],_=>exact⟨x,rfl⟩
 have HAx:=lhd hAx;clear hAx;have dX:d[a]! = x:=yo d (p:=p) (q:=B++q) (by rw[HD.out,HAx.out];rfl) HP.out;have DX:=lhd dX;clear dX;go_wp2;go_loopg [10,11] (b - m) (fun g1 vi vj wr=>∃ (i j:Nat),vi = .int .i64 i/\vj = .int .i64 j/\m<=i/\i<=j/\j<=b/\j - i<=g1/\Hid ((i=m\/key d[i - 1]! < key x)/\(j=b\/¬ key d[j]! < key x))/\Aside (SWK enc k w0 blk off d wr))
 case atStart=>exact⟨m,b,rfl,rfl,nlr _,by omega,nlr _,nlr _,(show Hid _ from⟨.inl rfl,.inl rfl⟩),S1⟩
 case round =>
  clear S1;obtain⟨i,j,rfl,rfl,hi0,hij,hjb,hg1,HI,S1⟩:=hrel;by_cases hlt:i < j
  ·have hltz:(i:Int) < (j:Int):=by omega
   have hwc:IntKind.u64.wrap ((i:Int)+(j:Int))=(i:Int)+(j:Int):=by rw[IntKind.wrap_u64];omega
   obtain⟨h,hh⟩ : ∃ h:Nat,h=(i+j) / 2:=⟨_,rfl⟩
   have hfc:((i:Int)+(j:Int)) / 2=(h:Int):=by omega
   have hhlt:i<=h/\h < j:=by omega
   clear hh;obtain⟨dk,hdk⟩ : ∃ dk,dk=d:=⟨_,rfl⟩
   subst hdk;by_cases hlv:key dk[h]! < key x
   ·have hcmpv:cf dk[h]! dk[a]! < 0:=by rw[DX.out];exact(HKey.out _ _).2 hlv
    have HLV:=lhd hlv;clear hlv;have e1a:((h:Int)).toNat=h:=by omega
    have p1a:(0:Int)<=(h:Int):=by omega
    have b1a:(h:Int) < (sz:Int):=by omega
    have r1a:IntKind.i64.wrap ((h:Int))=(h:Int):=by rw[IntKind.wrap_i64];omega
    have e1b:((a:Int)).toNat=a:=by omega
    have p1b:(0:Int)<=(a:Int):=by omega
    have b1b:(a:Int) < (sz:Int):=by omega
    have r1b:IntKind.i64.wrap ((a:Int))=(a:Int):=by rw[IntKind.wrap_i64];omega
    obtain⟨x1,hx1⟩ : ∃ x,x=dk[h]!:=⟨_,rfl⟩
    obtain⟨y1,hy1⟩ : ∃ x,x=dk[a]!:=⟨_,rfl⟩
    have l1a:=S1.out.ld R (by omega) P (h) (by omega);have l1b:=S1.out.ld R (by omega) P (a) (by omega);rw[<-hx1] at l1a;rw[<-hy1] at l1b;have hc1:=S1.out.cmp HC.out (by omega) x1 y1;have hv1:cf x1 y1 < 0:=by rw[hx1,hy1];exact hcmpv
    have hd1:decide (cf x1 y1 < 0)=true:=decide_eq_true hv1;clear hx1 hy1 hcmpv;go_wp2_with fail
    go_quiet_grown (first | (go_at_fn g;refine Calls.grown_of (hc1 _ _)))
    have S2:Aside (SWK enc k w0 blk off dk (grow (wr.drewN nq) osq)):=S1.out.grown nq osq;clear l1a l1b hc1 S1;generalize grow (wr.drewN nq) osq=wq at S2 ⊢;clear nq osq;go_wp2;go_roundg (j - (h+1))
    case measure=>omega
    case rel=>exact⟨h+1,j,by first | rfl | go_num,by first | rfl | go_num,by omega,by omega,hjb,by omega,(show Hid _ from⟨.inr (by simpa using HLV.out),HI.out.2⟩),S2⟩
   ·have hcmpv:¬ cf dk[h]! dk[a]! < 0:=by rw[DX.out];exact fun q=>hlv ((HKey.out _ _).1 q)
    have HLV:=lhd hlv;clear hlv;have e2a:((h:Int)).toNat=h:=by omega
    have p2a:(0:Int)<=(h:Int):=by omega
    have b2a:(h:Int) < (sz:Int):=by omega
    have r2a:IntKind.i64.wrap ((h:Int))=(h:Int):=by rw[IntKind.wrap_i64];omega
    have e2b:((a:Int)).toNat=a:=by omega
    have p2b:(0:Int)<=(a:Int):=by omega
    have b2b:(a:Int) < (sz:Int):=by omega
    have r2b:IntKind.i64.wrap ((a:Int))=(a:Int):=by rw[IntKind.wrap_i64];omega
    obtain⟨x2,hx2⟩ : ∃ x,x=dk[h]!:=⟨_,rfl⟩
    obtain⟨y2,hy2⟩ : ∃ x,x=dk[a]!:=⟨_,rfl⟩
    have l2a:=S1.out.ld R (by omega) P (h) (by omega);have l2b:=S1.out.ld R (by omega) P (a) (by omega);rw[<-hx2] at l2a;rw[<-hy2] at l2b;have hc2:=S1.out.cmp HC.out (by omega) x2 y2;have hv2:¬ cf x2 y2 < 0:=by rw[hx2,hy2];exact hcmpv
    have hd2:decide (cf x2 y2 < 0)=false:=decide_eq_false hv2;clear hx2 hy2 hcmpv;go_wp2_with fail
    go_quiet_grown (first | (go_at_fn g;refine Calls.grown_of (hc2 _ _)))
    have S2:Aside (SWK enc k w0 blk off dk (grow (wr.drewN nq) osq)):=S1.out.grown nq osq;clear l2a l2b hc2 S1;generalize grow (wr.drewN nq) osq=wq at S2 ⊢;clear nq osq;go_wp2;go_roundg (h - i)
    case measure=>omega
    case rel=>exact⟨i,h,by first | rfl | go_num,by first | rfl | go_num,hi0,by omega,by omega,by omega,(show Hid _ from⟨HI.out.1,.inr HLV.out⟩),S2⟩
  ·have hltz:¬ (i:Int) < (j:Int):=by omega
   have hji:j=i:=by omega
   subst hji;obtain⟨t,ht⟩ : ∃ t,t=j:=⟨_,rfl⟩
   subst ht;have hd2:d.toList=(p++A)++(B++q):=by rw[HD.out];simp
   have hp2:(p++A).length=m:=by have:=HP.out;simp;omega
   have q1:=qdm d hd2 hp2 HB.out t hi0 (by omega) (key x - 1) (HI.out.1.imp id (fun h=>by omega));have q2:=qdn d hd2 hp2 HB.out t hi0 (key x) (HI.out.2.imp (fun h=>by omega) (fun h=>by omega));obtain⟨B1,hB1⟩ : ∃ l,l=B.take (t - m):=⟨_,rfl⟩
   obtain⟨B2,hB2⟩ : ∃ l,l=B.drop (t - m):=⟨_,rfl⟩
   rw[<-hB1] at q1;rw[<-hB2] at q2;have l1:B1.length+m=t:=by rw[hB1,List.length_take];omega
   have hBB:B1++B2=B:=by rw[hB1,hB2,List.take_append_drop]
   have fin:=qh6 (key:=key) (x:=x) (B1:=B1) (B2:=B2) (by rw[hBB];exact HB.out) (fun y hy=>by have:=q1 y hy;omega) (fun y hy=>by have:=q2 y hy;omega);rw[hBB,<-HAx.out] at fin;have HDD:Hid (d.toList=p++x :: (B1++(B2++q))):=by show _=_;rw[HD.out,HAx.out,<-hBB];simp
   have FIN:=lhd fin;clear q1 q2 hd2 hp2 hB1 hB2 hBB fin HI;go_wp2;go_loopg [13] (t - a) (fun g2 vk wr2=>∃ (kk:Nat) (dk:Array α),vk = .int .i64 kk/\a<=kk/\kk+1<=t/\t - kk<=g2/\dk.size=sz/\Hid (dk.toList=p++(B1.take (kk - a)++x :: (B1.drop (kk - a)++(B2++q))))/\Aside (SWK enc k w0 blk off dk wr2))
   case atStart=>exact⟨a,d,rfl,nlr _,by omega,nlr _,hds,(show Hid _ from by show _=_;rw[HDD.out];simp),S1⟩
   case round =>
    clear S1;obtain⟨kk,dk,rfl,hk0,hk1,hg2,hsk,HT,S1⟩:=hrel;by_cases hkt:kk+1 < t
    ·have hktz:(kk:Int) < (t:Int) - 1:=by omega
     have hls:kk - a < B1.length:=by omega
     have eD:B1.drop (kk - a)=B1[kk - a]'hls :: B1.drop (kk - a+1):=List.drop_eq_getElem_cons hls;have eT:B1.take (kk - a+1)=B1.take (kk - a)++[B1[kk - a]'hls]:=List.take_succ_eq_append_getElem hls;generalize B1[kk - a]'hls=z at eD eT;have hsw:(swp dk kk (kk+1)).toList=(p++B1.take (kk - a))++z :: x :: (B1.drop (kk - a+1)++(B2++q)) :=
      qkc dk (by rw[HT.out,eD];simp only [List.append_assoc,List.cons_append]) (by have:=HP.out;rw[List.length_append,List.length_take];omega) (by have:=HP.out;rw[List.length_append,List.length_take];omega)
     have HSW:Hid ((swp dk kk (kk+1)).toList=p++(B1.take (kk+1 - a)++x :: (B1.drop (kk+1 - a)++(B2++q)))):=by
      show _=_;rw[hsw,show kk+1 - a=kk - a+1 by omega,eT];simp only [List.append_assoc,List.cons_append,List.nil_append]
     clear hsw eD eT;go_wp2_with fail;have e3a:((kk:Int)).toNat=kk:=by omega
     have p3a:(0:Int)<=(kk:Int):=by omega
     have b3a:(kk:Int) < (sz:Int):=by omega
     have r3a:IntKind.i64.wrap ((kk:Int))=(kk:Int):=by rw[IntKind.wrap_i64];omega
     have e3b:((kk:Int)+1).toNat=kk+1:=by omega
     have p3b:(0:Int)<=(kk:Int)+1:=by omega
     have b3b:(kk:Int)+1 < (sz:Int):=by omega
     have r3b:IntKind.i64.wrap ((kk:Int)+1)=(kk:Int)+1:=by rw[IntKind.wrap_i64];omega
     have S3:Aside (SWK enc k w0 blk off (swp dk (kk) (kk+1)) ((wr.drew.setCells blk (off+(kk)*k) (enc dk[kk+1]!)).setCells blk (off+(kk+1)*k) (enc dk[kk]!))):=S1.out.swapped R (kk) (kk+1) (by omega) (by omega);have l3a:=S1.out.ld1 R (by omega) P (kk) (by omega);have l3b:=S1.out.ld1 R (by omega) P (kk+1) (by omega);have s3a:=S1.out.st1 R (by omega) P (kk) (by omega) dk[kk+1]!;have s3b:=S1.out.st2 R (by omega) P (kk) (kk+1) (by omega) (by omega) dk[kk+1]! dk[kk]!;have n3a:(enc dk[kk]!).length=k:=R.hk _;have n3b:(enc dk[kk+1]!).length=k:=R.hk _;generalize enc dk[kk]! = cI3 at S3 l3a s3b n3a;generalize enc dk[kk+1]! = cJ3 at S3 l3b s3a s3b n3b;clear S1;go_wp2_with fail
     go_big_region_o
     clear l3a l3b s3a s3b;generalize (wr.drew.setCells blk (off+(kk)*k) cJ3).setCells blk (off+(kk+1)*k) cI3=wq2 at S3 ⊢
     all_goals go_wp2
     go_roundg (t - (kk+1))
     case measure=>omega
     case rel=>exact⟨kk+1,_,by first | rfl | go_num | (congr 1;omega),by omega,by omega,nlr _,by rw[size_swp];exact hsk,HSW,S3⟩
    ·have hktz:¬ (kk:Int) < (t:Int) - 1:=by omega
     have HK:Hid (kk - a=B1.length):=by show _=_;omega
     go_wp2
     (try simp only [Exit.inBlock,Exit.then]);refine bodyPost_ret (results_none rfl _ _ _) rfl ?_
     refine⟨rfl,dk,B1++x :: B2,?_,FIN.out.1,FIN.out.2,S1.out⟩;rw[HT.out,HK.out];simp
theorem qha (L:q33 P k) (enc:α->List Value) (cf:α->α->Int) (key:α->Int) (g:Nat) (cb:Array Value) (blk off cap sz:Nat) (d0:Array α) (w0:World) (eg:∀ args w,(callFunc g args).run P w = .ok (.enter g args) w) (hcmp:CmpLays P g cb enc k cf blk off d0.size w0) (hkey:∀ x y,cf x y < 0↔key x < key y) (R:RowK enc k w0 blk off d0) (hs:d0.size=sz) (hsz:sz<=1099511627776) (a m b:Nat) (d:Array α) (w:World) (p A B q:List α) (S:SWK enc k w0 blk off d w) (hd:d.toList=p++(A++(B++q))) (hp:p.length=a) (hm:a+A.length=m) (hb:m+B.length=b) (hA:Srt key A) (hB:Srt key B) (hbs:b<=sz) (hds:d.size=sz) (hone:¬ m - a=1) (htwo:b - m=1) :
  Calls P 246 #[.slice (some ⟨blk,off,none⟩) sz cap,.int .i64 a,.int .i64 m,.int .i64 b,.func (.func g) #[] cb] w fun e w' =>
   e = .returned (.tuple #[])/\∃ d' M,d'.toList=p++(M++q)/\Srt key M/\qs key (A++B) M/\SWK enc k w0 blk off d' w':=by
 have LL:Aside _:=L;have RR:Aside _:=R;have HC:Aside _:=hcmp;have HKey:Aside _:=hkey;have cM:=L.c1;have cR:=L.c2;have mixed:=L.mixed;have aE:=L.aE;have zE:=L.zE;have uS:=run_underlying L.tS;have tN:=L.tN;have tNa:=L.tNa;have tNz:=L.tNz;have tNv:=L.tNv;have tB:=L.tB;have tBa:=L.tBa;have tBz:=L.tBz;have tBv:=L.tBv;have tS:=L.tS;have tSa:=L.tSa;have tSz:=L.tSz;have tSv:=L.tSv;have tU:=L.tU;have tUa:=L.tUa;have tUz:=L.tUz;have tUv:=L.tUv;have t0:=L.t0;have t0a:=L.t0a;have t0z:=L.t0z;have t0v:=L.t0v
 clear hcmp hkey;have S1:Aside _:=S;have HD:=lhd hd;have HP:=lhd hp;have HA:=lhd hA;have HB:=lhd hB;clear S hd hp hA hB;go_enter L.f1,Tryz.ntmps246;have hma:¬ (m:Int) - (a:Int)=1:=by omega
 have hmaf:((m:Int) - (a:Int) == 1)=false:=by simpa using hma
 have hbm:(b:Int) - (m:Int)=1:=by omega
 obtain⟨y,hBy⟩ : ∃ y,B=[y]:=by
  match B,(show B.length=1 by omega) with
  | [y],_=>exact⟨y,rfl⟩
 have HBy:=lhd hBy;clear hBy;have dY:d[m]! = y:=yo d (p:=p++A) (q:=q) (by rw[HD.out,HBy.out];simp) (by have:=HP.out;simp;omega);have DY:=lhd dY;clear dY;go_wp2;go_loopg [14,15] (m - a) (fun g1 vi vj wr=>∃ (i j:Nat),vi = .int .i64 i/\vj = .int .i64 j/\a<=i/\i<=j/\j<=m/\j - i<=g1/\Hid ((i=a\/¬ key y < key d[i - 1]!)/\(j=m\/key y < key d[j]!))/\Aside (SWK enc k w0 blk off d wr))
 case atStart=>exact⟨a,m,rfl,rfl,nlr _,by omega,nlr _,nlr _,(show Hid _ from⟨.inl rfl,.inl rfl⟩),S1⟩
 case round =>
  clear S1;obtain⟨i,j,rfl,rfl,hi0,hij,hjb,hg1,HI,S1⟩:=hrel;by_cases hlt:i < j
  ·have hltz:(i:Int) < (j:Int):=by omega
   have hwc:IntKind.u64.wrap ((i:Int)+(j:Int))=(i:Int)+(j:Int):=by rw[IntKind.wrap_u64];omega
   obtain⟨h,hh⟩ : ∃ h:Nat,h=(i+j) / 2:=⟨_,rfl⟩
   have hfc:((i:Int)+(j:Int)) / 2=(h:Int):=by omega
   have hhlt:i<=h/\h < j:=by omega
   clear hh;obtain⟨dk,hdk⟩ : ∃ dk,dk=d:=⟨_,rfl⟩
   subst hdk;by_cases hlv:key y < key dk[h]!
   ·have hcmpv:cf dk[m]! dk[h]! < 0:=by rw[DY.out];exact(HKey.out _ _).2 hlv
    have HLV:=lhd hlv;clear hlv;have e4a:((m:Int)).toNat=m:=by omega
    have p4a:(0:Int)<=(m:Int):=by omega
    have b4a:(m:Int) < (sz:Int):=by omega
    have r4a:IntKind.i64.wrap ((m:Int))=(m:Int):=by rw[IntKind.wrap_i64];omega
    have e4b:((h:Int)).toNat=h:=by omega
    have p4b:(0:Int)<=(h:Int):=by omega
    have b4b:(h:Int) < (sz:Int):=by omega
    have r4b:IntKind.i64.wrap ((h:Int))=(h:Int):=by rw[IntKind.wrap_i64];omega
    obtain⟨x4,hx4⟩ : ∃ x,x=dk[m]!:=⟨_,rfl⟩
    obtain⟨y4,hy4⟩ : ∃ x,x=dk[h]!:=⟨_,rfl⟩
    have l4a:=S1.out.ld R (by omega) P (m) (by omega);have l4b:=S1.out.ld R (by omega) P (h) (by omega);rw[<-hx4] at l4a;rw[<-hy4] at l4b;have hc4:=S1.out.cmp HC.out (by omega) x4 y4;have hv4:cf x4 y4 < 0:=by rw[hx4,hy4];exact hcmpv
    have hd4:decide (cf x4 y4 < 0)=true:=decide_eq_true hv4;clear hx4 hy4 hcmpv;go_wp2_with fail
    go_quiet_grown (first | (go_at_fn g;refine Calls.grown_of (hc4 _ _)))
    have S2:Aside (SWK enc k w0 blk off dk (grow (wr.drewN nq) osq)):=S1.out.grown nq osq;clear l4a l4b hc4 S1;generalize grow (wr.drewN nq) osq=wq at S2 ⊢;clear nq osq;go_wp2;go_roundg (h - i)
    case measure=>omega
    case rel=>exact⟨i,h,by first | rfl | go_num,by first | rfl | go_num,hi0,by omega,by omega,by omega,(show Hid _ from⟨HI.out.1,.inr HLV.out⟩),S2⟩
   ·have hcmpv:¬ cf dk[m]! dk[h]! < 0:=by rw[DY.out];exact fun q=>hlv ((HKey.out _ _).1 q)
    have HLV:=lhd hlv;clear hlv;have e5a:((m:Int)).toNat=m:=by omega
    have p5a:(0:Int)<=(m:Int):=by omega
    have b5a:(m:Int) < (sz:Int):=by omega
    have r5a:IntKind.i64.wrap ((m:Int))=(m:Int):=by rw[IntKind.wrap_i64];omega
    have e5b:((h:Int)).toNat=h:=by omega
    have p5b:(0:Int)<=(h:Int):=by omega
    have b5b:(h:Int) < (sz:Int):=by omega
    have r5b:IntKind.i64.wrap ((h:Int))=(h:Int):=by rw[IntKind.wrap_i64];omega
    obtain⟨x5,hx5⟩ : ∃ x,x=dk[m]!:=⟨_,rfl⟩
    obtain⟨y5,hy5⟩ : ∃ x,x=dk[h]!:=⟨_,rfl⟩
    have l5a:=S1.out.ld R (by omega) P (m) (by omega);have l5b:=S1.out.ld R (by omega) P (h) (by omega);rw[<-hx5] at l5a;rw[<-hy5] at l5b;have hc5:=S1.out.cmp HC.out (by omega) x5 y5;have hv5:¬ cf x5 y5 < 0:=by rw[hx5,hy5];exact hcmpv
    have hd5:decide (cf x5 y5 < 0)=false:=decide_eq_false hv5;clear hx5 hy5 hcmpv;go_wp2_with fail
    go_quiet_grown (first | (go_at_fn g;refine Calls.grown_of (hc5 _ _)))
    have S2:Aside (SWK enc k w0 blk off dk (grow (wr.drewN nq) osq)):=S1.out.grown nq osq;clear l5a l5b hc5 S1;generalize grow (wr.drewN nq) osq=wq at S2 ⊢;clear nq osq;go_wp2;go_roundg (j - (h+1))
    case measure=>omega
    case rel=>exact⟨h+1,j,by first | rfl | go_num,by first | rfl | go_num,by omega,by omega,hjb,by omega,(show Hid _ from⟨.inr (by simpa using HLV.out),HI.out.2⟩),S2⟩
  ·have hltz:¬ (i:Int) < (j:Int):=by omega
   have hji:j=i:=by omega
   subst hji;obtain⟨t,ht⟩ : ∃ t,t=j:=⟨_,rfl⟩
   subst ht;have q1:=qdm d HD.out HP.out HA.out t hi0 (by omega) (key y) (HI.out.1.imp id (fun h=>by omega));have q2:=qdn d HD.out HP.out HA.out t hi0 (key y+1) (HI.out.2.imp (fun h=>by omega) (fun h=>by omega));obtain⟨A1,hA1⟩ : ∃ l,l=A.take (t - a):=⟨_,rfl⟩
   obtain⟨A2,hA2⟩ : ∃ l,l=A.drop (t - a):=⟨_,rfl⟩
   rw[<-hA1] at q1;rw[<-hA2] at q2;have l1:A1.length+a=t:=by rw[hA1,List.length_take];omega
   have l2:A2.length+t=m:=by rw[hA2,List.length_drop];omega
   have hAA:A1++A2=A:=by rw[hA1,hA2,List.take_append_drop]
   have fin:=qf4 (key:=key) (y:=y) (A1:=A1) (A2:=A2) (by rw[hAA];exact HA.out) (fun x hx=>by have:=q1 x hx;omega) (fun x hx=>by have:=q2 x hx;omega);rw[hAA,<-HBy.out] at fin;have HDD:Hid (d.toList=p++(A1++(A2++y :: q))):=by show _=_;rw[HD.out,HBy.out,<-hAA];simp
   have FIN:=lhd fin;clear q1 q2 hA1 hA2 hAA fin HI;go_wp2;go_loopg [17] (m - t) (fun g2 vk wr2=>∃ (kk:Nat) (dk:Array α),vk = .int .i64 kk/\t<=kk/\kk<=m/\kk - t<=g2/\dk.size=sz/\Hid (dk.toList=p++(A1++(A2.take (kk - t)++y :: (A2.drop (kk - t)++q))))/\Aside (SWK enc k w0 blk off dk wr2))
   case atStart=>exact⟨m,d,rfl,by omega,nlr _,nlr _,hds,(show Hid _ from by show _=_;rw[HDD.out,List.take_of_length_le (by omega),List.drop_of_length_le (by omega)];simp),S1⟩
   case round =>
    clear S1;obtain⟨kk,dk,rfl,hk0,hk1,hg2,hsk,HT,S1⟩:=hrel;by_cases hkt:t < kk
    ·obtain⟨kp,rfl⟩ : ∃ kp,kk=kp+1:=⟨kk - 1,by omega⟩
     have hktz:(t:Int) < (kp:Int)+1:=by omega
     have hwp:IntKind.i64.wrap (kp:Int)=(kp:Int):=by rw[IntKind.wrap_i64];omega
     have hls:kp - t < A2.length:=by omega
     have eD:A2.drop (kp - t)=A2[kp - t]'hls :: A2.drop (kp - t+1):=List.drop_eq_getElem_cons hls;have eT:A2.take (kp - t+1)=A2.take (kp - t)++[A2[kp - t]'hls]:=List.take_succ_eq_append_getElem hls;generalize A2[kp - t]'hls=z at eD eT;have hsw:(swp dk (kp+1) kp).toList=(p++(A1++A2.take (kp - t)))++y :: z :: (A2.drop (kp - t+1)++q) :=
      arr_adj' dk (by rw[HT.out,show kp+1 - t=kp - t+1 by omega,eT];simp only [List.append_assoc,List.cons_append,List.nil_append]) (by have:=HP.out;rw[List.length_append,List.length_append,List.length_take];omega) (by have:=HP.out;rw[List.length_append,List.length_append,List.length_take];omega)
     have HSW:Hid ((swp dk (kp+1) kp).toList=p++(A1++(A2.take (kp - t)++y :: (A2.drop (kp - t)++q)))):=by
      show _=_;rw[hsw,eD];simp only [List.append_assoc,List.cons_append]
     clear hsw eD eT;go_wp2_with fail;have e6a:((kp:Int)+1).toNat=kp+1:=by omega
     have p6a:(0:Int)<=(kp:Int)+1:=by omega
     have b6a:(kp:Int)+1 < (sz:Int):=by omega
     have r6a:IntKind.i64.wrap ((kp:Int)+1)=(kp:Int)+1:=by rw[IntKind.wrap_i64];omega
     have e6b:((kp:Int)).toNat=kp:=by omega
     have p6b:(0:Int)<=(kp:Int):=by omega
     have b6b:(kp:Int) < (sz:Int):=by omega
     have r6b:IntKind.i64.wrap ((kp:Int))=(kp:Int):=by rw[IntKind.wrap_i64];omega
     have S3:Aside (SWK enc k w0 blk off (swp dk (kp+1) (kp)) ((wr.drew.setCells blk (off+(kp+1)*k) (enc dk[kp]!)).setCells blk (off+(kp)*k) (enc dk[kp+1]!))):=S1.out.swapped R (kp+1) (kp) (by omega) (by omega);have l6a:=S1.out.ld1 R (by omega) P (kp+1) (by omega);have l6b:=S1.out.ld1 R (by omega) P (kp) (by omega);have s6a:=S1.out.st1 R (by omega) P (kp+1) (by omega) dk[kp]!;have s6b:=S1.out.st2 R (by omega) P (kp+1) (kp) (by omega) (by omega) dk[kp]! dk[kp+1]!;have n6a:(enc dk[kp+1]!).length=k:=R.hk _;have n6b:(enc dk[kp]!).length=k:=R.hk _;generalize enc dk[kp+1]! = cI6 at S3 l6a s6b n6a;generalize enc dk[kp]! = cJ6 at S3 l6b s6a s6b n6b;clear S1;go_wp2_with fail
     go_big_region_o
     clear l6a l6b s6a s6b;generalize (wr.drew.setCells blk (off+(kp+1)*k) cJ6).setCells blk (off+(kp)*k) cI6=wq2 at S3 ⊢
     all_goals go_wp2
     go_roundg (kp - t)
     case measure=>omega
     case rel=>exact⟨kp,_,by first | rfl | go_num | (congr 1;omega),by omega,by omega,nlr _,by rw[size_swp];exact hsk,HSW,S3⟩
    ·have hktz:¬ (t:Int) < (kk:Int):=by omega
     have HK:Hid (kk - t=0):=by show _=_;omega
     go_wp2
     (try simp only [Exit.inBlock,Exit.then]);refine bodyPost_ret (results_none rfl _ _ _) rfl ?_
     refine⟨rfl,dk,A1++y :: A2,?_,FIN.out.1,FIN.out.2,S1.out⟩;rw[HT.out,HK.out];simp
end Go.Proofs.YtlhicnfeajejhaaGreatDoor
