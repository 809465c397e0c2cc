/- Steps towards MorseMaps. Conditions: none. -/
import Derived.Test.YtlhicnfeajejhaaGreatDoorChecked
import Derived.Test.YtlhicnfeajejhaaGreatDoorHNa
set_option maxRecDepth 1000000
set_option maxHeartbeats 16000000
namespace Go.Proofs.YtlhicnfeajejhaaGreatDoor
open Go.RowKit Go.Cx Go.Shelf Go.Lib Go.Sort Go.Proofs
variable {P:Program} {k:Nat} {α:Type} [Inhabited α]
structure q33 (P:Program) (k:Nat):Prop where
 mixed:P.follows .mixedOrders=true
 aE:∀ w,(isAgg 75).run P w = .ok true w
 zE:∀ w,(Go.sizeOf 75).run P w = .ok k w
 tN:P.underlying 3=some (TypeDesc.int IntKind.i64)
 tNa:∀ w,(isAgg 3).run P w = .ok false w
 tNz:∀ w,(Go.sizeOf 3).run P w = .ok 1 w
 tNv:∀ w,(zeroValue 3).run P w = .ok (Value.int IntKind.i64 0) w
 tB:P.underlying 4=some (TypeDesc.bool)
 tBa:∀ w,(isAgg 4).run P w = .ok false w
 tBz:∀ w,(Go.sizeOf 4).run P w = .ok 1 w
 tBv:∀ w,(zeroValue 4).run P w = .ok (Value.bool false) w
 tS:P.underlying 24=some (TypeDesc.slice 75)
 tSa:∀ w,(isAgg 24).run P w = .ok false w
 tSz:∀ w,(Go.sizeOf 24).run P w = .ok 1 w
 tSv:∀ w,(zeroValue 24).run P w = .ok (Value.slice none 0 0) w
 tU:P.underlying 168=some (TypeDesc.int IntKind.u64)
 tUa:∀ w,(isAgg 168).run P w = .ok false w
 tUz:∀ w,(Go.sizeOf 168).run P w = .ok 1 w
 tUv:∀ w,(zeroValue 168).run P w = .ok (Value.int IntKind.u64 0) w
 t0:P.underlying 0=some (TypeDesc.tuple #[])
 t0a:∀ w,(isAgg 0).run P w = .ok false w
 t0z:∀ w,(Go.sizeOf 0).run P w = .ok 1 w
 t0v:∀ w,(zeroValue 0).run P w = .ok (Value.tuple #[]) w
 f0:P.funcs[(245:Nat)]? = some Tryz.f245
 c0:∀ args w,(callFunc 245 args).run P w = .ok (.enter 245 args) w
 f1:P.funcs[(246:Nat)]? = some Tryz.f246
 c1:∀ args w,(callFunc 246 args).run P w = .ok (.enter 246 args) w
 f2:P.funcs[(256:Nat)]? = some Tryz.f256
 c2:∀ args w,(callFunc 256 args).run P w = .ok (.enter 256 args) w
 f3:P.funcs[(260:Nat)]? = some Tryz.f260
 c3:∀ args w,(callFunc 260 args).run P w = .ok (.enter 260 args) w
 f4:P.funcs[(230:Nat)]? = some Tryz.f230
 c4:∀ args w,(callFunc 230 args).run P w = .ok (.enter 230 args) w
theorem qp0:q33 Tryz.prog 3 where
 mixed:=by kernel_rfl
 aE:=Tryz.isAgg75
 zE:=Tryz.sizeOf75
 tN:=Tryz.underlying3
 tNa:=Tryz.isAgg3
 tNz:=Tryz.sizeOf3
 tNv:=Tryz.zeroValue3
 tB:=Tryz.underlying4
 tBa:=Tryz.isAgg4
 tBz:=Tryz.sizeOf4
 tBv:=Tryz.zeroValue4
 tS:=Tryz.underlying24
 tSa:=Tryz.isAgg24
 tSz:=Tryz.sizeOf24
 tSv:=Tryz.zeroValue24
 tU:=Tryz.underlying168
 tUa:=Tryz.isAgg168
 tUz:=Tryz.sizeOf168
 tUv:=Tryz.zeroValue168
 t0:=Tryz.underlying0
 t0a:=Tryz.isAgg0
 t0z:=Tryz.sizeOf0
 t0v:=Tryz.zeroValue0
 f0:=Tryz.func245
 c0:=Tryz.call245
 f1:=Tryz.func246
 c1:=Tryz.call246
 f2:=Tryz.func256
 c2:=Tryz.call256
 f3:=Tryz.func260
 c3:=Tryz.call260
 f4:=Tryz.func230
 c4:=Tryz.call230
theorem qdq (L:q33 P k) (enc:α->List Value) (cf:α->α->Int) (key:α->Int) (g:Nat) (cb:Array Value) (blk off cap sz:Nat) (d0:Array α) (w0:World) (eg:∀ args w,(callFunc g args).run P w = .ok (.enter g args) w) (bV:CmpLays P g cb enc k cf blk off d0.size w0) (au:∀ x y,cf x y < 0↔key x < key y) (R:RowK enc k w0 blk off d0) (hs:d0.size=sz) (az:sz<=1099511627776) (d:Array α) (w:World) (S:SWK enc k w0 blk off d w) (a b:Nat) (p m q:List α) (hd:d.toList=p++(m++q)) (hp:p.length=a) (hm:a+m.length=b) (hb:b<=sz) (fw:d.size=sz) :
  Calls P 245 #[.slice (some ⟨blk,off,none⟩) sz cap,.int .i64 a,.int .i64 b,.func (.func g) #[] cb] w fun e w' =>
   e = .returned (.tuple #[])/\∃ d' m',d'.toList=p++(m'++q)/\qs key m m'/\Srt key m'/\SWK enc k w0 blk off d' w':=by
 have mixed:=L.mixed;have aE:=L.aE;have zE:=L.zE;have uS:=run_underlying L.tS;have tN:=L.tN;have tNa:=L.tNa;have tNz:=L.tNz;have tNv:=L.tNv;have tB:=L.tB;have tBa:=L.tBa;have tBz:=L.tBz;have tBv:=L.tBv;have tS:=L.tS;have tSa:=L.tSa;have tSz:=L.tSz;have tSv:=L.tSv;have tU:=L.tU;have tUa:=L.tUa;have tUz:=L.tUz;have tUv:=L.tUv;have t0:=L.t0;have t0a:=L.t0a;have t0z:=L.t0z;have t0v:=L.t0v
 have HC:Aside _:=bV;have cJ:Aside _:=au;have S0:Aside _:=S;have HD:=lhd hd;have HP:=lhd hp;clear bV S au hd hp;go_enter L.f0,Tryz.ntmps245;go_wp2;go_loopg [8] (b - a) (fun g1 vi wr=>∃ (i:Nat) (dk:Array α) (T:List α),vi = .int .i64 i/\a < i/\i<=b+1/\b+1 - i<=g1+1/\dk.size=sz/\T.length=min (i - a) m.length/\Hid (dk.toList=p++(T++(m.drop T.length++q))/\Srt key T/\qs key (m.take T.length) T)/\Aside (SWK enc k w0 blk off dk wr))
 case atStart =>
  have hT:(m.take 1).length=min (a+1 - a) m.length:=by rw[gd];omega
  refine⟨a+1,d,m.take 1,by go_num,by omega,by omega,by omega,fw,hT,(show Hid _ from⟨?_,?_,?_⟩),S0⟩
  ·rw[HD.out,gd,<-gE (m.take 1)];rcases m with _ | ⟨x,m⟩
   ·simp
   ·simp
  ·rcases m with _ | ⟨x,m⟩
   ·exact Srt.nil
   ·simp[Srt.one]
  ·rcases m with _ | ⟨x,m⟩
   ·exact qs.refl _
   ·simp;exact qs.refl _
 case round =>
  obtain⟨i,dk,T,rfl,Tr,Ts,dd,fA,hT,HT,S1⟩:=hrel;by_cases hlt:i < b
  ·have dE:(i:Int) < (b:Int):=by omega
   have qZ:T.length=i - a:=by omega
   obtain⟨x,mr,fb⟩ : ∃ x mr,m.drop T.length=x :: mr:=by
    cases hq:m.drop T.length with
    | nil=>have:=congrArg List.length hq;simp at this;omega
    | cons x mr=>exact⟨x,mr,rfl⟩
   have oq:=lhd fb;clear fb;go_wp2;go_loopg [9] i (fun g2 vj nk=>∃ (j:Nat) (dj:Array α) (T1 T2:List α),vj = .int .i64 j/\a<=j/\j<=i/\j<=g2/\dj.size=sz/\T1.length=j - a/\Hid (dj.toList=p++(T1++x :: (T2++(mr++q)))/\Inn key T x T1 T2)/\Aside (SWK enc k w0 blk off dj nk))
   case atStart =>
    refine⟨i,dk,T,[],rfl,by omega,nlr _,nlr _,fA,qZ,(show Hid _ from⟨?_,Inn.start x HT.out.2.1⟩),S1⟩;rw[HT.out.1,oq.out];simp
   case round =>
    clear S1;obtain⟨j,kD,T1,T2,rfl,Tt,dA,eW,rk,oQ,HI,S1⟩:=hrel;have CU:Srt key (T1++x :: T2)->Hid (kD.toList=p++((T1++x :: T2)++(m.drop (T1++x :: T2).length++q))/\Srt key (T1++x :: T2)/\qs key (m.take (T1++x :: T2).length) (T1++x :: T2))/\(T1++x :: T2).length=min (i+1 - a) m.length:=fun Bl=>by
     have hl:(T1++x :: T2).length=T.length+1:=by rw[<-HI.out.2.stab.len];simp
     have dx:m.take (T.length+1)=m.take T.length++[x]:=by
      rw[gq,<-List.head?_drop,oq.out];rfl
     refine⟨(show Hid _ from⟨?_,Bl,?_⟩),by rw[hl];omega⟩
     ·rw[hl,<-List.drop_drop,oq.out,HI.out.1];simp
     ·rw[hl,dx];exact(qs.app HT.out.2.2 (qs.refl [x])).trans HI.out.2.stab
    have CV:Aside _:=CU;clear CU;by_cases Tu:a < j
    ·have J5:(a:Int) < (j:Int):=by omega
     obtain⟨jp,rfl⟩ : ∃ jp,j=jp+1:=⟨j - 1,by omega⟩
     obtain⟨lG,y,rfl⟩ : ∃ lG y,T1=lG++[y]:=by
      have aq:T1≠[]:=fun e=>by rw[e] at oQ;simp at oQ;omega
      exact⟨T1.dropLast,T1.getLast aq,(List.dropLast_concat_getLast aq).symm⟩
     have J6:p.length+lG.length=jp:=by rw[HP.out];simp at oQ;omega
     have rl:(a:Int) < (jp:Int)+1:=by omega
     have dX:kD[jp+1]! = x:=yo kD (p:=p++(lG++[y])) (q:=T2++(mr++q)) (by rw[HI.out.1];simp) (by simp;omega);have dY:kD[jp]! = y:=yo kD (p:=p++lG) (q:=x :: (T2++(mr++q))) (by rw[HI.out.1];simp) (by simp;omega);have wD:kD.toList=(p++lG)++y :: x :: (T2++(mr++q)):=by rw[HI.out.1];simp
     have DW:=lhd (aiq dX (aiq dY wD));clear dX dY wD;obtain⟨dk,jF⟩ : ∃ dk,dk=kD:=⟨_,rfl⟩
     subst jF;have my:IntKind.i64.wrap (jp:Int)=(jp:Int):=by rw[IntKind.wrap_i64];omega
     by_cases ed:key x < key y
     ·have aG:cf dk[jp+1]! dk[jp]! < 0:=by rw[DW.out.1,DW.out.2.1];exact(cJ.out _ _).2 ed
      have Ol:((jp:Int)+1).toNat=jp+1:=by omega
      have Om:(0:Int)<=(jp:Int)+1:=by omega
      have On:(jp:Int)+1 < (sz:Int):=by omega
      have Oo:IntKind.i64.wrap ((jp:Int)+1)=(jp:Int)+1:=by rw[IntKind.wrap_i64];omega
      have Oq:((jp:Int)).toNat=jp:=by omega
      have Ot:(0:Int)<=(jp:Int):=by omega
      have Ou:(jp:Int) < (sz:Int):=by omega
      have Ov:IntKind.i64.wrap ((jp:Int))=(jp:Int):=by rw[IntKind.wrap_i64];omega
      obtain⟨x1,eQ⟩ : ∃ x,x=dk[jp+1]!:=⟨_,rfl⟩
      obtain⟨y1,ib⟩ : ∃ x,x=dk[jp]!:=⟨_,rfl⟩
      have vN:=S1.out.ld R (by omega) P (jp+1) (by omega);have vO:=S1.out.ld R (by omega) P (jp) (by omega);rw[<-eQ] at vN;rw[<-ib] at vO;have fs:=S1.out.cmp HC.out (by omega) x1 y1;have hv1:cf x1 y1 < 0:=by rw[eQ,ib];exact aG
      have hd1:decide (cf x1 y1 < 0)=true:=decide_eq_true hv1;clear eQ ib aG;go_wp2_with fail
      go_quiet_grown (first | (go_at_fn g;refine Calls.grown_of (fs _ _)))
      have S2:Aside (SWK enc k w0 blk off dk (grow (wr.drewN nq) osq)):=S1.out.grown nq osq;clear vN vO fs S1;generalize grow (wr.drewN nq) osq=wq at S2 ⊢;clear nq osq;go_wp2_with fail;have J7:((jp:Int)+1).toNat=jp+1:=by omega
      have J8:(0:Int)<=(jp:Int)+1:=by omega
      have J9:(jp:Int)+1 < (sz:Int):=by omega
      have JA:IntKind.i64.wrap ((jp:Int)+1)=(jp:Int)+1:=by rw[IntKind.wrap_i64];omega
      have JC:((jp:Int)).toNat=jp:=by omega
      have JD:(0:Int)<=(jp:Int):=by omega
      have JE:(jp:Int) < (sz:Int):=by omega
      have JF:IntKind.i64.wrap ((jp:Int))=(jp:Int):=by rw[IntKind.wrap_i64];omega
      have S3:Aside (SWK enc k w0 blk off (swp dk (jp+1) (jp)) ((wq.drew.setCells blk (off+(jp+1)*k) (enc dk[jp]!)).setCells blk (off+(jp)*k) (enc dk[jp+1]!))):=S2.out.swapped R (jp+1) (jp) (by omega) (by omega);have rm:=S2.out.ld1 R (by omega) P (jp+1) (by omega);have rn:=S2.out.ld1 R (by omega) P (jp) (by omega);have vP:=S2.out.st1 R (by omega) P (jp+1) (by omega) dk[jp]!;have rp:=S2.out.st2 R (by omega) P (jp+1) (jp) (by omega) (by omega) dk[jp]! dk[jp+1]!;have CW:(enc dk[jp+1]!).length=k:=R.hk _;have CX:(enc dk[jp]!).length=k:=R.hk _;generalize enc dk[jp+1]! = cI2 at S3 rm rp CW;generalize enc dk[jp]! = cJ2 at S3 rn vP rp CX;clear S2;go_wp2_with fail
      go_big_region_o
      clear rm rn vP rp;generalize (wq.drew.setCells blk (off+(jp+1)*k) cJ2).setCells blk (off+(jp)*k) cI2=wq2 at S3 ⊢;have mT:(swp dk (jp+1) jp).toList=(p++lG)++x :: y :: (T2++(mr++q)):=arr_adj' dk DW.out.2.2 (by simp;omega) (by simp;omega);have ou:=lhd mT;clear mT
      all_goals go_wp2
      go_roundg jp
      case measure=>omega
      case rel=>exact⟨jp,_,lG,y :: T2,by first | rfl | go_num | (congr 1;omega),by omega,by omega,nlr _,by rw[size_swp];exact rk,by simp at oQ;omega,(show Hid _ from⟨by rw[ou.out];simp,HI.out.2.step ed⟩),S3⟩
     ·have aG:¬ cf dk[jp+1]! dk[jp]! < 0:=by rw[DW.out.1,DW.out.2.1];exact fun h=>ed ((cJ.out _ _).1 h)
      have Ow:((jp:Int)+1).toNat=jp+1:=by omega
      have Ox:(0:Int)<=(jp:Int)+1:=by omega
      have Oy:(jp:Int)+1 < (sz:Int):=by omega
      have Oz:IntKind.i64.wrap ((jp:Int)+1)=(jp:Int)+1:=by rw[IntKind.wrap_i64];omega
      have O0:((jp:Int)).toNat=jp:=by omega
      have O1:(0:Int)<=(jp:Int):=by omega
      have O2:(jp:Int) < (sz:Int):=by omega
      have O3:IntKind.i64.wrap ((jp:Int))=(jp:Int):=by rw[IntKind.wrap_i64];omega
      obtain⟨x3,sY⟩ : ∃ x,x=dk[jp+1]!:=⟨_,rfl⟩
      obtain⟨y3,sZ⟩ : ∃ x,x=dk[jp]!:=⟨_,rfl⟩
      have vQ:=S1.out.ld R (by omega) P (jp+1) (by omega);have vR:=S1.out.ld R (by omega) P (jp) (by omega);rw[<-sY] at vQ;rw[<-sZ] at vR;have td:=S1.out.cmp HC.out (by omega) x3 y3;have hv3:¬ cf x3 y3 < 0:=by rw[sY,sZ];exact aG
      have ey:decide (cf x3 y3 < 0)=false:=decide_eq_false hv3;clear sY sZ aG;go_wp2_with fail
      go_quiet_grown (first | (go_at_fn g;refine Calls.grown_of (td _ _)))
      have S2:Aside (SWK enc k w0 blk off dk (grow (wr.drewN nq) osq)):=S1.out.grown nq osq;clear vQ vR td S1;generalize grow (wr.drewN nq) osq=wq at S2 ⊢;clear nq osq;go_wp2;go_roundg (b - (i+1))
      case measure=>omega
      case rel =>
       obtain⟨h1,h2⟩:=CV.out (HI.out.2.stop (by omega));exact⟨i+1,dk,_,by go_num,by omega,by omega,by omega,rk,h2,h1,S2⟩
    ·have rl:¬ (a:Int) < (j:Int):=by omega
     have CY:T1=[]:=gz (by omega);have CZ:=lhd CY;clear CY;have S2:Aside (SWK enc k w0 blk off kD wr.drew):=S1.out.drew;have Tv:=S2;clear S1;go_wp2_with fail
     go_big_region_o
     all_goals go_wp2
     go_roundg (b - (i+1))
     case measure=>omega
     case rel =>
      obtain⟨h1,h2⟩:=CV.out (by rw[CZ.out];rw[CZ.out] at HI;exact HI.out.2.end);exact⟨i+1,kD,_,by go_num,by omega,by omega,by omega,rk,h2,h1,S2⟩
  ·have dE:¬ (i:Int) < (b:Int):=by omega
   have qZ:T.length=m.length:=by omega
   have Da:=lhd qZ;clear qZ;go_wp2
   go_end0
   refine⟨rfl,dk,T,?_,?_,HT.out.2.1,S1.out⟩
   ·rw[HT.out.1,Da.out];simp
   ·have:=HT.out.2.2;rw[Da.out] at this;simpa using this
theorem q8t (L:q33 P k) (enc:α->List Value) (g:Nat) (cb:Array Value) (blk off cap sz:Nat) (d0:Array α) (w0:World) (R:RowK enc k w0 blk off d0) (hs:d0.size=sz) (az:sz<=1099511627776) (d:Array α) (w:World) (S:SWK enc k w0 blk off d w) (a b n:Nat) (p X M Y q:List α) (hd:d.toList=p++(X++(M++(Y++q)))) (hp:p.length=a) (hX:X.length=n) (hY:Y.length=n) (hb:a+n+M.length=b) (IY:b+n<=sz) (fw:d.size=sz) :
  Calls P 260 #[.slice (some ⟨blk,off,none⟩) sz cap,.int .i64 a,.int .i64 b,.int .i64 n,.func (.func g) #[] cb] w fun e w' =>
   e = .returned (.tuple #[])/\∃ d',d'.toList=p++(Y++(M++(X++q)))/\SWK enc k w0 blk off d' w':=by
 have mixed:=L.mixed;have aE:=L.aE;have zE:=L.zE;have uS:=run_underlying L.tS;have tN:=L.tN;have tNa:=L.tNa;have tNz:=L.tNz;have tNv:=L.tNv;have tB:=L.tB;have tBa:=L.tBa;have tBz:=L.tBz;have tBv:=L.tBv;have tS:=L.tS;have tSa:=L.tSa;have tSz:=L.tSz;have tSv:=L.tSv;have tU:=L.tU;have tUa:=L.tUa;have tUz:=L.tUz;have tUv:=L.tUv;have t0:=L.t0;have t0a:=L.t0a;have t0z:=L.t0z;have t0v:=L.t0v
 have S0:Aside _:=S;have HD:=lhd hd;have HX:=lhd hX;have HY:=lhd hY;have HP:=lhd hp;clear S hd hX hY hp;go_enter L.f3,Tryz.ntmps260;go_wp2;go_loopg [10] n (fun g1 vi wr=>∃ (i:Nat) (dk:Array α),vi = .int .i64 i/\i<=n/\n - i<=g1/\dk.size=sz/\Hid (dk.toList=q8q i p X M Y q)/\Aside (SWK enc k w0 blk off dk wr))
 case atStart=>exact⟨0,d,rfl,gp _,nlr _,fw,(show Hid _ from by rw[HD.out,qf5];exact rfl),S0⟩
 case round =>
  clear S0;obtain⟨i,dk,rfl,hi,dd,fA,HT,S1⟩:=hrel;by_cases hlt:i < n
  ·have dE:(i:Int) < (n:Int):=by omega
   go_wp2_with fail;have J7:((a:Int)+(i:Int)).toNat=a+i:=by omega
   have J8:(0:Int)<=(a:Int)+(i:Int):=by omega
   have J9:(a:Int)+(i:Int) < (sz:Int):=by omega
   have JA:IntKind.i64.wrap ((a:Int)+(i:Int))=(a:Int)+(i:Int):=by rw[IntKind.wrap_i64];omega
   have JC:((b:Int)+(i:Int)).toNat=b+i:=by omega
   have JD:(0:Int)<=(b:Int)+(i:Int):=by omega
   have JE:(b:Int)+(i:Int) < (sz:Int):=by omega
   have JF:IntKind.i64.wrap ((b:Int)+(i:Int))=(b:Int)+(i:Int):=by rw[IntKind.wrap_i64];omega
   have S3:Aside (SWK enc k w0 blk off (swp dk (a+i) (b+i)) ((wr.drew.setCells blk (off+(a+i)*k) (enc dk[b+i]!)).setCells blk (off+(b+i)*k) (enc dk[a+i]!))):=S1.out.swapped R (a+i) (b+i) (by omega) (by omega);have rm:=S1.out.ld1 R (by omega) P (a+i) (by omega);have rn:=S1.out.ld1 R (by omega) P (b+i) (by omega);have vP:=S1.out.st1 R (by omega) P (a+i) (by omega) dk[b+i]!;have rp:=S1.out.st2 R (by omega) P (a+i) (b+i) (by omega) (by omega) dk[b+i]! dk[a+i]!;have CW:(enc dk[a+i]!).length=k:=R.hk _;have CX:(enc dk[b+i]!).length=k:=R.hk _;generalize enc dk[a+i]! = cI2 at S3 rm rp CW;generalize enc dk[b+i]! = cJ2 at S3 rn vP rp CX;clear S1;go_wp2_with fail
   go_big_region_o
   clear rm rn vP rp;generalize (wr.drew.setCells blk (off+(a+i)*k) cJ2).setCells blk (off+(b+i)*k) cI2=wq2 at S3 ⊢;have mT:(swp dk (a+i) (b+i)).toList=q8q (i+1) p X M Y q:=qf6 dk HX.out HY.out hlt HP.out (by rw[HP.out];exact hb) HT.out;have ou:=lhd mT;clear mT
   all_goals go_wp2
   go_roundg (n - (i+1))
   case measure=>omega
   case rel=>exact⟨i+1,_,by first | rfl | go_num | (congr 1;omega),by omega,nlr _,by rw[size_swp];exact fA,ou,S3⟩
  ·have dE:¬ (i:Int) < (n:Int):=by omega
   have cO:i=n:=by omega
   have Db:=lhd cO;clear cO;go_wp2
   go_end0
   refine⟨rfl,dk,?_,S1.out⟩;rw[HT.out,Db.out,qh7 p X M Y q HX.out HY.out]
theorem qdr (L:q33 P k) (enc:α->List Value) (g:Nat) (cb:Array Value) (blk off cap sz:Nat) (d0:Array α) (w0:World) (R:RowK enc k w0 blk off d0) (hs:d0.size=sz) (az:sz<=1099511627776) (d:Array α) (w:World) (S:SWK enc k w0 blk off d w) (a m b:Nat) (p X Y q:List α) (hd:d.toList=p++(X++(Y++q))) (hp:p.length=a) (hX:a+X.length=m) (hY:m+Y.length=b) (Tw:0 < X.length) (Tx:0 < Y.length) (hb:b<=sz) (fw:d.size=sz) :
  Calls P 256 #[.slice (some ⟨blk,off,none⟩) sz cap,.int .i64 a,.int .i64 m,.int .i64 b,.func (.func g) #[] cb] w fun e w' =>
   e = .returned (.tuple #[])/\∃ d',d'.toList=p++(Y++(X++q))/\SWK enc k w0 blk off d' w':=by
 have LL:Aside _:=L;have RR:Aside _:=R;have c3:=L.c3;have mixed:=L.mixed;have aE:=L.aE;have zE:=L.zE;have uS:=run_underlying L.tS;have tN:=L.tN;have tNa:=L.tNa;have tNz:=L.tNz;have tNv:=L.tNv;have tB:=L.tB;have tBa:=L.tBa;have tBz:=L.tBz;have tBv:=L.tBv;have tS:=L.tS;have tSa:=L.tSa;have tSz:=L.tSz;have tSv:=L.tSv;have tU:=L.tU;have tUa:=L.tUa;have tUz:=L.tUz;have tUv:=L.tUv;have t0:=L.t0;have t0a:=L.t0a;have t0z:=L.t0z;have t0v:=L.t0v
 have S0:Aside _:=S;have HD:=lhd hd;have HP:=lhd hp;clear S hd hp;go_enter L.f2,Tryz.ntmps256;clear L R;go_wp2;go_loopg [10,11] (X.length+Y.length) (fun g1 vi vj wr=>∃ (i j:Nat) (dk:Array α) (p' X' Y' q':List α),vi = .int .i64 i/\vj = .int .i64 j/\0 < i/\0 < j/\i<=m/\m+j<=sz/\i+j<=g1/\X'.length=i/\Y'.length=j/\p'.length+i=m/\dk.size=sz/\Hid (dk.toList=p'++(X'++(Y'++q'))/\p'++(Y'++(X'++q'))=p++(Y++(X++q)))/\Aside (SWK enc k w0 blk off dk wr))
 case atStart=>exact⟨X.length,Y.length,d,p,X,Y,q,by congr 1;omega,by congr 1;omega,Tw,Tx,by omega,by omega,nlr _,rfl,rfl,by rw[HP.out];exact hX,fw,(show Hid _ from⟨HD.out,rfl⟩),S0⟩
 case round =>
  clear S0;obtain⟨i,j,dk,p',X',Y',q',rfl,rfl,hi0,hj0,oR,JG,dd,CA,O4,dy,fA,HT,S1⟩:=hrel;have vS:=lhd CA;clear CA;have tR:=lhd O4;clear O4;have Dc:=lhd dy;clear dy;have c1:IntKind.i64.wrap ((m:Int) - (i:Int))=((m - i:Nat):Int):=by rw[IntKind.wrap_i64];omega
  have c4:IntKind.i64.wrap ((m:Int)+(j:Int) - (i:Int))=(m:Int)+(j:Int) - (i:Int):=by rw[IntKind.wrap_i64];omega
  have C1:Aside _:=c1;clear c1 c4;by_cases iB:i=j
  ·subst iB;go_wp2_with fail;have ea:(m:Int) - (i:Int)=((m - i:Nat):Int):=by omega
   try rw[ea]
   refine(q8t LL.out enc g cb blk off cap sz d0 w0 RR.out hs az dk wr S1.out (m - i) m i p' X' [] Y' q' (by simpa using HT.out.1) (by have:=Dc.out;omega) vS.out tR.out (by simp;omega) JG fA).mono ?_;rintro e w2 ⟨rfl,d2,bX,S2⟩;have fL:=lhd bX;clear bX;have S2:Aside _:=S2;go_wp2
   go_end0
   refine⟨rfl,d2,?_,S2.out⟩;rw[fL.out,<-HT.out.2];simp
  ·by_cases NR:j < i
   ·have JH:(j:Int) < (i:Int):=by omega
    have JI:¬ (i:Int)=(j:Int):=by omega
    go_wp2_with fail;have ea:(m:Int) - (i:Int)=((m - i:Nat):Int):=by omega
    try rw[ea]
    refine(q8t LL.out enc g cb blk off cap sz d0 w0 RR.out hs az dk wr S1.out (m - i) m j p' (X'.take j) (X'.drop j) Y' q' (by rw[HT.out.1,<-gE (List.take j X'),gr]) (by have:=Dc.out;omega) (by rw[gd,vS.out];omega) tR.out (by rw[gu,vS.out];omega) JG fA).mono ?_;rintro e w2 ⟨rfl,d2,bX,S2⟩;have fL:=lhd bX;clear bX;have S2:Aside _:=S2;go_wp2;go_roundg i
    case measure=>omega
    case rel =>
     refine⟨i - j,j,d2,p'++Y',X'.drop j,X'.take j,q',by first | (congr 1;omega),rfl,by omega,hj0,by omega,JG,by omega,by rw[gu,vS.out],by rw[gd,vS.out];omega,by rw[gc,tR.out];have:=Dc.out;omega,?_,(show Hid _ from⟨?_,?_⟩),S2⟩
     ·have:=congrArg List.length fL.out;have h2:=congrArg List.length HT.out.1;simp at this h2;have:=vS.out;have:=tR.out;omega
     ·rw[fL.out];simp
     ·rw[<-HT.out.2];simp only [gE];rw[<-gE (List.take j X'),gr]
   ·have JH:¬ (j:Int) < (i:Int):=by omega
    have JI:¬ (i:Int)=(j:Int):=by omega
    go_wp2_with fail;have ea:(m:Int) - (i:Int)=((m - i:Nat):Int):=by omega
    have eb:(m:Int)+(j:Int) - (i:Int)=((m+j - i:Nat):Int):=by omega
    try rw[ea]
    try rw[eb]
    refine(q8t LL.out enc g cb blk off cap sz d0 w0 RR.out hs az dk wr S1.out (m - i) (m+j - i) i p' X' (Y'.take (j - i)) (Y'.drop (j - i)) q' (by rw[HT.out.1];rw[<-gE (List.take _ Y'),gr]) (by have:=Dc.out;omega) vS.out (by rw[gu,tR.out];omega) (by rw[gd,tR.out];omega) (by omega) fA).mono ?_;rintro e w2 ⟨rfl,d2,bX,S2⟩;have fL:=lhd bX;clear bX;have S2:Aside _:=S2;go_wp2;go_roundg j
    case measure=>omega
    case rel =>
     refine⟨i,j - i,d2,p',Y'.drop (j - i),Y'.take (j - i),X'++q',rfl,by first | (congr 1;omega),hi0,by omega,oR,by omega,by omega,by rw[gu,tR.out];omega,by rw[gd,tR.out];omega,Dc.out,?_,(show Hid _ from⟨?_,?_⟩),S2⟩
     ·have:=congrArg List.length fL.out;have h2:=congrArg List.length HT.out.1;simp at this h2;have:=vS.out;have:=tR.out;omega
     ·rw[fL.out]
     ·rw[<-HT.out.2];rw[<-gE (List.take _ Y'),gr]
end Go.Proofs.YtlhicnfeajejhaaGreatDoor
