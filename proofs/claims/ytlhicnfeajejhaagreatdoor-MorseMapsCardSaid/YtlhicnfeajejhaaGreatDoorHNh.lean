/- Steps towards MorseMaps. Conditions: none. -/
import Derived.Test.YtlhicnfeajejhaaGreatDoorChecked
import Derived.Test.YtlhicnfeajejhaaGreatDoorHNa
set_option maxRecDepth 1000000
set_option maxHeartbeats 16000000
namespace Go.Proofs.YtlhicnfeajejhaaGreatDoor
open Go.RowKit Go.Cx Go.Shelf Go.Lib Go.Sort Go.Proofs
variable {P:Program} {k:Nat} {α:Type} [Inhabited α]
structure qhh (P:Program) (k:Nat):Prop where
 mixed:P.follows .mixedOrders=true
 aE:∀ w,(isAgg 108).run P w = .ok true w
 zE:∀ w,(Go.sizeOf 108).run P w = .ok k w
 tN:P.underlying 3=some (TypeDesc.int IntKind.i64)
 tNa:∀ w,(isAgg 3).run P w = .ok false w
 tNz:∀ w,(Go.sizeOf 3).run P w = .ok 1 w
 tNv:∀ w,(zeroValue 3).run P w = .ok (Value.int IntKind.i64 0) w
 tB:P.underlying 4=some (TypeDesc.bool)
 tBa:∀ w,(isAgg 4).run P w = .ok false w
 tBz:∀ w,(Go.sizeOf 4).run P w = .ok 1 w
 tBv:∀ w,(zeroValue 4).run P w = .ok (Value.bool false) w
 tS:P.underlying 73=some (TypeDesc.slice 108)
 tSa:∀ w,(isAgg 73).run P w = .ok false w
 tSz:∀ w,(Go.sizeOf 73).run P w = .ok 1 w
 tSv:∀ w,(zeroValue 73).run P w = .ok (Value.slice none 0 0) w
 tU:P.underlying 168=some (TypeDesc.int IntKind.u64)
 tUa:∀ w,(isAgg 168).run P w = .ok false w
 tUz:∀ w,(Go.sizeOf 168).run P w = .ok 1 w
 tUv:∀ w,(zeroValue 168).run P w = .ok (Value.int IntKind.u64 0) w
 t0:P.underlying 0=some (TypeDesc.tuple #[])
 t0a:∀ w,(isAgg 0).run P w = .ok false w
 t0z:∀ w,(Go.sizeOf 0).run P w = .ok 1 w
 t0v:∀ w,(zeroValue 0).run P w = .ok (Value.tuple #[]) w
 f0:P.funcs[(247:Nat)]? = some Tryz.f247
 c0:∀ args w,(callFunc 247 args).run P w = .ok (.enter 247 args) w
 f1:P.funcs[(248:Nat)]? = some Tryz.f248
 c1:∀ args w,(callFunc 248 args).run P w = .ok (.enter 248 args) w
 f2:P.funcs[(257:Nat)]? = some Tryz.f257
 c2:∀ args w,(callFunc 257 args).run P w = .ok (.enter 257 args) w
 f3:P.funcs[(261:Nat)]? = some Tryz.f261
 c3:∀ args w,(callFunc 261 args).run P w = .ok (.enter 261 args) w
 f4:P.funcs[(232:Nat)]? = some Tryz.f232
 c4:∀ args w,(callFunc 232 args).run P w = .ok (.enter 232 args) w
theorem qp1:qhh Tryz.prog 2 where
 mixed:=by kernel_rfl
 aE:=Tryz.isAgg108
 zE:=Tryz.sizeOf108
 tN:=Tryz.underlying3
 tNa:=Tryz.isAgg3
 tNz:=Tryz.sizeOf3
 tNv:=Tryz.zeroValue3
 tB:=Tryz.underlying4
 tBa:=Tryz.isAgg4
 tBz:=Tryz.sizeOf4
 tBv:=Tryz.zeroValue4
 tS:=Tryz.underlying73
 tSa:=Tryz.isAgg73
 tSz:=Tryz.sizeOf73
 tSv:=Tryz.zeroValue73
 tU:=Tryz.underlying168
 tUa:=Tryz.isAgg168
 tUz:=Tryz.sizeOf168
 tUv:=Tryz.zeroValue168
 t0:=Tryz.underlying0
 t0a:=Tryz.isAgg0
 t0z:=Tryz.sizeOf0
 t0v:=Tryz.zeroValue0
 f0:=Tryz.func247
 c0:=Tryz.call247
 f1:=Tryz.func248
 c1:=Tryz.call248
 f2:=Tryz.func257
 c2:=Tryz.call257
 f3:=Tryz.func261
 c3:=Tryz.call261
 f4:=Tryz.func232
 c4:=Tryz.call232
theorem qki (L:qhh P k) (enc:α->List Value) (cf:α->α->Int) (key:α->Int) (g:Nat) (cb:Array Value) (blk off cap sz:Nat) (d0:Array α) (w0:World) (eg:∀ args w,(callFunc g args).run P w = .ok (.enter g args) w) (bV:CmpLays P g cb enc k cf blk off d0.size w0) (au:∀ x y,cf x y < 0↔key x < key y) (R:RowK enc k w0 blk off d0) (hs:d0.size=sz) (az:sz<=1099511627776) (d:Array α) (w:World) (S:SWK enc k w0 blk off d w) (a b:Nat) (p m q:List α) (hd:d.toList=p++(m++q)) (hp:p.length=a) (hm:a+m.length=b) (hb:b<=sz) (fw:d.size=sz) :
  Calls P 247 #[.slice (some ⟨blk,off,none⟩) sz cap,.int .i64 a,.int .i64 b,.func (.func g) #[] cb] w fun e w' =>
   e = .returned (.tuple #[])/\∃ d' m',d'.toList=p++(m'++q)/\qs key m m'/\Srt key m'/\SWK enc k w0 blk off d' w':=by
 have mixed:=L.mixed;have aE:=L.aE;have zE:=L.zE;have uS:=run_underlying L.tS;have tN:=L.tN;have tNa:=L.tNa;have tNz:=L.tNz;have tNv:=L.tNv;have tB:=L.tB;have tBa:=L.tBa;have tBz:=L.tBz;have tBv:=L.tBv;have tS:=L.tS;have tSa:=L.tSa;have tSz:=L.tSz;have tSv:=L.tSv;have tU:=L.tU;have tUa:=L.tUa;have tUz:=L.tUz;have tUv:=L.tUv;have t0:=L.t0;have t0a:=L.t0a;have t0z:=L.t0z;have t0v:=L.t0v
 have HC:Aside _:=bV;have cJ:Aside _:=au;have S0:Aside _:=S;have HD:=lhd hd;have HP:=lhd hp;clear bV S au hd hp;go_enter L.f0,Tryz.ntmps247;go_wp2;go_loopg [8] (b - a) (fun g1 vi wr=>∃ (i:Nat) (dk:Array α) (T:List α),vi = .int .i64 i/\a < i/\i<=b+1/\b+1 - i<=g1+1/\dk.size=sz/\T.length=min (i - a) m.length/\Hid (dk.toList=p++(T++(m.drop T.length++q))/\Srt key T/\qs key (m.take T.length) T)/\Aside (SWK enc k w0 blk off dk wr))
 case atStart =>
  have hT:(m.take 1).length=min (a+1 - a) m.length:=by rw[gd];omega
  refine⟨a+1,d,m.take 1,by go_num,by omega,by omega,by omega,fw,hT,(show Hid _ from⟨?_,?_,?_⟩),S0⟩
  ·rw[HD.out,gd,<-gE (m.take 1)];rcases m with _ | ⟨x,m⟩
   ·simp
   ·simp
  ·rcases m with _ | ⟨x,m⟩
   ·exact Srt.nil
   ·simp[Srt.one]
  ·rcases m with _ | ⟨x,m⟩
   ·exact qs.refl _
   ·simp;exact qs.refl _
 case round =>
  obtain⟨i,dk,T,rfl,Tr,Ts,dd,fA,hT,HT,S1⟩:=hrel;by_cases hlt:i < b
  ·have dE:(i:Int) < (b:Int):=by omega
   have qZ:T.length=i - a:=by omega
   obtain⟨x,mr,fb⟩ : ∃ x mr,m.drop T.length=x :: mr:=by
    cases hq:m.drop T.length with
    | nil=>have:=congrArg List.length hq;simp at this;omega
    | cons x mr=>exact⟨x,mr,rfl⟩
   have oq:=lhd fb;clear fb;go_wp2;go_loopg [9] i (fun g2 vj nk=>∃ (j:Nat) (dj:Array α) (T1 T2:List α),vj = .int .i64 j/\a<=j/\j<=i/\j<=g2/\dj.size=sz/\T1.length=j - a/\Hid (dj.toList=p++(T1++x :: (T2++(mr++q)))/\Inn key T x T1 T2)/\Aside (SWK enc k w0 blk off dj nk))
   case atStart =>
    refine⟨i,dk,T,[],rfl,by omega,nlr _,nlr _,fA,qZ,(show Hid _ from⟨?_,Inn.start x HT.out.2.1⟩),S1⟩;rw[HT.out.1,oq.out];simp
   case round =>
    clear S1;obtain⟨j,kD,T1,T2,rfl,Tt,dA,eW,rk,oQ,HI,S1⟩:=hrel;have CU:Srt key (T1++x :: T2)->Hid (kD.toList=p++((T1++x :: T2)++(m.drop (T1++x :: T2).length++q))/\Srt key (T1++x :: T2)/\qs key (m.take (T1++x :: T2).length) (T1++x :: T2))/\(T1++x :: T2).length=min (i+1 - a) m.length:=fun Bl=>by
     have hl:(T1++x :: T2).length=T.length+1:=by rw[<-HI.out.2.stab.len];simp
     have dx:m.take (T.length+1)=m.take T.length++[x]:=by
      rw[gq,<-List.head?_drop,oq.out];rfl
     refine⟨(show Hid _ from⟨?_,Bl,?_⟩),by rw[hl];omega⟩
     ·rw[hl,<-List.drop_drop,oq.out,HI.out.1];simp
     ·rw[hl,dx];exact(qs.app HT.out.2.2 (qs.refl [x])).trans HI.out.2.stab
    have CV:Aside _:=CU;clear CU;by_cases Tu:a < j
    ·have J5:(a:Int) < (j:Int):=by omega
     obtain⟨jp,rfl⟩ : ∃ jp,j=jp+1:=⟨j - 1,by omega⟩
     obtain⟨lG,y,rfl⟩ : ∃ lG y,T1=lG++[y]:=by
      have aq:T1≠[]:=fun e=>by rw[e] at oQ;simp at oQ;omega
      exact⟨T1.dropLast,T1.getLast aq,(List.dropLast_concat_getLast aq).symm⟩
     have J6:p.length+lG.length=jp:=by rw[HP.out];simp at oQ;omega
     have rl:(a:Int) < (jp:Int)+1:=by omega
     have dX:kD[jp+1]! = x:=yo kD (p:=p++(lG++[y])) (q:=T2++(mr++q)) (by rw[HI.out.1];simp) (by simp;omega);have dY:kD[jp]! = y:=yo kD (p:=p++lG) (q:=x :: (T2++(mr++q))) (by rw[HI.out.1];simp) (by simp;omega);have wD:kD.toList=(p++lG)++y :: x :: (T2++(mr++q)):=by rw[HI.out.1];simp
     have DW:=lhd (aiq dX (aiq dY wD));clear dX dY wD;obtain⟨dk,jF⟩ : ∃ dk,dk=kD:=⟨_,rfl⟩
     subst jF;have my:IntKind.i64.wrap (jp:Int)=(jp:Int):=by rw[IntKind.wrap_i64];omega
     by_cases ed:key x < key y
     ·have aG:cf dk[jp+1]! dk[jp]! < 0:=by rw[DW.out.1,DW.out.2.1];exact(cJ.out _ _).2 ed
      have Ol:((jp:Int)+1).toNat=jp+1:=by omega
      have Om:(0:Int)<=(jp:Int)+1:=by omega
      have On:(jp:Int)+1 < (sz:Int):=by omega
      have Oo:IntKind.i64.wrap ((jp:Int)+1)=(jp:Int)+1:=by rw[IntKind.wrap_i64];omega
      have Oq:((jp:Int)).toNat=jp:=by omega
      have Ot:(0:Int)<=(jp:Int):=by omega
      have Ou:(jp:Int) < (sz:Int):=by omega
      have Ov:IntKind.i64.wrap ((jp:Int))=(jp:Int):=by rw[IntKind.wrap_i64];omega
      obtain⟨x1,eQ⟩ : ∃ x,x=dk[jp+1]!:=⟨_,rfl⟩
      obtain⟨y1,ib⟩ : ∃ x,x=dk[jp]!:=⟨_,rfl⟩
      have vN:=S1.out.ld R (by omega) P (jp+1) (by omega);have vO:=S1.out.ld R (by omega) P (jp) (by omega);rw[<-eQ] at vN;rw[<-ib] at vO;have fs:=S1.out.cmp HC.out (by omega) x1 y1;have hv1:cf x1 y1 < 0:=by rw[eQ,ib];exact aG
      have hd1:decide (cf x1 y1 < 0)=true:=decide_eq_true hv1;clear eQ ib aG;go_wp2_with fail
      go_quiet_grown (first | (go_at_fn g;refine Calls.grown_of (fs _ _)))
      have S2:Aside (SWK enc k w0 blk off dk (grow (wr.drewN nq) osq)):=S1.out.grown nq osq;clear vN vO fs S1;generalize grow (wr.drewN nq) osq=wq at S2 ⊢;clear nq osq;go_wp2_with fail;have J7:((jp:Int)+1).toNat=jp+1:=by omega
      have J8:(0:Int)<=(jp:Int)+1:=by omega
      have J9:(jp:Int)+1 < (sz:Int):=by omega
      have JA:IntKind.i64.wrap ((jp:Int)+1)=(jp:Int)+1:=by rw[IntKind.wrap_i64];omega
      have JC:((jp:Int)).toNat=jp:=by omega
      have JD:(0:Int)<=(jp:Int):=by omega
      have JE:(jp:Int) < (sz:Int):=by omega
      have JF:IntKind.i64.wrap ((jp:Int))=(jp:Int):=by rw[IntKind.wrap_i64];omega
      have S3:Aside (SWK enc k w0 blk off (swp dk (jp+1) (jp)) ((wq.drew.setCells blk (off+(jp+1)*k) (enc dk[jp]!)).setCells blk (off+(jp)*k) (enc dk[jp+1]!))):=S2.out.swapped R (jp+1) (jp) (by omega) (by omega);have rm:=S2.out.ld1 R (by omega) P (jp+1) (by omega);have rn:=S2.out.ld1 R (by omega) P (jp) (by omega);have vP:=S2.out.st1 R (by omega) P (jp+1) (by omega) dk[jp]!;have rp:=S2.out.st2 R (by omega) P (jp+1) (jp) (by omega) (by omega) dk[jp]! dk[jp+1]!;have CW:(enc dk[jp+1]!).length=k:=R.hk _;have CX:(enc dk[jp]!).length=k:=R.hk _;generalize enc dk[jp+1]! = cI2 at S3 rm rp CW;generalize enc dk[jp]! = cJ2 at S3 rn vP rp CX;clear S2;go_wp2_with fail
      go_big_region_o
      clear rm rn vP rp;generalize (wq.drew.setCells blk (off+(jp+1)*k) cJ2).setCells blk (off+(jp)*k) cI2=wq2 at S3 ⊢;have mT:(swp dk (jp+1) jp).toList=(p++lG)++x :: y :: (T2++(mr++q)):=arr_adj' dk DW.out.2.2 (by simp;omega) (by simp;omega);have ou:=lhd mT;clear mT
      all_goals go_wp2
      go_roundg jp
      case measure=>omega
      case rel=>exact⟨jp,_,lG,y :: T2,by first | rfl | go_num | (congr 1;omega),by omega,by omega,nlr _,by rw[size_swp];exact rk,by simp at oQ;omega,(show Hid _ from⟨by rw[ou.out];simp,HI.out.2.step ed⟩),S3⟩
     ·have aG:¬ cf dk[jp+1]! dk[jp]! < 0:=by rw[DW.out.1,DW.out.2.1];exact fun h=>ed ((cJ.out _ _).1 h)
      have Ow:((jp:Int)+1).toNat=jp+1:=by omega
      have Ox:(0:Int)<=(jp:Int)+1:=by omega
      have Oy:(jp:Int)+1 < (sz:Int):=by omega
      have Oz:IntKind.i64.wrap ((jp:Int)+1)=(jp:Int)+1:=by rw[IntKind.wrap_i64];omega
      have O0:((jp:Int)).toNat=jp:=by omega
      have O1:(0:Int)<=(jp:Int):=by omega
      have O2:(jp:Int) < (sz:Int):=by omega
      have O3:IntKind.i64.wrap ((jp:Int))=(jp:Int):=by rw[IntKind.wrap_i64];omega
      obtain⟨x3,sY⟩ : ∃ x,x=dk[jp+1]!:=⟨_,rfl⟩
      obtain⟨y3,sZ⟩ : ∃ x,x=dk[jp]!:=⟨_,rfl⟩
      have vQ:=S1.out.ld R (by omega) P (jp+1) (by omega);have vR:=S1.out.ld R (by omega) P (jp) (by omega);rw[<-sY] at vQ;rw[<-sZ] at vR;have td:=S1.out.cmp HC.out (by omega) x3 y3;have hv3:¬ cf x3 y3 < 0:=by rw[sY,sZ];exact aG
      have ey:decide (cf x3 y3 < 0)=false:=decide_eq_false hv3;clear sY sZ aG;go_wp2_with fail
      go_quiet_grown (first | (go_at_fn g;refine Calls.grown_of (td _ _)))
      have S2:Aside (SWK enc k w0 blk off dk (grow (wr.drewN nq) osq)):=S1.out.grown nq osq;clear vQ vR td S1;generalize grow (wr.drewN nq) osq=wq at S2 ⊢;clear nq osq;go_wp2;go_roundg (b - (i+1))
      case measure=>omega
      case rel =>
       obtain⟨h1,h2⟩:=CV.out (HI.out.2.stop (by omega));exact⟨i+1,dk,_,by go_num,by omega,by omega,by omega,rk,h2,h1,S2⟩
    ·have rl:¬ (a:Int) < (j:Int):=by omega
     have CY:T1=[]:=gz (by omega);have CZ:=lhd CY;clear CY;have S2:Aside (SWK enc k w0 blk off kD wr.drew):=S1.out.drew;have Tv:=S2;clear S1;go_wp2_with fail
     go_big_region_o
     all_goals go_wp2
     go_roundg (b - (i+1))
     case measure=>omega
     case rel =>
      obtain⟨h1,h2⟩:=CV.out (by rw[CZ.out];rw[CZ.out] at HI;exact HI.out.2.end);exact⟨i+1,kD,_,by go_num,by omega,by omega,by omega,rk,h2,h1,S2⟩
  ·have dE:¬ (i:Int) < (b:Int):=by omega
   have qZ:T.length=m.length:=by omega
   have Da:=lhd qZ;clear qZ;go_wp2
   go_end0
   refine⟨rfl,dk,T,?_,?_,HT.out.2.1,S1.out⟩
   ·rw[HT.out.1,Da.out];simp
   ·have:=HT.out.2.2;rw[Da.out] at this;simpa using this
end Go.Proofs.YtlhicnfeajejhaaGreatDoor
