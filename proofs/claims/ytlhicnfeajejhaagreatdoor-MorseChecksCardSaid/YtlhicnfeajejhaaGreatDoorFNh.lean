/- Steps towards MorseChecks. Conditions: none. -/
import Derived.Test.YtlhicnfeajejhaaGreatDoorChecked
import Derived.Test.YtlhicnfeajejhaaGreatDoorFNa
set_option maxRecDepth 1000000
set_option maxHeartbeats 16000000
namespace Go.Proofs.YtlhicnfeajejhaaGreatDoor
open Go.RowKit Go.Cx Go.Shelf Go.Lib Go.Sort Go.Proofs
variable {P:Program} {k:Nat} {α:Type} [Inhabited α]
structure qhh (P:Program) (k:Nat):Prop where
 mixed:P.follows .mixedOrders=true
 aE:∀ w,(isAgg 108).run P w = .ok true w
 zE:∀ w,(Go.sizeOf 108).run P w = .ok k w
 tN:P.underlying 3=some (TypeDesc.int IntKind.i64)
 tNa:∀ w,(isAgg 3).run P w = .ok false w
 tNz:∀ w,(Go.sizeOf 3).run P w = .ok 1 w
 tNv:∀ w,(zeroValue 3).run P w = .ok (Value.int IntKind.i64 0) w
 tB:P.underlying 4=some (TypeDesc.bool)
 tBa:∀ w,(isAgg 4).run P w = .ok false w
 tBz:∀ w,(Go.sizeOf 4).run P w = .ok 1 w
 tBv:∀ w,(zeroValue 4).run P w = .ok (Value.bool false) w
 tS:P.underlying 73=some (TypeDesc.slice 108)
 tSa:∀ w,(isAgg 73).run P w = .ok false w
 tSz:∀ w,(Go.sizeOf 73).run P w = .ok 1 w
 tSv:∀ w,(zeroValue 73).run P w = .ok (Value.slice none 0 0) w
 tU:P.underlying 168=some (TypeDesc.int IntKind.u64)
 tUa:∀ w,(isAgg 168).run P w = .ok false w
 tUz:∀ w,(Go.sizeOf 168).run P w = .ok 1 w
 tUv:∀ w,(zeroValue 168).run P w = .ok (Value.int IntKind.u64 0) w
 t0:P.underlying 0=some (TypeDesc.tuple #[])
 t0a:∀ w,(isAgg 0).run P w = .ok false w
 t0z:∀ w,(Go.sizeOf 0).run P w = .ok 1 w
 t0v:∀ w,(zeroValue 0).run P w = .ok (Value.tuple #[]) w
 f0:P.funcs[(247:Nat)]? = some Tryz.f247
 c0:∀ args w,(callFunc 247 args).run P w = .ok (.enter 247 args) w
 f1:P.funcs[(248:Nat)]? = some Tryz.f248
 c1:∀ args w,(callFunc 248 args).run P w = .ok (.enter 248 args) w
 f2:P.funcs[(257:Nat)]? = some Tryz.f257
 c2:∀ args w,(callFunc 257 args).run P w = .ok (.enter 257 args) w
 f3:P.funcs[(261:Nat)]? = some Tryz.f261
 c3:∀ args w,(callFunc 261 args).run P w = .ok (.enter 261 args) w
 f4:P.funcs[(232:Nat)]? = some Tryz.f232
 c4:∀ args w,(callFunc 232 args).run P w = .ok (.enter 232 args) w
theorem qp1:qhh Tryz.prog 2 where
 mixed:=by kernel_rfl
 aE:=Tryz.isAgg108
 zE:=Tryz.sizeOf108
 tN:=Tryz.underlying3
 tNa:=Tryz.isAgg3
 tNz:=Tryz.sizeOf3
 tNv:=Tryz.zeroValue3
 tB:=Tryz.underlying4
 tBa:=Tryz.isAgg4
 tBz:=Tryz.sizeOf4
 tBv:=Tryz.zeroValue4
 tS:=Tryz.underlying73
 tSa:=Tryz.isAgg73
 tSz:=Tryz.sizeOf73
 tSv:=Tryz.zeroValue73
 tU:=Tryz.underlying168
 tUa:=Tryz.isAgg168
 tUz:=Tryz.sizeOf168
 tUv:=Tryz.zeroValue168
 t0:=Tryz.underlying0
 t0a:=Tryz.isAgg0
 t0z:=Tryz.sizeOf0
 t0v:=Tryz.zeroValue0
 f0:=Tryz.func247
 c0:=Tryz.call247
 f1:=Tryz.func248
 c1:=Tryz.call248
 f2:=Tryz.func257
 c2:=Tryz.call257
 f3:=Tryz.func261
 c3:=Tryz.call261
 f4:=Tryz.func232
 c4:=Tryz.call232
theorem qki (L:qhh P k) (enc:α->List Value) (cf:α->α->Int) (key:α->Int) (g:Nat) (cb:Array Value) (blk off cap sz:Nat) (d0:Array α) (w0:World) (eg:∀ args w,(callFunc g args).run P w = .ok (.enter g args) w) (aY:CmpLays P g cb enc k cf blk off d0.size w0) (aq:∀ x y,cf x y < 0↔key x < key y) (R:RowK enc k w0 blk off d0) (hs:d0.size=sz) (ao:sz<=1099511627776) (d:Array α) (w:World) (S:SWK enc k w0 blk off d w) (a b:Nat) (p m q:List α) (hd:d.toList=p++(m++q)) (hp:p.length=a) (hm:a+m.length=b) (hb:b<=sz) (et:d.size=sz) :
  Calls P 247 #[.slice (some ⟨blk,off,none⟩) sz cap,.int .i64 a,.int .i64 b,.func (.func g) #[] cb] w fun e w' =>
   e = .returned (.tuple #[])/\∃ d' m',d'.toList=p++(m'++q)/\qs key m m'/\Srt key m'/\SWK enc k w0 blk off d' w':=by
 have mixed:=L.mixed;have aE:=L.aE;have zE:=L.zE;have uS:=run_underlying L.tS;have tN:=L.tN;have tNa:=L.tNa;have tNz:=L.tNz;have tNv:=L.tNv;have tB:=L.tB;have tBa:=L.tBa;have tBz:=L.tBz;have tBv:=L.tBv;have tS:=L.tS;have tSa:=L.tSa;have tSz:=L.tSz;have tSv:=L.tSv;have tU:=L.tU;have tUa:=L.tUa;have tUz:=L.tUz;have tUv:=L.tUv;have t0:=L.t0;have t0a:=L.t0a;have t0z:=L.t0z;have t0v:=L.t0v
 have HC:Aside _:=aY;have bY:Aside _:=aq;have S0:Aside _:=S;have HD:=lhd hd;have HP:=lhd hp;clear aY S aq hd hp;go_enter L.f0,Tryz.ntmps247;go_wp2;go_loopg [8] (b - a) (fun g1 vi wr=>∃ (i:Nat) (dk:Array α) (T:List α),vi = .int .i64 i/\a < i/\i<=b+1/\b+1 - i<=g1+1/\dk.size=sz/\T.length=min (i - a) m.length/\Hid (dk.toList=p++(T++(m.drop T.length++q))/\Srt key T/\qs key (m.take T.length) T)/\Aside (SWK enc k w0 blk off dk wr))
 case atStart =>
  have hT:(m.take 1).length=min (a+1 - a) m.length:=by rw[gh];omega
  refine⟨a+1,d,m.take 1,by go_num,by omega,by omega,by omega,et,hT,(show Hid _ from⟨?_,?_,?_⟩),S0⟩
  ·rw[HD.out,gh,<-gz (m.take 1)];rcases m with _ | ⟨x,m⟩
   ·simp
   ·simp
  ·rcases m with _ | ⟨x,m⟩
   ·exact Srt.nil
   ·simp[Srt.one]
  ·rcases m with _ | ⟨x,m⟩
   ·exact qs.refl _
   ·simp;exact qs.refl _
 case round =>
  obtain⟨i,dk,T,rfl,Q8,Q9,cA,eu,hT,HT,S1⟩:=hrel;by_cases hlt:i < b
  ·have cF:(i:Int) < (b:Int):=by omega
   have oX:T.length=i - a:=by omega
   obtain⟨x,mr,eU⟩ : ∃ x mr,m.drop T.length=x :: mr:=by
    cases hq:m.drop T.length with
    | nil=>have:=congrArg List.length hq;simp at this;omega
    | cons x mr=>exact⟨x,mr,rfl⟩
   have me:=lhd eU;clear eU;go_wp2;go_loopg [9] i (fun g2 vj lv=>∃ (j:Nat) (dj:Array α) (T1 T2:List α),vj = .int .i64 j/\a<=j/\j<=i/\j<=g2/\dj.size=sz/\T1.length=j - a/\Hid (dj.toList=p++(T1++x :: (T2++(mr++q)))/\Inn key T x T1 T2)/\Aside (SWK enc k w0 blk off dj lv))
   case atStart =>
    refine⟨i,dk,T,[],rfl,by omega,nlr _,nlr _,eu,oX,(show Hid _ from⟨?_,Inn.start x HT.out.2.1⟩),S1⟩;rw[HT.out.1,me.out];simp
   case round =>
    clear S1;obtain⟨j,iE,T1,T2,rfl,QA,lu,dH,pg,nm,HI,S1⟩:=hrel;have Bq:Srt key (T1++x :: T2)->Hid (iE.toList=p++((T1++x :: T2)++(m.drop (T1++x :: T2).length++q))/\Srt key (T1++x :: T2)/\qs key (m.take (T1++x :: T2).length) (T1++x :: T2))/\(T1++x :: T2).length=min (i+1 - a) m.length:=fun zR=>by
     have hl:(T1++x :: T2).length=T.length+1:=by rw[<-HI.out.2.stab.len];simp
     have dw:m.take (T.length+1)=m.take T.length++[x]:=by
      rw[gq,<-List.head?_drop,me.out];rfl
     refine⟨(show Hid _ from⟨?_,zR,?_⟩),by rw[hl];omega⟩
     ·rw[hl,<-List.drop_drop,me.out,HI.out.1];simp
     ·rw[hl,dw];exact(qs.app HT.out.2.2 (qs.refl [x])).trans HI.out.2.stab
    have Br:Aside _:=Bq;clear Bq;by_cases QB:a < j
    ·have GB:(a:Int) < (j:Int):=by omega
     obtain⟨jp,rfl⟩ : ∃ jp,j=jp+1:=⟨j - 1,by omega⟩
     obtain⟨jK,y,rfl⟩ : ∃ jK y,T1=jK++[y]:=by
      have ak:T1≠[]:=fun e=>by rw[e] at nm;simp at nm;omega
      exact⟨T1.dropLast,T1.getLast ak,(List.dropLast_concat_getLast ak).symm⟩
     have GC:p.length+jK.length=jp:=by rw[HP.out];simp at nm;omega
     have ph:(a:Int) < (jp:Int)+1:=by omega
     have dX:iE[jp+1]! = x:=yo iE (p:=p++(jK++[y])) (q:=T2++(mr++q)) (by rw[HI.out.1];simp) (by simp;omega);have dY:iE[jp]! = y:=yo iE (p:=p++jK) (q:=x :: (T2++(mr++q))) (by rw[HI.out.1];simp) (by simp;omega);have wD:iE.toList=(p++jK)++y :: x :: (T2++(mr++q)):=by rw[HI.out.1];simp
     have DW:=lhd (aiq dX (aiq dY wD));clear dX dY wD;obtain⟨dk,kZ⟩ : ∃ dk,dk=iE:=⟨_,rfl⟩
     subst kZ;have rm:IntKind.i64.wrap (jp:Int)=(jp:Int):=by rw[IntKind.wrap_i64];omega
     by_cases dg:key x < key y
     ·have az:cf dk[jp+1]! dk[jp]! < 0:=by rw[DW.out.1,DW.out.2.1];exact(bY.out _ _).2 dg
      have LR:((jp:Int)+1).toNat=jp+1:=by omega
      have LS:(0:Int)<=(jp:Int)+1:=by omega
      have LU:(jp:Int)+1 < (sz:Int):=by omega
      have LV:IntKind.i64.wrap ((jp:Int)+1)=(jp:Int)+1:=by rw[IntKind.wrap_i64];omega
      have LW:((jp:Int)).toNat=jp:=by omega
      have LX:(0:Int)<=(jp:Int):=by omega
      have LY:(jp:Int) < (sz:Int):=by omega
      have LZ:IntKind.i64.wrap ((jp:Int))=(jp:Int):=by rw[IntKind.wrap_i64];omega
      obtain⟨x1,eM⟩ : ∃ x,x=dk[jp+1]!:=⟨_,rfl⟩
      obtain⟨y1,iC⟩ : ∃ x,x=dk[jp]!:=⟨_,rfl⟩
      have tO:=S1.out.ld R (by omega) P (jp+1) (by omega);have tP:=S1.out.ld R (by omega) P (jp) (by omega);rw[<-eM] at tO;rw[<-iC] at tP;have eI:=S1.out.cmp HC.out (by omega) x1 y1;have hv1:cf x1 y1 < 0:=by rw[eM,iC];exact az
      have bZ:decide (cf x1 y1 < 0)=true:=decide_eq_true hv1;clear eM iC az;go_wp2_with fail
      go_quiet_grown (first | (go_at_fn g;refine Calls.grown_of (eI _ _)))
      have S2:Aside (SWK enc k w0 blk off dk (grow (wr.drewN nq) osq)):=S1.out.grown nq osq;clear tO tP eI S1;generalize grow (wr.drewN nq) osq=wq at S2 ⊢;clear nq osq;go_wp2_with fail;have GD:((jp:Int)+1).toNat=jp+1:=by omega
      have GF:(0:Int)<=(jp:Int)+1:=by omega
      have GG:(jp:Int)+1 < (sz:Int):=by omega
      have GH:IntKind.i64.wrap ((jp:Int)+1)=(jp:Int)+1:=by rw[IntKind.wrap_i64];omega
      have GI:((jp:Int)).toNat=jp:=by omega
      have GJ:(0:Int)<=(jp:Int):=by omega
      have GK:(jp:Int) < (sz:Int):=by omega
      have GL:IntKind.i64.wrap ((jp:Int))=(jp:Int):=by rw[IntKind.wrap_i64];omega
      have S3:Aside (SWK enc k w0 blk off (swp dk (jp+1) (jp)) ((wq.drew.setCells blk (off+(jp+1)*k) (enc dk[jp]!)).setCells blk (off+(jp)*k) (enc dk[jp+1]!))):=S2.out.swapped R (jp+1) (jp) (by omega) (by omega);have pj:=S2.out.ld1 R (by omega) P (jp+1) (by omega);have pk:=S2.out.ld1 R (by omega) P (jp) (by omega);have tQ:=S2.out.st1 R (by omega) P (jp+1) (by omega) dk[jp]!;have po:=S2.out.st2 R (by omega) P (jp+1) (jp) (by omega) (by omega) dk[jp]! dk[jp+1]!;have Bt:(enc dk[jp+1]!).length=k:=R.hk _;have Bu:(enc dk[jp]!).length=k:=R.hk _;generalize enc dk[jp+1]! = cI2 at S3 pj po Bt;generalize enc dk[jp]! = cJ2 at S3 pk tQ po Bu;clear S2;go_wp2_with fail
      go_big_region_o
      clear pj pk tQ po;generalize (wq.drew.setCells blk (off+(jp+1)*k) cJ2).setCells blk (off+(jp)*k) cI2=wq2 at S3 ⊢;have kW:(swp dk (jp+1) jp).toList=(p++jK)++x :: y :: (T2++(mr++q)):=arr_adj' dk DW.out.2.2 (by simp;omega) (by simp;omega);have mj:=lhd kW;clear kW
      all_goals go_wp2
      go_roundg jp
      case measure=>omega
      case rel=>exact⟨jp,_,jK,y :: T2,by first | rfl | go_num | (congr 1;omega),by omega,by omega,nlr _,by rw[size_swp];exact pg,by simp at nm;omega,(show Hid _ from⟨by rw[mj.out];simp,HI.out.2.step dg⟩),S3⟩
     ·have az:¬ cf dk[jp+1]! dk[jp]! < 0:=by rw[DW.out.1,DW.out.2.1];exact fun h=>dg ((bY.out _ _).1 h)
      have Ma:((jp:Int)+1).toNat=jp+1:=by omega
      have Mb:(0:Int)<=(jp:Int)+1:=by omega
      have Mc:(jp:Int)+1 < (sz:Int):=by omega
      have Md:IntKind.i64.wrap ((jp:Int)+1)=(jp:Int)+1:=by rw[IntKind.wrap_i64];omega
      have Me:((jp:Int)).toNat=jp:=by omega
      have Mf:(0:Int)<=(jp:Int):=by omega
      have Mg:(jp:Int) < (sz:Int):=by omega
      have Mh:IntKind.i64.wrap ((jp:Int))=(jp:Int):=by rw[IntKind.wrap_i64];omega
      obtain⟨x3,tR⟩ : ∃ x,x=dk[jp+1]!:=⟨_,rfl⟩
      obtain⟨y3,tT⟩ : ∃ x,x=dk[jp]!:=⟨_,rfl⟩
      have tV:=S1.out.ld R (by omega) P (jp+1) (by omega);have tW:=S1.out.ld R (by omega) P (jp) (by omega);rw[<-tR] at tV;rw[<-tT] at tW;have wi:=S1.out.cmp HC.out (by omega) x3 y3;have hv3:¬ cf x3 y3 < 0:=by rw[tR,tT];exact az
      have eA:decide (cf x3 y3 < 0)=false:=decide_eq_false hv3;clear tR tT az;go_wp2_with fail
      go_quiet_grown (first | (go_at_fn g;refine Calls.grown_of (wi _ _)))
      have S2:Aside (SWK enc k w0 blk off dk (grow (wr.drewN nq) osq)):=S1.out.grown nq osq;clear tV tW wi S1;generalize grow (wr.drewN nq) osq=wq at S2 ⊢;clear nq osq;go_wp2;go_roundg (b - (i+1))
      case measure=>omega
      case rel =>
       obtain⟨h1,h2⟩:=Br.out (HI.out.2.stop (by omega));exact⟨i+1,dk,_,by go_num,by omega,by omega,by omega,pg,h2,h1,S2⟩
    ·have ph:¬ (a:Int) < (j:Int):=by omega
     have Bw:T1=[]:=gu (by omega);have By:=lhd Bw;clear Bw;have S2:Aside (SWK enc k w0 blk off iE wr.drew):=S1.out.drew;have QC:=S2;clear S1;go_wp2_with fail
     go_big_region_o
     all_goals go_wp2
     go_roundg (b - (i+1))
     case measure=>omega
     case rel =>
      obtain⟨h1,h2⟩:=Br.out (by rw[By.out];rw[By.out] at HI;exact HI.out.2.end);exact⟨i+1,iE,_,by go_num,by omega,by omega,by omega,pg,h2,h1,S2⟩
  ·have cF:¬ (i:Int) < (b:Int):=by omega
   have oX:T.length=m.length:=by omega
   have Bz:=lhd oX;clear oX;go_wp2
   go_end0
   refine⟨rfl,dk,T,?_,?_,HT.out.2.1,S1.out⟩
   ·rw[HT.out.1,Bz.out];simp
   ·have:=HT.out.2.2;rw[Bz.out] at this;simpa using this
end Go.Proofs.YtlhicnfeajejhaaGreatDoor
