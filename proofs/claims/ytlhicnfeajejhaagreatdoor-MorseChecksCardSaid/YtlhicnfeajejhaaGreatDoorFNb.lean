/- Steps towards MorseChecks. Conditions: none. -/
import Derived.Test.YtlhicnfeajejhaaGreatDoorChecked
import Derived.Test.YtlhicnfeajejhaaGreatDoorFNa
set_option maxRecDepth 1000000
set_option maxHeartbeats 16000000
namespace Go.Proofs.YtlhicnfeajejhaaGreatDoor
open Go.RowKit Go.Cx Go.Shelf Go.Lib Go.Sort Go.Proofs
variable {P:Program} {k:Nat} {α:Type} [Inhabited α]
structure q33 (P:Program) (k:Nat):Prop where
 mixed:P.follows .mixedOrders=true
 aE:∀ w,(isAgg 75).run P w = .ok true w
 zE:∀ w,(Go.sizeOf 75).run P w = .ok k w
 tN:P.underlying 3=some (TypeDesc.int IntKind.i64)
 tNa:∀ w,(isAgg 3).run P w = .ok false w
 tNz:∀ w,(Go.sizeOf 3).run P w = .ok 1 w
 tNv:∀ w,(zeroValue 3).run P w = .ok (Value.int IntKind.i64 0) w
 tB:P.underlying 4=some (TypeDesc.bool)
 tBa:∀ w,(isAgg 4).run P w = .ok false w
 tBz:∀ w,(Go.sizeOf 4).run P w = .ok 1 w
 tBv:∀ w,(zeroValue 4).run P w = .ok (Value.bool false) w
 tS:P.underlying 24=some (TypeDesc.slice 75)
 tSa:∀ w,(isAgg 24).run P w = .ok false w
 tSz:∀ w,(Go.sizeOf 24).run P w = .ok 1 w
 tSv:∀ w,(zeroValue 24).run P w = .ok (Value.slice none 0 0) w
 tU:P.underlying 168=some (TypeDesc.int IntKind.u64)
 tUa:∀ w,(isAgg 168).run P w = .ok false w
 tUz:∀ w,(Go.sizeOf 168).run P w = .ok 1 w
 tUv:∀ w,(zeroValue 168).run P w = .ok (Value.int IntKind.u64 0) w
 t0:P.underlying 0=some (TypeDesc.tuple #[])
 t0a:∀ w,(isAgg 0).run P w = .ok false w
 t0z:∀ w,(Go.sizeOf 0).run P w = .ok 1 w
 t0v:∀ w,(zeroValue 0).run P w = .ok (Value.tuple #[]) w
 f0:P.funcs[(245:Nat)]? = some Tryz.f245
 c0:∀ args w,(callFunc 245 args).run P w = .ok (.enter 245 args) w
 f1:P.funcs[(246:Nat)]? = some Tryz.f246
 c1:∀ args w,(callFunc 246 args).run P w = .ok (.enter 246 args) w
 f2:P.funcs[(256:Nat)]? = some Tryz.f256
 c2:∀ args w,(callFunc 256 args).run P w = .ok (.enter 256 args) w
 f3:P.funcs[(260:Nat)]? = some Tryz.f260
 c3:∀ args w,(callFunc 260 args).run P w = .ok (.enter 260 args) w
 f4:P.funcs[(230:Nat)]? = some Tryz.f230
 c4:∀ args w,(callFunc 230 args).run P w = .ok (.enter 230 args) w
theorem qp0:q33 Tryz.prog 3 where
 mixed:=by kernel_rfl
 aE:=Tryz.isAgg75
 zE:=Tryz.sizeOf75
 tN:=Tryz.underlying3
 tNa:=Tryz.isAgg3
 tNz:=Tryz.sizeOf3
 tNv:=Tryz.zeroValue3
 tB:=Tryz.underlying4
 tBa:=Tryz.isAgg4
 tBz:=Tryz.sizeOf4
 tBv:=Tryz.zeroValue4
 tS:=Tryz.underlying24
 tSa:=Tryz.isAgg24
 tSz:=Tryz.sizeOf24
 tSv:=Tryz.zeroValue24
 tU:=Tryz.underlying168
 tUa:=Tryz.isAgg168
 tUz:=Tryz.sizeOf168
 tUv:=Tryz.zeroValue168
 t0:=Tryz.underlying0
 t0a:=Tryz.isAgg0
 t0z:=Tryz.sizeOf0
 t0v:=Tryz.zeroValue0
 f0:=Tryz.func245
 c0:=Tryz.call245
 f1:=Tryz.func246
 c1:=Tryz.call246
 f2:=Tryz.func256
 c2:=Tryz.call256
 f3:=Tryz.func260
 c3:=Tryz.call260
 f4:=Tryz.func230
 c4:=Tryz.call230
theorem qdq (L:q33 P k) (enc:α->List Value) (cf:α->α->Int) (key:α->Int) (g:Nat) (cb:Array Value) (blk off cap sz:Nat) (d0:Array α) (w0:World) (eg:∀ args w,(callFunc g args).run P w = .ok (.enter g args) w) (aY:CmpLays P g cb enc k cf blk off d0.size w0) (aq:∀ x y,cf x y < 0↔key x < key y) (R:RowK enc k w0 blk off d0) (hs:d0.size=sz) (ao:sz<=1099511627776) (d:Array α) (w:World) (S:SWK enc k w0 blk off d w) (a b:Nat) (p m q:List α) (hd:d.toList=p++(m++q)) (hp:p.length=a) (hm:a+m.length=b) (hb:b<=sz) (et:d.size=sz) :
  Calls P 245 #[.slice (some ⟨blk,off,none⟩) sz cap,.int .i64 a,.int .i64 b,.func (.func g) #[] cb] w fun e w' =>
   e = .returned (.tuple #[])/\∃ d' m',d'.toList=p++(m'++q)/\qs key m m'/\Srt key m'/\SWK enc k w0 blk off d' w':=by
 have mixed:=L.mixed;have aE:=L.aE;have zE:=L.zE;have uS:=run_underlying L.tS;have tN:=L.tN;have tNa:=L.tNa;have tNz:=L.tNz;have tNv:=L.tNv;have tB:=L.tB;have tBa:=L.tBa;have tBz:=L.tBz;have tBv:=L.tBv;have tS:=L.tS;have tSa:=L.tSa;have tSz:=L.tSz;have tSv:=L.tSv;have tU:=L.tU;have tUa:=L.tUa;have tUz:=L.tUz;have tUv:=L.tUv;have t0:=L.t0;have t0a:=L.t0a;have t0z:=L.t0z;have t0v:=L.t0v
 have HC:Aside _:=aY;have bY:Aside _:=aq;have S0:Aside _:=S;have HD:=lhd hd;have HP:=lhd hp;clear aY S aq hd hp;go_enter L.f0,Tryz.ntmps245;go_wp2;go_loopg [8] (b - a) (fun g1 vi wr=>∃ (i:Nat) (dk:Array α) (T:List α),vi = .int .i64 i/\a < i/\i<=b+1/\b+1 - i<=g1+1/\dk.size=sz/\T.length=min (i - a) m.length/\Hid (dk.toList=p++(T++(m.drop T.length++q))/\Srt key T/\qs key (m.take T.length) T)/\Aside (SWK enc k w0 blk off dk wr))
 case atStart =>
  have hT:(m.take 1).length=min (a+1 - a) m.length:=by rw[gh];omega
  refine⟨a+1,d,m.take 1,by go_num,by omega,by omega,by omega,et,hT,(show Hid _ from⟨?_,?_,?_⟩),S0⟩
  ·rw[HD.out,gh,<-gz (m.take 1)];rcases m with _ | ⟨x,m⟩
   ·simp
   ·simp
  ·rcases m with _ | ⟨x,m⟩
   ·exact Srt.nil
   ·simp[Srt.one]
  ·rcases m with _ | ⟨x,m⟩
   ·exact qs.refl _
   ·simp;exact qs.refl _
 case round =>
  obtain⟨i,dk,T,rfl,Q8,Q9,cA,eu,hT,HT,S1⟩:=hrel;by_cases hlt:i < b
  ·have cF:(i:Int) < (b:Int):=by omega
   have oX:T.length=i - a:=by omega
   obtain⟨x,mr,eU⟩ : ∃ x mr,m.drop T.length=x :: mr:=by
    cases hq:m.drop T.length with
    | nil=>have:=congrArg List.length hq;simp at this;omega
    | cons x mr=>exact⟨x,mr,rfl⟩
   have me:=lhd eU;clear eU;go_wp2;go_loopg [9] i (fun g2 vj lv=>∃ (j:Nat) (dj:Array α) (T1 T2:List α),vj = .int .i64 j/\a<=j/\j<=i/\j<=g2/\dj.size=sz/\T1.length=j - a/\Hid (dj.toList=p++(T1++x :: (T2++(mr++q)))/\Inn key T x T1 T2)/\Aside (SWK enc k w0 blk off dj lv))
   case atStart =>
    refine⟨i,dk,T,[],rfl,by omega,nlr _,nlr _,eu,oX,(show Hid _ from⟨?_,Inn.start x HT.out.2.1⟩),S1⟩;rw[HT.out.1,me.out];simp
   case round =>
    clear S1;obtain⟨j,iE,T1,T2,rfl,QA,lu,dH,pg,nm,HI,S1⟩:=hrel;have Bq:Srt key (T1++x :: T2)->Hid (iE.toList=p++((T1++x :: T2)++(m.drop (T1++x :: T2).length++q))/\Srt key (T1++x :: T2)/\qs key (m.take (T1++x :: T2).length) (T1++x :: T2))/\(T1++x :: T2).length=min (i+1 - a) m.length:=fun zR=>by
     have hl:(T1++x :: T2).length=T.length+1:=by rw[<-HI.out.2.stab.len];simp
     have dw:m.take (T.length+1)=m.take T.length++[x]:=by
      rw[gq,<-List.head?_drop,me.out];rfl
     refine⟨(show Hid _ from⟨?_,zR,?_⟩),by rw[hl];omega⟩
     ·rw[hl,<-List.drop_drop,me.out,HI.out.1];simp
     ·rw[hl,dw];exact(qs.app HT.out.2.2 (qs.refl [x])).trans HI.out.2.stab
    have Br:Aside _:=Bq;clear Bq;by_cases QB:a < j
    ·have GB:(a:Int) < (j:Int):=by omega
     obtain⟨jp,rfl⟩ : ∃ jp,j=jp+1:=⟨j - 1,by omega⟩
     obtain⟨jK,y,rfl⟩ : ∃ jK y,T1=jK++[y]:=by
      have ak:T1≠[]:=fun e=>by rw[e] at nm;simp at nm;omega
      exact⟨T1.dropLast,T1.getLast ak,(List.dropLast_concat_getLast ak).symm⟩
     have GC:p.length+jK.length=jp:=by rw[HP.out];simp at nm;omega
     have ph:(a:Int) < (jp:Int)+1:=by omega
     have dX:iE[jp+1]! = x:=yo iE (p:=p++(jK++[y])) (q:=T2++(mr++q)) (by rw[HI.out.1];simp) (by simp;omega);have dY:iE[jp]! = y:=yo iE (p:=p++jK) (q:=x :: (T2++(mr++q))) (by rw[HI.out.1];simp) (by simp;omega);have wD:iE.toList=(p++jK)++y :: x :: (T2++(mr++q)):=by rw[HI.out.1];simp
     have DW:=lhd (aiq dX (aiq dY wD));clear dX dY wD;obtain⟨dk,kZ⟩ : ∃ dk,dk=iE:=⟨_,rfl⟩
     subst kZ;have rm:IntKind.i64.wrap (jp:Int)=(jp:Int):=by rw[IntKind.wrap_i64];omega
     by_cases dg:key x < key y
     ·have az:cf dk[jp+1]! dk[jp]! < 0:=by rw[DW.out.1,DW.out.2.1];exact(bY.out _ _).2 dg
      have LR:((jp:Int)+1).toNat=jp+1:=by omega
      have LS:(0:Int)<=(jp:Int)+1:=by omega
      have LU:(jp:Int)+1 < (sz:Int):=by omega
      have LV:IntKind.i64.wrap ((jp:Int)+1)=(jp:Int)+1:=by rw[IntKind.wrap_i64];omega
      have LW:((jp:Int)).toNat=jp:=by omega
      have LX:(0:Int)<=(jp:Int):=by omega
      have LY:(jp:Int) < (sz:Int):=by omega
      have LZ:IntKind.i64.wrap ((jp:Int))=(jp:Int):=by rw[IntKind.wrap_i64];omega
      obtain⟨x1,eM⟩ : ∃ x,x=dk[jp+1]!:=⟨_,rfl⟩
      obtain⟨y1,iC⟩ : ∃ x,x=dk[jp]!:=⟨_,rfl⟩
      have tO:=S1.out.ld R (by omega) P (jp+1) (by omega);have tP:=S1.out.ld R (by omega) P (jp) (by omega);rw[<-eM] at tO;rw[<-iC] at tP;have eI:=S1.out.cmp HC.out (by omega) x1 y1;have hv1:cf x1 y1 < 0:=by rw[eM,iC];exact az
      have bZ:decide (cf x1 y1 < 0)=true:=decide_eq_true hv1;clear eM iC az;go_wp2_with fail
      go_quiet_grown (first | (go_at_fn g;refine Calls.grown_of (eI _ _)))
      have S2:Aside (SWK enc k w0 blk off dk (grow (wr.drewN nq) osq)):=S1.out.grown nq osq;clear tO tP eI S1;generalize grow (wr.drewN nq) osq=wq at S2 ⊢;clear nq osq;go_wp2_with fail;have GD:((jp:Int)+1).toNat=jp+1:=by omega
      have GF:(0:Int)<=(jp:Int)+1:=by omega
      have GG:(jp:Int)+1 < (sz:Int):=by omega
      have GH:IntKind.i64.wrap ((jp:Int)+1)=(jp:Int)+1:=by rw[IntKind.wrap_i64];omega
      have GI:((jp:Int)).toNat=jp:=by omega
      have GJ:(0:Int)<=(jp:Int):=by omega
      have GK:(jp:Int) < (sz:Int):=by omega
      have GL:IntKind.i64.wrap ((jp:Int))=(jp:Int):=by rw[IntKind.wrap_i64];omega
      have S3:Aside (SWK enc k w0 blk off (swp dk (jp+1) (jp)) ((wq.drew.setCells blk (off+(jp+1)*k) (enc dk[jp]!)).setCells blk (off+(jp)*k) (enc dk[jp+1]!))):=S2.out.swapped R (jp+1) (jp) (by omega) (by omega);have pj:=S2.out.ld1 R (by omega) P (jp+1) (by omega);have pk:=S2.out.ld1 R (by omega) P (jp) (by omega);have tQ:=S2.out.st1 R (by omega) P (jp+1) (by omega) dk[jp]!;have po:=S2.out.st2 R (by omega) P (jp+1) (jp) (by omega) (by omega) dk[jp]! dk[jp+1]!;have Bt:(enc dk[jp+1]!).length=k:=R.hk _;have Bu:(enc dk[jp]!).length=k:=R.hk _;generalize enc dk[jp+1]! = cI2 at S3 pj po Bt;generalize enc dk[jp]! = cJ2 at S3 pk tQ po Bu;clear S2;go_wp2_with fail
      go_big_region_o
      clear pj pk tQ po;generalize (wq.drew.setCells blk (off+(jp+1)*k) cJ2).setCells blk (off+(jp)*k) cI2=wq2 at S3 ⊢;have kW:(swp dk (jp+1) jp).toList=(p++jK)++x :: y :: (T2++(mr++q)):=arr_adj' dk DW.out.2.2 (by simp;omega) (by simp;omega);have mj:=lhd kW;clear kW
      all_goals go_wp2
      go_roundg jp
      case measure=>omega
      case rel=>exact⟨jp,_,jK,y :: T2,by first | rfl | go_num | (congr 1;omega),by omega,by omega,nlr _,by rw[size_swp];exact pg,by simp at nm;omega,(show Hid _ from⟨by rw[mj.out];simp,HI.out.2.step dg⟩),S3⟩
     ·have az:¬ cf dk[jp+1]! dk[jp]! < 0:=by rw[DW.out.1,DW.out.2.1];exact fun h=>dg ((bY.out _ _).1 h)
      have Ma:((jp:Int)+1).toNat=jp+1:=by omega
      have Mb:(0:Int)<=(jp:Int)+1:=by omega
      have Mc:(jp:Int)+1 < (sz:Int):=by omega
      have Md:IntKind.i64.wrap ((jp:Int)+1)=(jp:Int)+1:=by rw[IntKind.wrap_i64];omega
      have Me:((jp:Int)).toNat=jp:=by omega
      have Mf:(0:Int)<=(jp:Int):=by omega
      have Mg:(jp:Int) < (sz:Int):=by omega
      have Mh:IntKind.i64.wrap ((jp:Int))=(jp:Int):=by rw[IntKind.wrap_i64];omega
      obtain⟨x3,tR⟩ : ∃ x,x=dk[jp+1]!:=⟨_,rfl⟩
      obtain⟨y3,tT⟩ : ∃ x,x=dk[jp]!:=⟨_,rfl⟩
      have tV:=S1.out.ld R (by omega) P (jp+1) (by omega);have tW:=S1.out.ld R (by omega) P (jp) (by omega);rw[<-tR] at tV;rw[<-tT] at tW;have wi:=S1.out.cmp HC.out (by omega) x3 y3;have hv3:¬ cf x3 y3 < 0:=by rw[tR,tT];exact az
      have eA:decide (cf x3 y3 < 0)=false:=decide_eq_false hv3;clear tR tT az;go_wp2_with fail
      go_quiet_grown (first | (go_at_fn g;refine Calls.grown_of (wi _ _)))
      have S2:Aside (SWK enc k w0 blk off dk (grow (wr.drewN nq) osq)):=S1.out.grown nq osq;clear tV tW wi S1;generalize grow (wr.drewN nq) osq=wq at S2 ⊢;clear nq osq;go_wp2;go_roundg (b - (i+1))
      case measure=>omega
      case rel =>
       obtain⟨h1,h2⟩:=Br.out (HI.out.2.stop (by omega));exact⟨i+1,dk,_,by go_num,by omega,by omega,by omega,pg,h2,h1,S2⟩
    ·have ph:¬ (a:Int) < (j:Int):=by omega
     have Bw:T1=[]:=gu (by omega);have By:=lhd Bw;clear Bw;have S2:Aside (SWK enc k w0 blk off iE wr.drew):=S1.out.drew;have QC:=S2;clear S1;go_wp2_with fail
     go_big_region_o
     all_goals go_wp2
     go_roundg (b - (i+1))
     case measure=>omega
     case rel =>
      obtain⟨h1,h2⟩:=Br.out (by rw[By.out];rw[By.out] at HI;exact HI.out.2.end);exact⟨i+1,iE,_,by go_num,by omega,by omega,by omega,pg,h2,h1,S2⟩
  ·have cF:¬ (i:Int) < (b:Int):=by omega
   have oX:T.length=m.length:=by omega
   have Bz:=lhd oX;clear oX;go_wp2
   go_end0
   refine⟨rfl,dk,T,?_,?_,HT.out.2.1,S1.out⟩
   ·rw[HT.out.1,Bz.out];simp
   ·have:=HT.out.2.2;rw[Bz.out] at this;simpa using this
theorem q8t (L:q33 P k) (enc:α->List Value) (g:Nat) (cb:Array Value) (blk off cap sz:Nat) (d0:Array α) (w0:World) (R:RowK enc k w0 blk off d0) (hs:d0.size=sz) (ao:sz<=1099511627776) (d:Array α) (w:World) (S:SWK enc k w0 blk off d w) (a b n:Nat) (p X M Y q:List α) (hd:d.toList=p++(X++(M++(Y++q)))) (hp:p.length=a) (hX:X.length=n) (hY:Y.length=n) (hb:a+n+M.length=b) (Vo:b+n<=sz) (et:d.size=sz) :
  Calls P 260 #[.slice (some ⟨blk,off,none⟩) sz cap,.int .i64 a,.int .i64 b,.int .i64 n,.func (.func g) #[] cb] w fun e w' =>
   e = .returned (.tuple #[])/\∃ d',d'.toList=p++(Y++(M++(X++q)))/\SWK enc k w0 blk off d' w':=by
 have mixed:=L.mixed;have aE:=L.aE;have zE:=L.zE;have uS:=run_underlying L.tS;have tN:=L.tN;have tNa:=L.tNa;have tNz:=L.tNz;have tNv:=L.tNv;have tB:=L.tB;have tBa:=L.tBa;have tBz:=L.tBz;have tBv:=L.tBv;have tS:=L.tS;have tSa:=L.tSa;have tSz:=L.tSz;have tSv:=L.tSv;have tU:=L.tU;have tUa:=L.tUa;have tUz:=L.tUz;have tUv:=L.tUv;have t0:=L.t0;have t0a:=L.t0a;have t0z:=L.t0z;have t0v:=L.t0v
 have S0:Aside _:=S;have HD:=lhd hd;have HX:=lhd hX;have HY:=lhd hY;have HP:=lhd hp;clear S hd hX hY hp;go_enter L.f3,Tryz.ntmps260;go_wp2;go_loopg [10] n (fun g1 vi wr=>∃ (i:Nat) (dk:Array α),vi = .int .i64 i/\i<=n/\n - i<=g1/\dk.size=sz/\Hid (dk.toList=q8q i p X M Y q)/\Aside (SWK enc k w0 blk off dk wr))
 case atStart=>exact⟨0,d,rfl,gp _,nlr _,et,(show Hid _ from by rw[HD.out,qf5];exact rfl),S0⟩
 case round =>
  clear S0;obtain⟨i,dk,rfl,hi,cA,eu,HT,S1⟩:=hrel;by_cases hlt:i < n
  ·have cF:(i:Int) < (n:Int):=by omega
   go_wp2_with fail;have GD:((a:Int)+(i:Int)).toNat=a+i:=by omega
   have GF:(0:Int)<=(a:Int)+(i:Int):=by omega
   have GG:(a:Int)+(i:Int) < (sz:Int):=by omega
   have GH:IntKind.i64.wrap ((a:Int)+(i:Int))=(a:Int)+(i:Int):=by rw[IntKind.wrap_i64];omega
   have GI:((b:Int)+(i:Int)).toNat=b+i:=by omega
   have GJ:(0:Int)<=(b:Int)+(i:Int):=by omega
   have GK:(b:Int)+(i:Int) < (sz:Int):=by omega
   have GL:IntKind.i64.wrap ((b:Int)+(i:Int))=(b:Int)+(i:Int):=by rw[IntKind.wrap_i64];omega
   have S3:Aside (SWK enc k w0 blk off (swp dk (a+i) (b+i)) ((wr.drew.setCells blk (off+(a+i)*k) (enc dk[b+i]!)).setCells blk (off+(b+i)*k) (enc dk[a+i]!))):=S1.out.swapped R (a+i) (b+i) (by omega) (by omega);have pj:=S1.out.ld1 R (by omega) P (a+i) (by omega);have pk:=S1.out.ld1 R (by omega) P (b+i) (by omega);have tQ:=S1.out.st1 R (by omega) P (a+i) (by omega) dk[b+i]!;have po:=S1.out.st2 R (by omega) P (a+i) (b+i) (by omega) (by omega) dk[b+i]! dk[a+i]!;have Bt:(enc dk[a+i]!).length=k:=R.hk _;have Bu:(enc dk[b+i]!).length=k:=R.hk _;generalize enc dk[a+i]! = cI2 at S3 pj po Bt;generalize enc dk[b+i]! = cJ2 at S3 pk tQ po Bu;clear S1;go_wp2_with fail
   go_big_region_o
   clear pj pk tQ po;generalize (wr.drew.setCells blk (off+(a+i)*k) cJ2).setCells blk (off+(b+i)*k) cI2=wq2 at S3 ⊢;have kW:(swp dk (a+i) (b+i)).toList=q8q (i+1) p X M Y q:=qf6 dk HX.out HY.out hlt HP.out (by rw[HP.out];exact hb) HT.out;have mj:=lhd kW;clear kW
   all_goals go_wp2
   go_roundg (n - (i+1))
   case measure=>omega
   case rel=>exact⟨i+1,_,by first | rfl | go_num | (congr 1;omega),by omega,nlr _,by rw[size_swp];exact eu,mj,S3⟩
  ·have cF:¬ (i:Int) < (n:Int):=by omega
   have dN:i=n:=by omega
   have BA:=lhd dN;clear dN;go_wp2
   go_end0
   refine⟨rfl,dk,?_,S1.out⟩;rw[HT.out,BA.out,qh7 p X M Y q HX.out HY.out]
theorem qdr (L:q33 P k) (enc:α->List Value) (g:Nat) (cb:Array Value) (blk off cap sz:Nat) (d0:Array α) (w0:World) (R:RowK enc k w0 blk off d0) (hs:d0.size=sz) (ao:sz<=1099511627776) (d:Array α) (w:World) (S:SWK enc k w0 blk off d w) (a m b:Nat) (p X Y q:List α) (hd:d.toList=p++(X++(Y++q))) (hp:p.length=a) (hX:a+X.length=m) (hY:m+Y.length=b) (QD:0 < X.length) (QE:0 < Y.length) (hb:b<=sz) (et:d.size=sz) :
  Calls P 256 #[.slice (some ⟨blk,off,none⟩) sz cap,.int .i64 a,.int .i64 m,.int .i64 b,.func (.func g) #[] cb] w fun e w' =>
   e = .returned (.tuple #[])/\∃ d',d'.toList=p++(Y++(X++q))/\SWK enc k w0 blk off d' w':=by
 have LL:Aside _:=L;have RR:Aside _:=R;have c3:=L.c3;have mixed:=L.mixed;have aE:=L.aE;have zE:=L.zE;have uS:=run_underlying L.tS;have tN:=L.tN;have tNa:=L.tNa;have tNz:=L.tNz;have tNv:=L.tNv;have tB:=L.tB;have tBa:=L.tBa;have tBz:=L.tBz;have tBv:=L.tBv;have tS:=L.tS;have tSa:=L.tSa;have tSz:=L.tSz;have tSv:=L.tSv;have tU:=L.tU;have tUa:=L.tUa;have tUz:=L.tUz;have tUv:=L.tUv;have t0:=L.t0;have t0a:=L.t0a;have t0z:=L.t0z;have t0v:=L.t0v
 have S0:Aside _:=S;have HD:=lhd hd;have HP:=lhd hp;clear S hd hp;go_enter L.f2,Tryz.ntmps256;clear L R;go_wp2;go_loopg [10,11] (X.length+Y.length) (fun g1 vi vj wr=>∃ (i j:Nat) (dk:Array α) (p' X' Y' q':List α),vi = .int .i64 i/\vj = .int .i64 j/\0 < i/\0 < j/\i<=m/\m+j<=sz/\i+j<=g1/\X'.length=i/\Y'.length=j/\p'.length+i=m/\dk.size=sz/\Hid (dk.toList=p'++(X'++(Y'++q'))/\p'++(Y'++(X'++q'))=p++(Y++(X++q)))/\Aside (SWK enc k w0 blk off dk wr))
 case atStart=>exact⟨X.length,Y.length,d,p,X,Y,q,by congr 1;omega,by congr 1;omega,QD,QE,by omega,by omega,nlr _,rfl,rfl,by rw[HP.out];exact hX,et,(show Hid _ from⟨HD.out,rfl⟩),S0⟩
 case round =>
  clear S0;obtain⟨i,j,dk,p',X',Y',q',rfl,rfl,hi0,hj0,QF,GM,cA,AY,Mi,cD,eu,HT,S1⟩:=hrel;have tZ:=lhd AY;clear AY;have sq:=lhd Mi;clear Mi;have BB:=lhd cD;clear cD;have c1:IntKind.i64.wrap ((m:Int) - (i:Int))=((m - i:Nat):Int):=by rw[IntKind.wrap_i64];omega
  have c4:IntKind.i64.wrap ((m:Int)+(j:Int) - (i:Int))=(m:Int)+(j:Int) - (i:Int):=by rw[IntKind.wrap_i64];omega
  have C1:Aside _:=c1;clear c1 c4;by_cases dS:i=j
  ·subst dS;go_wp2_with fail;have ea:(m:Int) - (i:Int)=((m - i:Nat):Int):=by omega
   try rw[ea]
   refine(q8t LL.out enc g cb blk off cap sz d0 w0 RR.out hs ao dk wr S1.out (m - i) m i p' X' [] Y' q' (by simpa using HT.out.1) (by have:=BB.out;omega) tZ.out sq.out (by simp;omega) GM eu).mono ?_;rintro e w2 ⟨rfl,d2,bQ,S2⟩;have eC:=lhd bQ;clear bQ;have S2:Aside _:=S2;go_wp2
   go_end0
   refine⟨rfl,d2,?_,S2.out⟩;rw[eC.out,<-HT.out.2];simp
  ·by_cases Vp:j < i
   ·have GN:(j:Int) < (i:Int):=by omega
    have GO:¬ (i:Int)=(j:Int):=by omega
    go_wp2_with fail;have ea:(m:Int) - (i:Int)=((m - i:Nat):Int):=by omega
    try rw[ea]
    refine(q8t LL.out enc g cb blk off cap sz d0 w0 RR.out hs ao dk wr S1.out (m - i) m j p' (X'.take j) (X'.drop j) Y' q' (by rw[HT.out.1,<-gz (List.take j X'),gr]) (by have:=BB.out;omega) (by rw[gh,tZ.out];omega) sq.out (by rw[gC,tZ.out];omega) GM eu).mono ?_;rintro e w2 ⟨rfl,d2,bQ,S2⟩;have eC:=lhd bQ;clear bQ;have S2:Aside _:=S2;go_wp2;go_roundg i
    case measure=>omega
    case rel =>
     refine⟨i - j,j,d2,p'++Y',X'.drop j,X'.take j,q',by first | (congr 1;omega),rfl,by omega,hj0,by omega,GM,by omega,by rw[gC,tZ.out],by rw[gh,tZ.out];omega,by rw[gl,sq.out];have:=BB.out;omega,?_,(show Hid _ from⟨?_,?_⟩),S2⟩
     ·have:=congrArg List.length eC.out;have h2:=congrArg List.length HT.out.1;simp at this h2;have:=tZ.out;have:=sq.out;omega
     ·rw[eC.out];simp
     ·rw[<-HT.out.2];simp only [List.append_assoc];rw[<-gz (List.take j X'),gr]
   ·have GN:¬ (j:Int) < (i:Int):=by omega
    have GO:¬ (i:Int)=(j:Int):=by omega
    go_wp2_with fail;have ea:(m:Int) - (i:Int)=((m - i:Nat):Int):=by omega
    have eb:(m:Int)+(j:Int) - (i:Int)=((m+j - i:Nat):Int):=by omega
    try rw[ea]
    try rw[eb]
    refine(q8t LL.out enc g cb blk off cap sz d0 w0 RR.out hs ao dk wr S1.out (m - i) (m+j - i) i p' X' (Y'.take (j - i)) (Y'.drop (j - i)) q' (by rw[HT.out.1];rw[<-gz (List.take _ Y'),gr]) (by have:=BB.out;omega) tZ.out (by rw[gC,sq.out];omega) (by rw[gh,sq.out];omega) (by omega) eu).mono ?_;rintro e w2 ⟨rfl,d2,bQ,S2⟩;have eC:=lhd bQ;clear bQ;have S2:Aside _:=S2;go_wp2;go_roundg j
    case measure=>omega
    case rel =>
     refine⟨i,j - i,d2,p',Y'.drop (j - i),Y'.take (j - i),X'++q',rfl,by first | (congr 1;omega),hi0,by omega,QF,by omega,by omega,by rw[gC,sq.out];omega,by rw[gh,sq.out];omega,BB.out,?_,(show Hid _ from⟨?_,?_⟩),S2⟩
     ·have:=congrArg List.length eC.out;have h2:=congrArg List.length HT.out.1;simp at this h2;have:=tZ.out;have:=sq.out;omega
     ·rw[eC.out]
     ·rw[<-HT.out.2];rw[<-gz (List.take _ Y'),gr]
end Go.Proofs.YtlhicnfeajejhaaGreatDoor
