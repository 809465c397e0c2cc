/- Steps towards SequenceChecks. Conditions: none. -/
import Derived.Test.YtmkpbhaoalbhjaaGreatDoorChecked
import Derived.Test.YtmkpbhaoalbhjaaGreatDoorXNa
set_option maxRecDepth 1000000
set_option maxHeartbeats 0
open Go.Value renaming slice→O,bool→τ,int→H,tuple→ψ
open Option renaming none→Z,some→Y
open Go.IntKind renaming i64→φ
open Go renaming World→δ,Value→ε
namespace Go.Proofs.YtmkpbhaoalbhjaaGreatDoor
open Go.RowKit Go.Cx Go.Shelf Go.Lib Go.Sort Go.Proofs
variable {P:Program}{k:Nat}{α:Type}[Inhabited α]
structure q33 (P:Program)(k:Nat):Prop where
 mixed:P.follows .mixedOrders=true
 aE:∀w,(isAgg 52).run P w=.ok true w
 zE:∀w,(Go.sizeOf 52).run P w=.ok k w
 tN:P.underlying 3=Y (TypeDesc.int φ)
 tNa:∀w,(isAgg 3).run P w=.ok false w
 tNz:∀w,(Go.sizeOf 3).run P w=.ok 1 w
 tNv:∀w,(zeroValue 3).run P w=.ok (H φ 0) w
 tB:P.underlying 4=Y (TypeDesc.bool)
 tBa:∀w,(isAgg 4).run P w=.ok false w
 tBz:∀w,(Go.sizeOf 4).run P w=.ok 1 w
 tBv:∀w,(zeroValue 4).run P w=.ok (τ false) w
 tS:P.underlying 34=Y (TypeDesc.slice 52)
 tSa:∀w,(isAgg 34).run P w=.ok false w
 tSz:∀w,(Go.sizeOf 34).run P w=.ok 1 w
 tSv:∀w,(zeroValue 34).run P w=.ok (O Z 0 0) w
 tU:P.underlying 136=Y (TypeDesc.int IntKind.u64)
 tUa:∀w,(isAgg 136).run P w=.ok false w
 tUz:∀w,(Go.sizeOf 136).run P w=.ok 1 w
 tUv:∀w,(zeroValue 136).run P w=.ok (H IntKind.u64 0) w
 t0:P.underlying 0=Y (TypeDesc.tuple #[])
 t0a:∀w,(isAgg 0).run P w=.ok false w
 t0z:∀w,(Go.sizeOf 0).run P w=.ok 1 w
 t0v:∀w,(zeroValue 0).run P w=.ok (ψ #[]) w
 f0:P.funcs[(169:Nat)]? =Y Tryz.f169
 c0:∀args w,(callFunc 169 args).run P w=.ok (.enter 169 args) w
 f1:P.funcs[(170:Nat)]? =Y Tryz.f170
 c1:∀args w,(callFunc 170 args).run P w=.ok (.enter 170 args) w
 f2:P.funcs[(178:Nat)]? =Y Tryz.f178
 c2:∀args w,(callFunc 178 args).run P w=.ok (.enter 178 args) w
 f3:P.funcs[(187:Nat)]? =Y Tryz.f187
 c3:∀args w,(callFunc 187 args).run P w=.ok (.enter 187 args) w
 f4:P.funcs[(157:Nat)]? =Y Tryz.f157
 c4:∀args w,(callFunc 157 args).run P w=.ok (.enter 157 args) w
theorem qp0:q33 Tryz.prog 3 where
 mixed:=by kernel_rfl
 aE:=Tryz.isAgg52
 zE:=Tryz.sizeOf52
 tN:=Tryz.underlying3
 tNa:=Tryz.isAgg3
 tNz:=Tryz.sizeOf3
 tNv:=Tryz.zeroValue3
 tB:=Tryz.underlying4
 tBa:=Tryz.isAgg4
 tBz:=Tryz.sizeOf4
 tBv:=Tryz.zeroValue4
 tS:=Tryz.underlying34
 tSa:=Tryz.isAgg34
 tSz:=Tryz.sizeOf34
 tSv:=Tryz.zeroValue34
 tU:=Tryz.underlying136
 tUa:=Tryz.isAgg136
 tUz:=Tryz.sizeOf136
 tUv:=Tryz.zeroValue136
 t0:=Tryz.underlying0
 t0a:=Tryz.isAgg0
 t0z:=Tryz.sizeOf0
 t0v:=Tryz.zeroValue0
 f0:=Tryz.func169
 c0:=Tryz.call169
 f1:=Tryz.func170
 c1:=Tryz.call170
 f2:=Tryz.func178
 c2:=Tryz.call178
 f3:=Tryz.func187
 c3:=Tryz.call187
 f4:=Tryz.func157
 c4:=Tryz.call157
theorem qdq (L:q33 P k)(enc:α->List ε)(cf:α->α->Int)(key:α->Int)(g:Nat)(cb:Array ε)(blk off cap sz:Nat)(d0:Array α)(w0:δ)(eg:∀args w,(callFunc g args).run P w=.ok (.enter g args) w)(fX:CmpLays P g cb enc k cf blk off d0.size w0)(av:∀x y,cf x y<0↔key x<key y)(R:RowK enc k w0 blk off d0)(hs:d0.size=sz)(hsz:sz<=1099511627776)(d:Array α)(w:δ)(S:SWK enc k w0 blk off d w)(a b:Nat)(p m q:List α)(hd:d.toList=p++(m++q))(hp:p.length=a)(hm:a+m.length=b)(hb:b<=sz)(uw:d.size=sz) :
  Calls P 169 #[O (Y ⟨blk,off,Z⟩) sz cap,a,b,.func (.func g) #[] cb] w fun e w' =>
   e=.returned (ψ #[])/\∃d' m',d'.toList=p++(m'++q)/\qs key m m'/\Srt key m'/\SWK enc k w0 blk off d' w':=by
 have mixed:=L.mixed;have aE:=L.aE;have zE:=L.zE;have uS:=run_underlying L.tS;have tN:=L.tN;have tNa:=L.tNa;have tNz:=L.tNz;have tNv:=L.tNv;have tB:=L.tB;have tBa:=L.tBa;have tBz:=L.tBz;have tBv:=L.tBv;have tS:=L.tS;have tSa:=L.tSa;have tSz:=L.tSz;have tSv:=L.tSv;have tU:=L.tU;have tUa:=L.tUa;have tUz:=L.tUz;have tUv:=L.tUv;have t0:=L.t0;have t0a:=L.t0a;have t0z:=L.t0z;have t0v:=L.t0v
 have HC:Aside _:=fX;have lz:Aside _:=av;have S0:Aside _:=S;have HD:=lhd hd;have HP:=lhd hp;clear fX S av hd hp;go_enter L.f0,Tryz.ntmps169;go_wp2;go_loopg [8] (b-a) (fun g1 vi wr=>∃(i:Nat) (dk:Array α) (T:List α),vi=i/\a<i/\i<=b+1/\b+1-i<=g1+1/\dk.size=sz/\T.length=min (i-a) m.length/\Hid (dk.toList=p++(T++(m.drop T.length++q))/\Srt key T/\qs key (m.take T.length) T)/\Aside (SWK enc k w0 blk off dk wr))
 case atStart =>
  have hT:(m.take 1).length=min (a+1-a) m.length:=by rw[gD];omega
  refine⟨a+1,d,m.take 1,by go_num,by omega,by omega,by omega,uw,hT,(lhd ⟨?_,?_,?_⟩),S0⟩
  ·rw[HD.out,gD,<-bj (m.take 1)];rcases m with _|⟨x,m⟩
   ·simp
   ·simp
  ·rcases m with _|⟨x,m⟩
   ·exact Srt.nil
   ·simp[Srt.one]
  ·rcases m with _|⟨x,m⟩
   ·exact qs.refl _
   ·simp;exact qs.refl _
 case round =>
  obtain⟨i,dk,T,rfl,jO,J6,fp,CF,hT,HT,S1⟩:=hrel;by_cases ak:i<b
  ·have nK:(i:Int)<(b:Int):=by omega
   have re:T.length=i-a:=by omega
   obtain⟨x,mr,fi⟩:∃x mr,m.drop T.length=x :: mr:=by
    cases hq:m.drop T.length with
    |nil=>have:=congrArg List.length hq;simp at this;omega
    |cons x mr=>exact⟨x,mr,rfl⟩
   have tC:=lhd fi;clear fi;go_wp2;go_loopg [9] i (fun g2 vj rB=>∃(j:Nat) (dj:Array α) (T1 T2:List α),vj=j/\a<=j/\j<=i/\j<=g2/\dj.size=sz/\T1.length=j-a/\Hid (dj.toList=p++(T1++x :: (T2++(mr++q)))/\Inn key T x T1 T2)/\Aside (SWK enc k w0 blk off dj rB))
   case atStart =>refine⟨i,dk,T,[],rfl,by omega,nlr _,nlr _,CF,re,(lhd ⟨?_,Inn.start x HT.a1⟩),S1⟩;rw[HT.out.1,tC.out];simp
   case round =>
    clear S1;obtain⟨j,l5,T1,T2,rfl,RA,aH,fY,zB,ux,HI,S1⟩:=hrel;have CS:Srt key (T1++x :: T2)->Hid (l5.toList=p++((T1++x :: T2)++(m.drop (T1++x :: T2).length++q))/\Srt key (T1++x :: T2)/\qs key (m.take (T1++x :: T2).length) (T1++x :: T2))/\(T1++x :: T2).length=min (i+1-a) m.length:=fun nG=>by
     have hl:(T1++x :: T2).length=T.length+1:=by rw[<-HI.out.2.stab.len];simp
     have nH:m.take (T.length+1)=m.take T.length++[x]:=by rw[gC,<-List.head?_drop,tC.out];rfl
     refine⟨(lhd ⟨?_,nG,?_⟩),by rw[hl];omega⟩
     ·rw[hl,<-List.drop_drop,tC.out,HI.out.1];simp
     ·rw[hl,nH];exact(qs.app HT.b2 (qs.refl [x])).trans HI.out.2.stab
    have CT:Aside _:=CS;clear CS;by_cases NF:a<j
    ·have J7:(a:Int)<(j:Int):=by omega
     obtain⟨jp,rfl⟩:∃jp,j=jp+1:=⟨j-1,by omega⟩
     obtain⟨mD,y,rfl⟩:∃mD y,T1=mD++[y]:=by
      have ah:T1≠[]:=fun e=>by rw[e]at ux;simp at ux;omega
      exact⟨T1.dropLast,T1.getLast ah,(List.dropLast_concat_getLast ah).symm⟩
     have J8:p.length+mD.length=jp:=by rw[HP.out];simp at ux;omega
     have rC:(a:Int)<(jp:Int)+1:=by omega
     have dX:l5[jp+1]! =x:=yo l5 (p:=p++(mD++[y])) (q:=T2++(mr++q)) (by rw[HI.out.1];simp) (by simp;omega);have dY:l5[jp]! =y:=yo l5 (p:=p++mD) (q:=x :: (T2++(mr++q))) (by rw[HI.out.1];simp) (by simp;omega);have wD:l5.toList=(p++mD)++y :: x :: (T2++(mr++q)):=by rw[HI.out.1];simp
     have DW:=yh dX dY wD;clear dX dY wD;obtain⟨dk,bN⟩:=x4 l5;subst bN;have fB:IntKind.i64.wrap (jp:Int)=(jp:Int):=by rw[IntKind.wrap_i64];omega
     by_cases oY:key x<key y
     ·have eF:cf dk[jp+1]! dk[jp]! < 0:=by rw[DW.out.1,DW.a1];exact(lz.out _ _).2 oY
      have RB:((jp:Int)+1).toNat=jp+1:=by omega
      have CU:(0:Int)<=(jp:Int)+1:=by omega
      have RC:(jp:Int)+1<(sz:Int):=by omega
      have GP:IntKind.i64.wrap ((jp:Int)+1)=(jp:Int)+1:=by rw[IntKind.wrap_i64];omega
      have RE:((jp:Int)).toNat=jp:=by omega
      have J9:(0:Int)<=(jp:Int):=by omega
      have RF:(jp:Int)<(sz:Int):=by omega
      have RG:IntKind.i64.wrap ((jp:Int))=(jp:Int):=by rw[IntKind.wrap_i64];omega
      obtain⟨x1,eZ⟩:=x4 (dk[jp+1]!);obtain⟨y1,fQ⟩:=x4 (dk[jp]!);have CV:=S1.out.ld R (by omega) P (jp+1) (by omega);have CW:=S1.out.ld R (by omega) P (jp) (by omega);rw[<-eZ]at CV;rw[<-fQ]at CW;have fx:=S1.out.cmp HC.out (by omega) x1 y1;have yH:cf x1 y1<0:=by rw[eZ,fQ];exact eF
      have eD:decide (cf x1 y1<0)=true:=decide_eq_true yH;clear eZ fQ eF;go_wp2_with fail
      go_quiet_grown (first|(go_at_fn g;refine Calls.grown_of (fx _ _)))
      have S2:Aside (SWK enc k w0 blk off dk (grow (wr.drewN nq) osq)):=S1.out.grown nq osq;clear CV CW fx S1;generalize grow (wr.drewN nq) osq=wq at S2 ⊢;clear nq osq;go_wp2_with fail;have RH:((jp:Int)+1).toNat=jp+1:=by omega
      have JA:(0:Int)<=(jp:Int)+1:=by omega
      have JB:(jp:Int)+1<(sz:Int):=by omega
      have GQ:IntKind.i64.wrap ((jp:Int)+1)=(jp:Int)+1:=by rw[IntKind.wrap_i64];omega
      have RI:((jp:Int)).toNat=jp:=by omega
      have CX:(0:Int)<=(jp:Int):=by omega
      have RJ:(jp:Int)<(sz:Int):=by omega
      have RK:IntKind.i64.wrap ((jp:Int))=(jp:Int):=by rw[IntKind.wrap_i64];omega
      have S3:Aside (SWK enc k w0 blk off (swp dk (jp+1) (jp)) ((wq.drew.setCells blk (off+(jp+1)*k) (enc dk[jp]!)).setCells blk (off+(jp)*k) (enc dk[jp+1]!))):=S2.out.swapped R (jp+1) (jp) (by omega) (by omega);have CY:=S2.out.ld1 R (by omega) P (jp+1) (by omega);have CZ:=S2.out.ld1 R (by omega) P (jp) (by omega);have Da:=S2.out.st1 R (by omega) P (jp+1) (by omega) dk[jp]!;have zC:=S2.out.st2 R (by omega) P (jp+1) (jp) (by omega) (by omega) dk[jp]! dk[jp+1]!;have JC:(enc dk[jp+1]!).length=k:=R.hk _;have JD:(enc dk[jp]!).length=k:=R.hk _;generalize enc dk[jp+1]! =cI2 at S3 CY zC JC;generalize enc dk[jp]! =cJ2 at S3 CZ Da zC JD;clear S2;go_wp2_with fail
      go_big_region_o
      clear CY CZ Da zC;generalize (wq.drew.setCells blk (off+(jp+1)*k) cJ2).setCells blk (off+(jp)*k) cI2=wq2 at S3 ⊢;have Be:(swp dk (jp+1) jp).toList=(p++mD)++x :: y :: (T2++(mr++q)):=arr_adj' dk DW.b2 (by simp;omega) (by simp;omega);have JE:=lhd Be;clear Be
      all_goals go_wp2
      go_roundg jp
      case measure=>omega
      case rel=>exact⟨jp,_,mD,y :: T2,by first|rfl|go_num|(congr 1;omega),by omega,by omega,nlr _,by rw[size_swp];exact zB,by simp at ux;omega,(lhd ⟨by rw[JE.out];simp,HI.out.2.step oY⟩),S3⟩
     ·have eF:¬cf dk[jp+1]! dk[jp]! < 0:=by rw[DW.out.1,DW.a1];exact fun h=>oY ((lz.out _ _).1 h)
      have RL:((jp:Int)+1).toNat=jp+1:=by omega
      have RM:(0:Int)<=(jp:Int)+1:=by omega
      have RN:(jp:Int)+1<(sz:Int):=by omega
      have RO:IntKind.i64.wrap ((jp:Int)+1)=(jp:Int)+1:=by rw[IntKind.wrap_i64];omega
      have RQ:((jp:Int)).toNat=jp:=by omega
      have JF:(0:Int)<=(jp:Int):=by omega
      have RT:(jp:Int)<(sz:Int):=by omega
      have RU:IntKind.i64.wrap ((jp:Int))=(jp:Int):=by rw[IntKind.wrap_i64];omega
      obtain⟨x3,zD⟩:=x4 (dk[jp+1]!);obtain⟨y3,qD⟩:=x4 (dk[jp]!);have Db:=S1.out.ld R (by omega) P (jp+1) (by omega);have Dc:=S1.out.ld R (by omega) P (jp) (by omega);rw[<-zD]at Db;rw[<-qD]at Dc;have uy:=S1.out.cmp HC.out (by omega) x3 y3;have Bl:¬cf x3 y3<0:=by rw[zD,qD];exact eF
      have nN:decide (cf x3 y3<0)=false:=decide_eq_false Bl;clear zD qD eF;go_wp2_with fail
      go_quiet_grown (first|(go_at_fn g;refine Calls.grown_of (uy _ _)))
      have S2:Aside (SWK enc k w0 blk off dk (grow (wr.drewN nq) osq)):=S1.out.grown nq osq;clear Db Dc uy S1;generalize grow (wr.drewN nq) osq=wq at S2 ⊢;clear nq osq;go_wp2;go_roundg (b-(i+1))
      case measure=>omega
      case rel =>obtain⟨h1,h2⟩:=CT.out (HI.out.2.stop (by omega));exact⟨i+1,dk,_,by go_num,by omega,by omega,by omega,zB,h2,h1,S2⟩
    ·have rC:¬(a:Int)<(j:Int):=by omega
     have Dd:T1=[]:=gl (by omega);have De:=lhd Dd;clear Dd;have S2:Aside (SWK enc k w0 blk off l5 wr.drew):=S1.out.drew;have RV:=S2;clear S1;go_wp2_with fail
     go_big_region_o
     all_goals go_wp2
     go_roundg (b-(i+1))
     case measure=>omega
     case rel =>obtain⟨h1,h2⟩:=CT.out (by rw[De.out];rw[De.out]at HI;exact HI.out.2.end);exact⟨i+1,l5,_,by go_num,by omega,by omega,by omega,zB,h2,h1,S2⟩
  ·have nK:¬(i:Int)<(b:Int):=by omega
   have re:T.length=m.length:=by omega
   have Df:=lhd re;clear re;go_wp2
   go_end0
   refine⟨rfl,dk,T,?_,?_,HT.a1,S1.out⟩
   ·rw[HT.out.1,Df.out];simp
   ·have:=HT.b2;rw[Df.out]at this;simpa using this
