/- Steps towards MorseChecks. Conditions: none. -/
import Derived.Test.YtlhicnfeajejhaaGreatDoorFMg
import Derived.Test.YtlhicnfeajejhaaGreatDoorFNc
import Derived.Test.YtlhicnfeajejhaaGreatDoorFNd
import Derived.Test.YtlhicnfeajejhaaGreatDoorFNe
set_option maxRecDepth 1000000
set_option maxHeartbeats 16000000
namespace Go.Proofs.YtlhicnfeajejhaaGreatDoor
open Go.RowKit Go.Cx Go.Shelf Go.Lib Go.Sort Go.Proofs
variable {P:Program} {k:Nat} {α:Type} [Inhabited α]
theorem qds (L:q33 P k) (enc:α->List Value) (cf:α->α->Int) (key:α->Int) (g:Nat) (cb:Array Value) (blk off cap sz:Nat) (d0:Array α) (w0:World) (eg:∀ args w,(callFunc g args).run P w = .ok (.enter g args) w) (aY:CmpLays P g cb enc k cf blk off d0.size w0) (aq:∀ x y,cf x y < 0↔key x < key y) (R:RowK enc k w0 blk off d0) (hs:d0.size=sz) (ao:sz<=1099511627776) (nn:Nat):∀ (a m b:Nat) (d:Array α) (w:World) (p A B q:List α),b - a<=nn->SWK enc k w0 blk off d w->d.toList=p++(A++(B++q))->p.length=a->a+A.length=m->m+B.length=b->0 < A.length->0 < B.length->Srt key A->Srt key B->b<=sz->d.size=sz →
  Calls P 246 #[.slice (some ⟨blk,off,none⟩) sz cap,.int .i64 a,.int .i64 m,.int .i64 b,.func (.func g) #[] cb] w fun e w' =>
   e = .returned (.tuple #[])/\∃ d' M,d'.toList=p++(M++q)/\Srt key M/\qs key (A++B) M/\SWK enc k w0 blk off d' w':=by
 induction nn with
 | zero=>intro a m b d w p A B q h1 h2 h3 h4 h5 h6 h7 h8;omega
 | succ nn ih =>
  intro a m b d w p A B q jM S hd hp hm hb fi aV hA hB kG et;by_cases eh:m - a=1
  ·exact qh9 L enc cf key g cb blk off cap sz d0 w0 eg aY aq R hs ao a m b d w p A B q S hd hp hm hb hA hB kG et eh aV
  ·by_cases np:b - m=1
   ·exact qha L enc cf key g cb blk off cap sz d0 w0 eg aY aq R hs ao a m b d w p A B q S hd hp hm hb hA hB kG et eh np
   ·by_cases fY:(a+b) / 2 < m
    ·exact qhb L enc cf key g cb blk off cap sz d0 w0 eg aY aq R hs ao a m b d w p A B q S hd hp hm hb hA hB kG et nn jM fi aV eh np ih _ rfl fY
    ·exact qhc L enc cf key g cb blk off cap sz d0 w0 eg aY aq R hs ao a m b d w p A B q S hd hp hm hb hA hB kG et nn jM fi aV eh np ih _ rfl fY
theorem qkf (L:q33 P k) (enc:α->List Value) (cf:α->α->Int) (key:α->Int) (g:Nat) (cb:Array Value) (blk off cap sz:Nat) (d0:Array α) (w0:World) (eg:∀ args w,(callFunc g args).run P w = .ok (.enter g args) w) (aY:CmpLays P g cb enc k cf blk off d0.size w0) (aq:∀ x y,cf x y < 0↔key x < key y) (R:RowK enc k w0 blk off d0) (hs:d0.size=sz) (ao:sz<=1099511627776) (d:Array α) (w:World) (S:SWK enc k w0 blk off d w) (et:d.size=sz) :
  Calls P 230 #[.slice (some ⟨blk,off,none⟩) sz cap,.int .i64 sz,.func (.func g) #[] cb] w fun e w' =>
   e = .returned (.tuple #[])/\∃ d':Array α,qs key d.toList d'.toList/\Srt key d'.toList/\SWK enc k w0 blk off d' w':=by
 have LL:Aside _:=L;have RR:Aside _:=R;have HC:Aside _:=aY;have bY:Aside _:=aq;have EG:Aside _:=eg;have cI:=L.c0;have cM:=L.c1;have mixed:=L.mixed;have aE:=L.aE;have zE:=L.zE;have uS:=run_underlying L.tS;have tN:=L.tN;have tNa:=L.tNa;have tNz:=L.tNz;have tNv:=L.tNv;have tB:=L.tB;have tBa:=L.tBa;have tBz:=L.tBz;have tBv:=L.tBv;have tS:=L.tS;have tSa:=L.tSa;have tSz:=L.tSz;have tSv:=L.tSv;have tU:=L.tU;have tUa:=L.tUa;have tUz:=L.tUz;have tUv:=L.tUv;have t0:=L.t0;have t0a:=L.t0a;have t0z:=L.t0z;have t0v:=L.t0v
 have S1:Aside _:=S;obtain⟨l,hl⟩ : ∃ l,l=d.toList:=⟨_,rfl⟩
 have bH:l.length=sz:=by rw[hl,bi];exact et
 have HL:=lhd hl;clear hl;have fp:=lhd bH;clear aY aq S;go_enter L.f4,Tryz.ntmps230;clear L R;go_wp2;go_loopg [7,8] sz (fun g1 va vb wr=>∃ (kk a:Nat) (dk:Array α) (Q:List α),va = .int .i64 a/\vb = .int .i64 ((a:Int)+20)/\a<=sz/\sz - a<=g1/\dk.size=sz/\Q.length=a/\Hid (a=kk*20/\dk.toList=Q++l.drop a/\q1o key 20 Q/\qs key (l.take a) Q)/\Aside (SWK enc k w0 blk off dk wr))
 case atStart=>exact⟨0,0,d,[],rfl,rfl,gp _,nlr _,et,rfl,(show Hid _ from⟨by simp,by simp[HL.out],q1o.nil 20,qs.refl _⟩),S1⟩
 case round =>
  clear S1;obtain⟨kk,a,dk,Q,rfl,rfl,ha,cA,eu,hQ,HI,S1⟩:=hrel;by_cases hlt:a+20<=sz
  ·have cF:(a:Int)+20<=(sz:Int):=by omega
   have Mu:(a:Int)+20=((a+20:Nat):Int):=by omega
   have Rf:=lhd Mu;clear Mu;go_wp2_with fail
   try rw[Rf.out]
   refine(qdq LL.out enc cf key g cb blk off cap sz d0 w0 eg HC.out bY.out RR.out hs ao dk wr S1.out a (a+20) Q ((l.drop a).take 20) (l.drop (a+20)) (by rw[HI.out.2.1,<-List.drop_drop,gr]) hQ (by rw[gh,gC];omega) hlt eu).mono ?_;rintro e w2 ⟨rfl,d2,m2,bQ,dy,ir,S2⟩;have eC:=lhd (aiq bQ (aiq dy ir));have pt:m2.length=20:=by rw[<-dy.len,gh,gC];omega
   have dh:d2.size=sz:=by
    have:=congrArg List.length bQ;simp at this;omega
   clear bQ dy ir;have S2:Aside _:=S2;clear S1;go_wp2;go_roundg (sz - (a+20))
   case measure=>omega
   case rel =>
    refine⟨kk+1,a+20,d2,Q++m2,by first | rfl | go_num,by first | rfl | go_num | (congr 1;omega),hlt,by omega,dh,by rw[gl];omega,(show Hid _ from⟨by have:=HI.out.1;omega,by rw[eC.out.1];simp,HI.out.2.2.1.app (by rw[hQ];exact HI.out.1) eC.out.2.2,?_⟩),S2⟩;rw[List.take_add];exact qs.app HI.out.2.2.2 eC.out.2.1
  ·have cF:¬ (a:Int)+20<=(sz:Int):=by omega
   go_wp2_with fail;refine(qdq LL.out enc cf key g cb blk off cap sz d0 w0 eg HC.out bY.out RR.out hs ao dk wr S1.out a sz Q (l.drop a) [] (by rw[HI.out.2.1,gQ]) hQ (by rw[gC];omega) (nlr _) eu).mono ?_;rintro e w2 ⟨rfl,d2,m2,bQ,dy,ir,S2⟩;have dh:d2.size=sz:=by
    have:=congrArg List.length bQ;have h3:=dy.len;simp at this h3;omega
   have hB:q1o key 20 d2.toList/\qs key l d2.toList:=by
    rw[bQ,gQ];refine⟨HI.out.2.2.1.app (by rw[hQ];exact HI.out.1) ir,?_⟩;have:=qs.app HI.out.2.2.2 dy
    rwa [gr] at this
   have HB:=lhd hB;clear bQ dy ir HI hB S1;have S1:Aside _:=S2;clear S2;go_wp2;go_loopg [6,7,8,9] (sz+40) (fun g2 v6 v7 v8 v9 lv=>∃ (bs:Nat) (dk:Array α),v6 = .int .i64 bs/\0 < bs/\bs<=2*sz+40/\sz+40 - bs<=g2/\dk.size=sz/\Hid (q1o key bs dk.toList/\qs key l dk.toList)/\Aside (SWK enc k w0 blk off dk lv))
   case atStart=>exact⟨20,d2,rfl,by omega,by omega,by omega,dh,HB,S1⟩
   case round =>
    clear S1 HB;obtain⟨bs,dk,rfl,ca,ai,dH,eu,HI,S1⟩:=hrel;by_cases hlt:bs < sz
    ·have cF:(bs:Int) < (sz:Int):=by omega
     obtain⟨M,hM⟩ : ∃ M,M=dk.toList:=⟨_,rfl⟩
     have px:M.length=sz:=by rw[hM,bi];exact eu
     have EA:Hid (q1o key bs M/\qs key l M):=by rw[hM];exact HI
     have HM:=lhd hM;clear hM HI;go_wp2;go_loopg [7,8] sz (fun g3 va vb Rg=>∃ (kk a:Nat) (dj:Array α) (Q:List α),va = .int .i64 a/\vb = .int .i64 ((a:Int)+2*(bs:Int))/\a<=sz/\sz - a<=g3/\dj.size=sz/\Q.length=a/\Hid (a=kk*(2*bs)/\dj.toList=Q++M.drop a/\q1o key (2*bs) Q/\qs key (M.take a) Q)/\Aside (SWK enc k w0 blk off dj Rg))
     case atStart=>exact⟨0,0,dk,[],rfl,by first | rfl | go_num | (congr 1;omega),gp _,nlr _,eu,rfl,(show Hid _ from⟨by simp,by simp[HM.out],q1o.nil _,qs.refl _⟩),S1⟩
     case round =>
      clear S1;obtain⟨kk,a,dj,Q,rfl,rfl,ha,eJ,pg,hQ,HJ,S1⟩:=hrel;have hA:Srt key ((M.drop a).take bs):=by
       have:=EA.out.1 (2*kk)
       rwa [show 2*kk*bs=a by rw[HJ.out.1,Nat.mul_comm 2 kk,Nat.mul_assoc]] at this
      have dI:Srt key ((M.drop (a+bs)).take bs):=by
       have:=EA.out.1 (2*kk+1)
       rwa [show (2*kk+1)*bs=a+bs by rw[HJ.out.1,Nat.add_mul,Nat.one_mul,Nat.mul_comm 2 kk,Nat.mul_assoc]] at this
      have ue:=lhd (aiq hA dI);clear hA dI;by_cases hle:a+2*bs<=sz
      ·have Hk:(a:Int)+2*(bs:Int)<=(sz:Int):=by omega
       have e1:(a:Int)+2*(bs:Int)=((a+2*bs:Nat):Int):=by omega
       have e2:(a:Int)+(bs:Int)=((a+bs:Nat):Int):=by omega
       have EB:=lhd (aiq e1 e2);clear e1 e2;go_wp2_with fail
       try rw[EB.out.1]
       try rw[EB.out.2]
       refine(qds LL.out enc cf key g cb blk off cap sz d0 w0 eg HC.out bY.out RR.out hs ao (2*bs) a (a+bs) (a+2*bs) dj wr Q ((M.drop a).take bs) ((M.drop (a+bs)).take bs) (M.drop (a+2*bs)) (by omega) S1.out ?h1 hQ (by rw[gh,gC];omega) (by rw[gh,gC];omega) (by rw[gh,gC];omega) (by rw[gh,gC];omega) ue.out.1 ue.out.2 hle pg).mono ?_
       case h1 =>
        have e3:(M.drop (a+bs)).take bs++M.drop (a+2*bs)=M.drop (a+bs):=by
         rw[show a+2*bs=(a+bs)+bs by omega,show M.drop (a+bs+bs)=(M.drop (a+bs)).drop bs by rw[List.drop_drop],gr]
        have e4:(M.drop a).take bs++M.drop (a+bs)=M.drop a:=by rw[<-List.drop_drop,gr]
        rw[HJ.out.2.1,e3,e4]
       rintro e w3 ⟨rfl,d3,m3,eA,sw,iW,S3⟩;have nt:=lhd (aiq eA (aiq iW sw));have wI:m3.length=2*bs:=by rw[<-iW.len,gl,gh,gC,gh,gC];omega
       have fT:d3.size=sz:=by
        have:=congrArg List.length eA;simp at this;omega
       clear eA iW sw;have S3:Aside _:=S3;clear S1;go_wp2;go_roundg (sz - (a+2*bs))
       case measure=>omega
       case rel =>
        refine⟨kk+1,a+2*bs,d3,Q++m3,by first | rfl | go_num | (congr 1;omega),by first | rfl | go_num | (congr 1;omega),hle,by omega,fT,by rw[gl];omega,(show Hid _ from⟨by rw[HJ.out.1,Nat.add_mul];omega,by rw[nt.out.1];simp,HJ.out.2.2.1.app (by rw[hQ];exact HJ.out.1) nt.out.2.2,?_⟩),S3⟩;have:=qs.app HJ.out.2.2.2 nt.out.2.1
        rwa [<-gz,<-List.take_add,<-List.take_add,show a+bs+bs=a+2*bs by omega] at this
      ·have Hk:¬ (a:Int)+2*(bs:Int)<=(sz:Int):=by omega
       by_cases BP:a+bs < sz
       ·have Hr:(a:Int)+(bs:Int) < (sz:Int):=by omega
        have e2:(a:Int)+(bs:Int)=((a+bs:Nat):Int):=by omega
        have EB:=lhd e2;clear e2;go_wp2_with fail
        try rw[EB.out]
        refine(qds LL.out enc cf key g cb blk off cap sz d0 w0 eg HC.out bY.out RR.out hs ao sz a (a+bs) sz dj wr Q ((M.drop a).take bs) (M.drop (a+bs)) [] (by omega) S1.out ?h2 hQ (by rw[gh,gC];omega) (by rw[gC];omega) (by rw[gh,gC];omega) (by rw[gC];omega) ue.out.1 ?h3 (nlr _) pg).mono ?_
        case h2=>rw[HJ.out.2.1,gQ,<-List.drop_drop,gr]
        case h3=>have:=ue.out.2;rwa [ge (by rw[gC];omega)] at this
        rintro e w3 ⟨rfl,d3,m3,eA,sw,iW,S3⟩;have hq:q1o key (2*bs) d3.toList/\qs key l d3.toList:=by
         rw[eA,gQ];refine⟨HJ.out.2.2.1.app (by rw[hQ];exact HJ.out.1) sw,EA.out.2.trans ?_⟩;have:=qs.app HJ.out.2.2.2 iW
         rwa [<-List.drop_drop,gr,gr] at this
        have HQ:=lhd hq;have fT:d3.size=sz:=by
         have:=hq.2.len;rw[fp.out,bi] at this;exact this.symm
        clear eA iW sw hq;have S3:Aside _:=S3;clear S1;go_wp2;go_roundg (sz+40 - 2*bs)
        case measure=>omega
        case rel=>exact⟨2*bs,d3,by first | rfl | go_num | (congr 1;omega),by omega,by omega,nlr _,fT,HQ,S3⟩
       ·have Hr:¬ (a:Int)+(bs:Int) < (sz:Int):=by omega
        have hq:q1o key (2*bs) dj.toList/\qs key l dj.toList:=by
         rw[HJ.out.2.1];have h3:=ue.out.1;rw[ge (by rw[gC];omega)] at h3;refine⟨HJ.out.2.2.1.app (by rw[hQ];exact HJ.out.1) h3,EA.out.2.trans ?_⟩;have:=qs.app HJ.out.2.2.2 (qs.refl (M.drop a))
         rwa [gr] at this
        have HQ:=lhd hq;clear hq;go_wp2;go_roundg (sz+40 - 2*bs)
        case measure=>omega
        case rel=>exact⟨2*bs,dj,by first | rfl | go_num | (congr 1;omega),by omega,by omega,nlr _,pg,HQ,S1⟩
    ·have cF:¬ (bs:Int) < (sz:Int):=by omega
     go_wp2
     go_end0
     exact⟨rfl,dk,by rw[<-HL.out];exact HI.out.2,HI.out.1.all (by rw[bi];omega),S1.out⟩
end Go.Proofs.YtlhicnfeajejhaaGreatDoor
namespace Go.Proofs.YtlhicnfeajejhaaGreatDoor
open Go.RowKit Go.Cx Go.Sort Go.Proofs
def q3u (x y:Int):Int:=if x < y then -1 else if y < x then 1 else 0
theorem qaa (x y:Int):q3u x y < 0↔x < y:=by
 unfold q3u;split
 ·simp;assumption
 ·split <;> simp <;> omega
theorem qbz (W:World) (os:Array Obj) (n:Nat):(grow W os).drewN n=grow (W.drewN n) os:=rfl
theorem q7o (W:World) (o1 o2:Obj) (n:Nat) (os:Array Obj):grow (((W.alloc o1).alloc o2).drewN n) os=grow (W.drewN n) (#[o1,o2]++os):=by
 rw[alloc_eq_grow,alloc_eq_grow,grow_grow,qbz,grow_grow];rfl
theorem qhd (x:Int) (w:World):Calls Tryz.prog 231 #[.int .i64 x] w fun e w'=>e = .returned (.bool false)/\w'=w:=by
 go_enter Tryz.func231,Tryz.ntmps231;go_wp2;go_ret;exact⟨rfl,rfl⟩
theorem q64 (x y:Int) (w:World):Calls Tryz.prog 201 #[.int .i64 x,.int .i64 y] w fun e w'=>e = .returned (.int .i64 (q3u x y))/\∃ q pz,w'=grow (w.drewN q) pz:=by
 have fin:∀ v,v=q3u x y->(Ending.returned (.int .i64 v)=Ending.returned (.int .i64 (q3u x y))/\∃ q pz,w=grow (w.drewN q) pz):=fun v hv=>⟨by rw[hv],0,#[],by rw[grow_empty];rfl⟩
 have aP:=lhd fin;clear fin;go_enter Tryz.func201,Tryz.ntmps201;go_wp2_with fail;refine(qhd x _).mono ?_;rintro e w1 ⟨rfl,rfl⟩;go_wp2_with fail;refine(qhd y _).mono ?_;rintro e w1 ⟨rfl,rfl⟩;by_cases h1:x < y
 ·go_wp2;go_ret;exact aP.out _ (by unfold q3u;rw[if_pos (by omega)])
 ·by_cases h2:y < x
  ·go_wp2;go_ret;exact aP.out _ (by unfold q3u;rw[if_neg (by omega),if_pos (by omega)])
  ·go_wp2;go_ret;exact aP.out _ (by unfold q3u;rw[if_neg (by omega),if_neg (by omega)])
theorem qdt (x:Ce) (w:World):Calls Tryz.prog 182 #[.agg #[.int .i64 x.id,.int .i64 x.dim,.slice x.a x.n x.c]] w fun e w'=>e = .returned (.int .i64 x.id)/\∃ q pz,w'=grow (w.drewN q) pz:=by
 go_enter Tryz.func182,Tryz.ntmps182;go_wp2;go_ret;exact⟨rfl,0,_,alloc_eq_grow _ _⟩
theorem qkg (x y:Ce) (bk:Nat) (w:World) (hb:bk < w.heap.size) (hc:w.cell? ⟨bk,0,none⟩=some (.func (.func 182) #[] #[])) :
  Calls Tryz.prog 200 #[.agg #[.int .i64 x.id,.int .i64 x.dim,.slice x.a x.n x.c],.agg #[.int .i64 y.id,.int .i64 y.dim,.slice y.a y.n y.c],.pointer (some ⟨bk,0,none⟩)] w fun e w'=>e = .returned (.int .i64 (q3u x.id y.id))/\∃ q pz,w'=grow (w.drewN q) pz:=by
 have mixed:Tryz.prog.follows .mixedOrders=true:=by kernel_rfl
 go_enter Tryz.func200,Tryz.ntmps200;go_wp2_with fail;have cb:∀ n os,(grow (((w.alloc (.cells #[.int .i64 x.id,.int .i64 x.dim,.slice x.a x.n x.c] 75)).alloc (.cells #[.int .i64 y.id,.int .i64 y.dim,.slice y.a y.n y.c] 75)).drewN n) os).cell? ⟨bk,0,none⟩=some (.func (.func 182) #[] #[]):=fun n os=>cell_grown (by simp;omega) (qk (qk hc _) _) n os
 have Hs:∀ n os,(grow (((w.alloc (.cells #[.int .i64 x.id,.int .i64 x.dim,.slice x.a x.n x.c] 75)).alloc (.cells #[.int .i64 y.id,.int .i64 y.dim,.slice y.a y.n y.c] 75)).drewN n) os).cell? ⟨w.heap.size,0,none⟩=some (.int .i64 x.id):=fun n os=>cell_grown (by simp;omega) (qk (qd w #[.int .i64 x.id,.int .i64 x.dim,.slice x.a x.n x.c] 75 (0,0) 0) _) n os
 have Hw:∀ n os,(grow (((w.alloc (.cells #[.int .i64 x.id,.int .i64 x.dim,.slice x.a x.n x.c] 75)).alloc (.cells #[.int .i64 y.id,.int .i64 y.dim,.slice y.a y.n y.c] 75)).drewN n) os).cell? ⟨w.heap.size+1,0,none⟩=some (.int .i64 y.id):=fun n os=>cell_grown (by simp) (by have:=qd (w.alloc (.cells #[.int .i64 x.id,.int .i64 x.dim,.slice x.a x.n x.c] 75)) #[.int .i64 y.id,.int .i64 y.dim,.slice y.a y.n y.c] 75 (0,0) 0;rwa [World.size_alloc] at this) n os
 have sx:∀ n os,(grow (((w.alloc (.cells #[.int .i64 x.id,.int .i64 x.dim,.slice x.a x.n x.c] 75)).alloc (.cells #[.int .i64 y.id,.int .i64 y.dim,.slice y.a y.n y.c] 75)).drewN n) os).cell? ⟨w.heap.size,1,none⟩=some (.int .i64 x.dim):=fun n os=>cell_grown (by simp;omega) (qk (qd w #[.int .i64 x.id,.int .i64 x.dim,.slice x.a x.n x.c] 75 (0,0) 1) _) n os
 have Ia:∀ n os,(grow (((w.alloc (.cells #[.int .i64 x.id,.int .i64 x.dim,.slice x.a x.n x.c] 75)).alloc (.cells #[.int .i64 y.id,.int .i64 y.dim,.slice y.a y.n y.c] 75)).drewN n) os).cell? ⟨w.heap.size+1,1,none⟩=some (.int .i64 y.dim):=fun n os=>cell_grown (by simp) (by have:=qd (w.alloc (.cells #[.int .i64 x.id,.int .i64 x.dim,.slice x.a x.n x.c] 75)) #[.int .i64 y.id,.int .i64 y.dim,.slice y.a y.n y.c] 75 (0,0) 1;rwa [World.size_alloc] at this) n os
 have EC:∀ n os,(grow (((w.alloc (.cells #[.int .i64 x.id,.int .i64 x.dim,.slice x.a x.n x.c] 75)).alloc (.cells #[.int .i64 y.id,.int .i64 y.dim,.slice y.a y.n y.c] 75)).drewN n) os).cell? ⟨w.heap.size,2,none⟩=some (.slice x.a x.n x.c):=fun n os=>cell_grown (by simp;omega) (qk (qd w #[.int .i64 x.id,.int .i64 x.dim,.slice x.a x.n x.c] 75 (0,0) 2) _) n os
 have Rh:∀ n os,(grow (((w.alloc (.cells #[.int .i64 x.id,.int .i64 x.dim,.slice x.a x.n x.c] 75)).alloc (.cells #[.int .i64 y.id,.int .i64 y.dim,.slice y.a y.n y.c] 75)).drewN n) os).cell? ⟨w.heap.size+1,2,none⟩=some (.slice y.a y.n y.c):=fun n os=>cell_grown (by simp) (by have:=qd (w.alloc (.cells #[.int .i64 x.id,.int .i64 x.dim,.slice x.a x.n x.c] 75)) #[.int .i64 y.id,.int .i64 y.dim,.slice y.a y.n y.c] 75 (0,0) 2;rwa [World.size_alloc] at this) n os
 obtain⟨w2,eO⟩ : ∃ w2,w2=(w.alloc (.cells #[.int .i64 x.id,.int .i64 x.dim,.slice x.a x.n x.c] 75)).alloc (.cells #[.int .i64 y.id,.int .i64 y.dim,.slice y.a y.n y.c] 75):=⟨_,rfl⟩
 rw[<-eO] at cb Hs Hw sx Ia EC Rh ⊢;have zX:=lhd eO;clear eO
 go_quiet_grown (first
  |(go_at_call 201;exact Calls.grown_of (q64 _ _ _))
  |(go_at_call 182;first | exact Calls.grown_of (qdt x _) | exact Calls.grown_of (qdt y _)))
 go_wp2;go_ret;exact⟨rfl,nq,_,by rw[zX.out,q7o]⟩
theorem qhe (bk blk size:Nat) (w:World) (hb:bk < w.heap.size) (ak:bk≠blk) (hc:w.cell? ⟨bk,0,none⟩=some (.func (.func 182) #[] #[])) :
  CmpLays Tryz.prog 200 #[.pointer (some ⟨bk,0,none⟩)] Ce.enc 3 (fun x y=>q3u x.id y.id) blk 0 size w:=by
 intro m os dk _ x y;refine qkg x y bk _ ?_ ?_
 ·unfold sortWorldK;rw[size_grow,size_putRowK];show bk < w.heap.size+_;omega
 ·unfold sortWorldK;rw[cell?_grow _ _ _ (by rw[size_putRowK];exact hb),cell?_putRowK_other _ _ _ _ _ _ _ ak];exact hc
theorem qhf (c:Value) (w:World):Calls Tryz.prog 245 #[.slice none 0 0,.int .i64 0,.int .i64 0,c] w fun e w'=>e = .returned (.tuple #[])/\w'=w:=by
 go_enter Tryz.func245,Tryz.ntmps245;go_wp2;go_loopg [8] 0 (fun _ vi wr=>vi = .int .i64 1/\wr=w)
 case atStart=>exact⟨rfl,rfl⟩
 case round =>
  obtain⟨rfl,rfl⟩:=hrel;go_wp2
  go_end0
  exact⟨rfl,rfl⟩
theorem qhg (c:Value) (w:World):Calls Tryz.prog 230 #[.slice none 0 0,.int .i64 0,c] w fun e w'=>e = .returned (.tuple #[])/\w'=w:=by
 go_enter Tryz.func230,Tryz.ntmps230;go_wp2;go_loopg [7,8] 0 (fun _ va vb wr=>va = .int .i64 0/\vb = .int .i64 20/\wr=w)
 case atStart=>exact⟨rfl,rfl,rfl⟩
 case round =>
  obtain⟨rfl,rfl,rfl⟩:=hrel;go_wp2_with fail;refine(qhf c wr).mono ?_;rintro e w1 ⟨rfl,rfl⟩;go_wp2;go_loopg [6,7,8,9] 0 (fun _ v6 v7 v8 v9 lv=>v6 = .int .i64 20/\lv=w1)
  case atStart=>exact⟨rfl,rfl⟩
  case round =>
   obtain⟨rfl,rfl⟩:=hrel;go_wp2
   go_end0
   exact⟨rfl,rfl⟩
theorem qkh (base bk:Nat) (v:Value) (l:List Ce) (w:World) (h:w.ownsRow base 75 3 v l.length (cat Ce.enc l)) (hl:l.length<=1099511627776) (hb:bk < w.heap.size) (ak:v.ownBlock≠some bk) (hc:w.cell? ⟨bk,0,none⟩=some (.func (.func 182) #[] #[])) :
  Calls Tryz.prog 199 #[v,.func (.func 200) #[] #[.pointer (some ⟨bk,0,none⟩)]] w fun e w' =>
   e = .returned (.tuple #[])/\∃ l',qs Ce.id l l'/\Srt Ce.id l'/\w'.ownsRow base 75 3 v l'.length (cat Ce.enc l')/\w.grownBy w' v.ownBlock:=by
 have ej:=h;rcases h.2 with ⟨rfl,pA⟩ | ⟨g,cap,cur,rfl,hg,tw,r1,r2,r3,r4⟩
 ·have dO:l.length=0:=by have:=h.1;rw[pA] at this;simp at this;omega
  have fS:l=[]:=gu dO;subst fS;clear h pA hl dO ak hc;go_enter Tryz.func199,Tryz.ntmps199;go_wp2_with fail;refine(qhg _ w).mono ?_;rintro e w1 ⟨rfl,rfl⟩;go_wp2
  go_end0
  exact⟨rfl,[],qs.refl _,Srt.nil,ej,⟨rfl,rfl,rfl,nlr _,fun _ _ _=>rfl⟩⟩
 ·have hH:=q32 Ce.qp ej;have lf:g < w.heap.size:=(gw.1 tw).1;have fY:bk≠g:=fun e=>ak (by rw[e];rfl)
  have hls:(l.toArray).size=l.length:=by simp
  have HL:=qhe bk g l.toArray.size w hb fY hc;clear h tw r1 r2 r3 r4 ak hc fY;have R:RowK Ce.enc 3 w g 0 l.toArray:=⟨Ce.qp,Ce.xu,hH,lf⟩
  have HH:=lhd ej;clear ej;have HR:Hid _:=R;have Ib:Hid _:=HL;have Ic:Hid _:=hH;clear R HL hH;go_enter Tryz.func199,Tryz.ntmps199;go_wp2_with fail;refine(qkf qp0 Ce.enc (fun x y=>q3u x.id y.id) Ce.id _ _ g 0 cap l.length l.toArray w Tryz.call200 Ib.out (fun x y=>qaa _ _) HR.out hls hl l.toArray w (SWK.start Ic.out) hls).mono ?_;rintro e w1 ⟨rfl,d',k1,k2,k3⟩;have uf:d'.size=l.length:=by have:=k1.len;simpa using this.symm
  obtain⟨z1,z2⟩:=q61 Ce.qp HH.out uf k3;clear k3;go_wp2
  go_end0
  refine⟨rfl,d'.toList,by simpa using k1,k2,?_,z2⟩;have e5:d'.toList.length=l.length:=by rw[bi];exact uf
  rw[e5];exact z1
theorem Tryz.ke:(Tryz.prog.info? 75).map (fun i=>(i.zero,i.size,i.bytes))=some (some (.agg #[.int .i64 0,.int .i64 0,.slice none 0 0]),3,40):=by kernel_rfl
theorem qf7 (v:Value) (l:List Ce) (w:World) (h:Sl w 3 v (cat Ce.enc l)) (hl:l.length<=1099511627776) :
  Calls Tryz.prog 198 #[v] w fun e w'=>∃ r,e = .returned r/\w'.ownsRow w.heap.size 75 3 r l.length (cat Ce.enc l)/\Below w.heap.size w w':=by
 have qe:∀ (w:World) (a:Option Addr) (n c n' c':Nat),(binOp .eql 24 (.slice a n c) (.slice none n' c')).run Tryz.prog w = .ok (.bool a.isNone) w:=fun w a n c n' c'=>Lib.run_eql_slice_nil w _ _ a n c n' c' Tryz.underlying24
 obtain⟨a,n,cap,rfl,h2,h3,h4,h5,h6⟩:=h;cases a with
 | none =>
  have hc:=h5 rfl;have hn:n=0:=by omega
  subst hn hc;have dO:l=[]:=gu (by rw[qt Ce.qp] at h4;omega);subst dO;clear h2 h3 h4 h5 h6;go_enter Tryz.func198,Tryz.ntmps198;go_wp2;go_ret;exact⟨_,rfl,World.ownsRow_nil _ _ _ _,Below.refl _ _⟩
 | some ad =>
  have hs:Sl w 3 (.slice (some ad) n cap) (cat Ce.enc l):=⟨some ad,n,cap,rfl,h2,h3,h4,h5,h6⟩
  clear h2 h3 h4 h5 h6;have aV:Below w.heap.size w (w.alloc (.cells #[] 75)):=(Below.refl _ w).alloc (nlr _) _;have hk:=hs.alloc (.cells #[] 75);have HS:=lhd hk;clear hs hk;go_enter Tryz.func198,Tryz.ntmps198;go_wp2_with (at_builtin;refine qm (W:=w) rfl _ _ 24 rfl w.heap.size 75 Tryz.ke Tryz.underlying24 rfl (by decide) (by decide) _ _ _ rfl (zj w 75 3) _ l.length (cat Ce.enc l) rfl HS.out (qt Ce.qp l) (zo Ce.xu l) ?ad1 aV aV.size ?_)
  case ad1=>omega
  intro v1 w1 fj cA al;go_wp2;go_ret;exact⟨_,rfl,by simpa using fj,al⟩
theorem qc0 (v:Value) (l:List Ce) (w:World) (h:Sl w 3 v (cat Ce.enc l)) (hl:l.length<=1099511627776) :
  Calls Tryz.prog 181 #[v,.func (.func 182) #[] #[]] w fun e w'=>∃ r l',e = .returned r/\qs Ce.id l l'/\Srt Ce.id l'/\w'.ownsRow w.heap.size 75 3 r l'.length (cat Ce.enc l')/\Below w.heap.size w w':=by
 obtain⟨a,n,cap,hv⟩:=qg h;subst hv;have HS:=lhd h;clear h;go_enter Tryz.func181,Tryz.ntmps181;go_wp2_with fail;refine(qf7 _ l _ (HS.out.alloc _) hl).mono ?_;rintro e w1 ⟨r,rfl,hr,ai⟩;rw[World.size_alloc] at hr ai;have hc:w1.cell? ⟨w.heap.size,0,none⟩=some (.func (.func 182) #[] #[]):=by
  have:=q1n ai (by simp) (qd w #[.func (.func 182) #[] #[]] _ (0,0) 0);exact this
 have hz:w.heap.size < w1.heap.size:=by have:=ai.size;simp at this;omega
 have ak:r.ownBlock≠some w.heap.size:=fun e=>by have:=(hr.lt w.heap.size e).1;omega
 have aV:Below w.heap.size w w1:=((Below.refl _ w).alloc (nlr _) _).trans (ai.mono (by omega));have fN:=qkh (w.heap.size+1) w.heap.size r l w1 hr hl hz ak hc;have BQ:=lhd fN;have HR:=lhd hr;clear fN hc hr;go_wp2_with fail;refine BQ.out.mono ?_;rintro e w2 ⟨rfl,l',k1,k2,k3,k4⟩;have aw:Below w.heap.size w w2:=aV.grown k4 (by omega) (fun k hk=>by have:=(HR.out.lt k hk).1;omega);go_wp2;go_ret;exact⟨r,l',rfl,k1,k2,qf k3 (by omega),aw⟩
end Go.Proofs.YtlhicnfeajejhaaGreatDoor
