/- Stable sorting at api.Cell: slices.symMergeCmpFunc. Stable sorting at api.Cell: slices.stableCmpFunc. Stable sorting at api.Cell: slices.Clone, .. -/
import Derived.Test.YtlhicnfeajejhaaGreatDoorJMg
import Derived.Test.YtlhicnfeajejhaaGreatDoorJNc
import Derived.Test.YtlhicnfeajejhaaGreatDoorJNd
import Derived.Test.YtlhicnfeajejhaaGreatDoorJNe
set_option maxRecDepth 1000000
set_option maxHeartbeats 16000000
namespace Go.Proofs.YtlhicnfeajejhaaGreatDoor
open Go.RowKit Go.Cx Go.Shelf Go.Lib Go.Sort Go.Proofs
variable {P:Program} {k:Nat} {α:Type} [Inhabited α]
theorem qds (L:q33 P k) (enc:α->List Value) (cf:α->α->Int) (key:α->Int) (g:Nat) (cb:Array Value) (blk off cap sz:Nat) (d0:Array α) (w0:World) (eg:∀ args w,(callFunc g args).run P w = .ok (.enter g args) w) (hcmp:CmpLays P g cb enc k cf blk off d0.size w0) (hkey:∀ x y,cf x y < 0↔key x < key y) (R:RowK enc k w0 blk off d0) (hs:d0.size=sz) (hsz:sz<=1099511627776) (nn:Nat):∀ (a m b:Nat) (d:Array α) (w:World) (p A B q:List α),b - a<=nn->SWK enc k w0 blk off d w->d.toList=p++(A++(B++q))->p.length=a->a+A.length=m->m+B.length=b->0 < A.length->0 < B.length->Srt key A->Srt key B->b<=sz->d.size=sz →
  Calls P 246 #[.slice (some ⟨blk,off,none⟩) sz cap,.int .i64 a,.int .i64 m,.int .i64 b,.func (.func g) #[] cb] w fun e w' =>
   e = .returned (.tuple #[])/\∃ d' M,d'.toList=p++(M++q)/\Srt key M/\qs key (A++B) M/\SWK enc k w0 blk off d' w':=by
 induction nn with
 | zero=>intro a m b d w p A B q h1 h2 h3 h4 h5 h6 h7 h8;omega
 | succ nn ih =>
  intro a m b d w p A B q hnn S hd hp hm hb hA0 hB0 hA hB hbs hds;by_cases hone:m - a=1
  ·exact qh9 L enc cf key g cb blk off cap sz d0 w0 eg hcmp hkey R hs hsz a m b d w p A B q S hd hp hm hb hA hB hbs hds hone hB0
  ·by_cases htwo:b - m=1
   ·exact qha L enc cf key g cb blk off cap sz d0 w0 eg hcmp hkey R hs hsz a m b d w p A B q S hd hp hm hb hA hB hbs hds hone htwo
   ·by_cases hbg:(a+b) / 2 < m
    ·exact qhb L enc cf key g cb blk off cap sz d0 w0 eg hcmp hkey R hs hsz a m b d w p A B q S hd hp hm hb hA hB hbs hds nn hnn hA0 hB0 hone htwo ih _ rfl hbg
    ·exact qhc L enc cf key g cb blk off cap sz d0 w0 eg hcmp hkey R hs hsz a m b d w p A B q S hd hp hm hb hA hB hbs hds nn hnn hA0 hB0 hone htwo ih _ rfl hbg
theorem qkf (L:q33 P k) (enc:α->List Value) (cf:α->α->Int) (key:α->Int) (g:Nat) (cb:Array Value) (blk off cap sz:Nat) (d0:Array α) (w0:World) (eg:∀ args w,(callFunc g args).run P w = .ok (.enter g args) w) (hcmp:CmpLays P g cb enc k cf blk off d0.size w0) (hkey:∀ x y,cf x y < 0↔key x < key y) (R:RowK enc k w0 blk off d0) (hs:d0.size=sz) (hsz:sz<=1099511627776) (d:Array α) (w:World) (S:SWK enc k w0 blk off d w) (hds:d.size=sz) :
  Calls P 230 #[.slice (some ⟨blk,off,none⟩) sz cap,.int .i64 sz,.func (.func g) #[] cb] w fun e w' =>
   e = .returned (.tuple #[])/\∃ d':Array α,qs key d.toList d'.toList/\Srt key d'.toList/\SWK enc k w0 blk off d' w':=by
 have LL:Aside _:=L;have RR:Aside _:=R;have HC:Aside _:=hcmp;have HKey:Aside _:=hkey;have EG:Aside _:=eg;have cI:=L.c0;have cM:=L.c1;have mixed:=L.mixed;have aE:=L.aE;have zE:=L.zE;have uS:=run_underlying L.tS;have tN:=L.tN;have tNa:=L.tNa;have tNz:=L.tNz;have tNv:=L.tNv;have tB:=L.tB;have tBa:=L.tBa;have tBz:=L.tBz;have tBv:=L.tBv;have tS:=L.tS;have tSa:=L.tSa;have tSz:=L.tSz;have tSv:=L.tSv;have tU:=L.tU;have tUa:=L.tUa;have tUz:=L.tUz;have tUv:=L.tUv;have t0:=L.t0;have t0a:=L.t0a;have t0z:=L.t0z;have t0v:=L.t0v
 have S1:Aside _:=S;obtain⟨l,hl⟩ : ∃ l,l=d.toList:=⟨_,rfl⟩
 have hll:l.length=sz:=by rw[hl,Array.length_toList];exact hds
 have HL:=lhd hl;clear hl;have HLL:=lhd hll;clear hcmp hkey S;go_enter L.f4,Tryz.ntmps230;clear L R;go_wp2;go_loopg [7,8] sz (fun g1 va vb wr=>∃ (kk a:Nat) (dk:Array α) (Q:List α),va = .int .i64 a/\vb = .int .i64 ((a:Int)+20)/\a<=sz/\sz - a<=g1/\dk.size=sz/\Q.length=a/\Hid (a=kk*20/\dk.toList=Q++l.drop a/\q1o key 20 Q/\qs key (l.take a) Q)/\Aside (SWK enc k w0 blk off dk wr))
 case atStart=>exact⟨0,0,d,[],rfl,rfl,Nat.zero_le _,nlr _,hds,rfl,(show Hid _ from⟨by simp,by simp[HL.out],q1o.nil 20,qs.refl _⟩),S1⟩
 case round =>
  clear S1;obtain⟨kk,a,dk,Q,rfl,rfl,ha,hg1,hsk,hQ,HI,S1⟩:=hrel;by_cases hlt:a+20<=sz
  ·have hltz:(a:Int)+20<=(sz:Int):=by omega
   have e20:(a:Int)+20=((a+20:Nat):Int):=by omega
   have E20:=lhd e20;clear e20;go_wp2_with fail
   try rw[E20.out]
   refine(qdq LL.out enc cf key g cb blk off cap sz d0 w0 eg HC.out HKey.out RR.out hs hsz dk wr S1.out a (a+20) Q ((l.drop a).take 20) (l.drop (a+20)) (by rw[HI.out.2.1,<-List.drop_drop,List.take_append_drop]) hQ (by rw[List.length_take,List.length_drop];omega) hlt hsk).mono ?_;rintro e w2 ⟨rfl,d2,m2,hd2,hm2,hn2,S2⟩;have HD2:=lhd (aiq hd2 (aiq hm2 hn2));have hl2:m2.length=20:=by rw[<-hm2.len,List.length_take,List.length_drop];omega
   have hs2:d2.size=sz:=by
    have:=congrArg List.length hd2;simp at this;omega
   clear hd2 hm2 hn2;have S2:Aside _:=S2;clear S1;go_wp2;go_roundg (sz - (a+20))
   case measure=>omega
   case rel =>
    refine⟨kk+1,a+20,d2,Q++m2,by first | rfl | go_num,by first | rfl | go_num | (congr 1;omega),hlt,by omega,hs2,by rw[List.length_append];omega,(show Hid _ from⟨by have:=HI.out.1;omega,by rw[HD2.out.1];simp,HI.out.2.2.1.app (by rw[hQ];exact HI.out.1) HD2.out.2.2,?_⟩),S2⟩;rw[List.take_add];exact qs.app HI.out.2.2.2 HD2.out.2.1
  ·have hltz:¬ (a:Int)+20<=(sz:Int):=by omega
   go_wp2_with fail;refine(qdq LL.out enc cf key g cb blk off cap sz d0 w0 eg HC.out HKey.out RR.out hs hsz dk wr S1.out a sz Q (l.drop a) [] (by rw[HI.out.2.1,List.append_nil]) hQ (by rw[List.length_drop];omega) (nlr _) hsk).mono ?_;rintro e w2 ⟨rfl,d2,m2,hd2,hm2,hn2,S2⟩;have hs2:d2.size=sz:=by
    have:=congrArg List.length hd2;have h3:=hm2.len;simp at this h3;omega
   have hB:q1o key 20 d2.toList/\qs key l d2.toList:=by
    rw[hd2,List.append_nil];refine⟨HI.out.2.2.1.app (by rw[hQ];exact HI.out.1) hn2,?_⟩;have:=qs.app HI.out.2.2.2 hm2
    rwa [List.take_append_drop] at this
   have HB:=lhd hB;clear hd2 hm2 hn2 HI hB S1;have S1:Aside _:=S2;clear S2;go_wp2;go_loopg [6,7,8,9] (sz+40) (fun g2 v6 v7 v8 v9 wr2=>∃ (bs:Nat) (dk:Array α),v6 = .int .i64 bs/\0 < bs/\bs<=2*sz+40/\sz+40 - bs<=g2/\dk.size=sz/\Hid (q1o key bs dk.toList/\qs key l dk.toList)/\Aside (SWK enc k w0 blk off dk wr2))
   case atStart=>exact⟨20,d2,rfl,by omega,by omega,by omega,hs2,HB,S1⟩
   case round =>
    clear S1 HB;obtain⟨bs,dk,rfl,hb0,hb1,hg2,hsk,HI,S1⟩:=hrel;by_cases hlt:bs < sz
    ·have hltz:(bs:Int) < (sz:Int):=by omega
     obtain⟨M,hM⟩ : ∃ M,M=dk.toList:=⟨_,rfl⟩
     have hMl:M.length=sz:=by rw[hM,Array.length_toList];exact hsk
     have HI2:Hid (q1o key bs M/\qs key l M):=by rw[hM];exact HI
     have HM:=lhd hM;clear hM HI;go_wp2;go_loopg [7,8] sz (fun g3 va vb wr3=>∃ (kk a:Nat) (dj:Array α) (Q:List α),va = .int .i64 a/\vb = .int .i64 ((a:Int)+2*(bs:Int))/\a<=sz/\sz - a<=g3/\dj.size=sz/\Q.length=a/\Hid (a=kk*(2*bs)/\dj.toList=Q++M.drop a/\q1o key (2*bs) Q/\qs key (M.take a) Q)/\Aside (SWK enc k w0 blk off dj wr3))
     case atStart=>exact⟨0,0,dk,[],rfl,by first | rfl | go_num | (congr 1;omega),Nat.zero_le _,nlr _,hsk,rfl,(show Hid _ from⟨by simp,by simp[HM.out],q1o.nil _,qs.refl _⟩),S1⟩
     case round =>
      clear S1;obtain⟨kk,a,dj,Q,rfl,rfl,ha,hg3,hsj,hQ,HJ,S1⟩:=hrel;have hA:Srt key ((M.drop a).take bs):=by
       have:=HI2.out.1 (2*kk)
       rwa [show 2*kk*bs=a by rw[HJ.out.1,Nat.mul_comm 2 kk,Nat.mul_assoc]] at this
      have hBB:Srt key ((M.drop (a+bs)).take bs):=by
       have:=HI2.out.1 (2*kk+1)
       rwa [show (2*kk+1)*bs=a+bs by rw[HJ.out.1,Nat.add_mul,Nat.one_mul,Nat.mul_comm 2 kk,Nat.mul_assoc]] at this
      have HAB:=lhd (aiq hA hBB);clear hA hBB;by_cases hle:a+2*bs<=sz
      ·have hlez:(a:Int)+2*(bs:Int)<=(sz:Int):=by omega
       have e1:(a:Int)+2*(bs:Int)=((a+2*bs:Nat):Int):=by omega
       have e2:(a:Int)+(bs:Int)=((a+bs:Nat):Int):=by omega
       have E12:=lhd (aiq e1 e2);clear e1 e2;go_wp2_with fail
       try rw[E12.out.1]
       try rw[E12.out.2]
       refine(qds LL.out enc cf key g cb blk off cap sz d0 w0 eg HC.out HKey.out RR.out hs hsz (2*bs) a (a+bs) (a+2*bs) dj wr Q ((M.drop a).take bs) ((M.drop (a+bs)).take bs) (M.drop (a+2*bs)) (by omega) S1.out ?h1 hQ (by rw[List.length_take,List.length_drop];omega) (by rw[List.length_take,List.length_drop];omega) (by rw[List.length_take,List.length_drop];omega) (by rw[List.length_take,List.length_drop];omega) HAB.out.1 HAB.out.2 hle hsj).mono ?_
       case h1 =>
        have e3:(M.drop (a+bs)).take bs++M.drop (a+2*bs)=M.drop (a+bs):=by
         rw[show a+2*bs=(a+bs)+bs by omega,show M.drop (a+bs+bs)=(M.drop (a+bs)).drop bs by rw[List.drop_drop],List.take_append_drop]
        have e4:(M.drop a).take bs++M.drop (a+bs)=M.drop a:=by rw[<-List.drop_drop,List.take_append_drop]
        rw[HJ.out.2.1,e3,e4]
       rintro e w3 ⟨rfl,d3,m3,hd3,hn3,hm3,S3⟩;have HD3:=lhd (aiq hd3 (aiq hm3 hn3));have hl3:m3.length=2*bs:=by rw[<-hm3.len,List.length_append,List.length_take,List.length_drop,List.length_take,List.length_drop];omega
       have hs3:d3.size=sz:=by
        have:=congrArg List.length hd3;simp at this;omega
       clear hd3 hm3 hn3;have S3:Aside _:=S3;clear S1;go_wp2;go_roundg (sz - (a+2*bs))
       case measure=>omega
       case rel =>
        refine⟨kk+1,a+2*bs,d3,Q++m3,by first | rfl | go_num | (congr 1;omega),by first | rfl | go_num | (congr 1;omega),hle,by omega,hs3,by rw[List.length_append];omega,(show Hid _ from⟨by rw[HJ.out.1,Nat.add_mul];omega,by rw[HD3.out.1];simp,HJ.out.2.2.1.app (by rw[hQ];exact HJ.out.1) HD3.out.2.2,?_⟩),S3⟩;have:=qs.app HJ.out.2.2.2 HD3.out.2.1
        rwa [<-List.append_assoc,<-List.take_add,<-List.take_add,show a+bs+bs=a+2*bs by omega] at this
      ·have hlez:¬ (a:Int)+2*(bs:Int)<=(sz:Int):=by omega
       by_cases hlm:a+bs < sz
       ·have hlmz:(a:Int)+(bs:Int) < (sz:Int):=by omega
        have e2:(a:Int)+(bs:Int)=((a+bs:Nat):Int):=by omega
        have E12:=lhd e2;clear e2;go_wp2_with fail
        try rw[E12.out]
        refine(qds LL.out enc cf key g cb blk off cap sz d0 w0 eg HC.out HKey.out RR.out hs hsz sz a (a+bs) sz dj wr Q ((M.drop a).take bs) (M.drop (a+bs)) [] (by omega) S1.out ?h2 hQ (by rw[List.length_take,List.length_drop];omega) (by rw[List.length_drop];omega) (by rw[List.length_take,List.length_drop];omega) (by rw[List.length_drop];omega) HAB.out.1 ?h3 (nlr _) hsj).mono ?_
        case h2=>rw[HJ.out.2.1,List.append_nil,<-List.drop_drop,List.take_append_drop]
        case h3=>have:=HAB.out.2;rwa [List.take_of_length_le (by rw[List.length_drop];omega)] at this
        rintro e w3 ⟨rfl,d3,m3,hd3,hn3,hm3,S3⟩;have hq:q1o key (2*bs) d3.toList/\qs key l d3.toList:=by
         rw[hd3,List.append_nil];refine⟨HJ.out.2.2.1.app (by rw[hQ];exact HJ.out.1) hn3,HI2.out.2.trans ?_⟩;have:=qs.app HJ.out.2.2.2 hm3
         rwa [<-List.drop_drop,List.take_append_drop,List.take_append_drop] at this
        have HQ:=lhd hq;have hs3:d3.size=sz:=by
         have:=hq.2.len;rw[HLL.out,Array.length_toList] at this;exact this.symm
        clear hd3 hm3 hn3 hq;have S3:Aside _:=S3;clear S1;go_wp2;go_roundg (sz+40 - 2*bs)
        case measure=>omega
        case rel=>exact⟨2*bs,d3,by first | rfl | go_num | (congr 1;omega),by omega,by omega,nlr _,hs3,HQ,S3⟩
       ·have hlmz:¬ (a:Int)+(bs:Int) < (sz:Int):=by omega
        have hq:q1o key (2*bs) dj.toList/\qs key l dj.toList:=by
         rw[HJ.out.2.1];have h3:=HAB.out.1;rw[List.take_of_length_le (by rw[List.length_drop];omega)] at h3;refine⟨HJ.out.2.2.1.app (by rw[hQ];exact HJ.out.1) h3,HI2.out.2.trans ?_⟩;have:=qs.app HJ.out.2.2.2 (qs.refl (M.drop a))
         rwa [List.take_append_drop] at this
        have HQ:=lhd hq;clear hq;go_wp2;go_roundg (sz+40 - 2*bs)
        case measure=>omega
        case rel=>exact⟨2*bs,dj,by first | rfl | go_num | (congr 1;omega),by omega,by omega,nlr _,hsj,HQ,S1⟩
    ·have hltz:¬ (bs:Int) < (sz:Int):=by omega
     go_wp2
     go_end0
     exact⟨rfl,dk,by rw[<-HL.out];exact HI.out.2,HI.out.1.all (by rw[Array.length_toList];omega),S1.out⟩
end Go.Proofs.YtlhicnfeajejhaaGreatDoor
namespace Go.Proofs.YtlhicnfeajejhaaGreatDoor
open Go.RowKit Go.Cx Go.Sort Go.Proofs
def q3u (x y:Int):Int:=if x < y then -1 else if y < x then 1 else 0
theorem qaa (x y:Int):q3u x y < 0↔x < y:=by
 unfold q3u;split
 ·simp;assumption
 ·split <;> simp <;> omega
theorem qbz (W:World) (os:Array Obj) (n:Nat):(grow W os).drewN n=grow (W.drewN n) os:=rfl
theorem q7o (W:World) (o1 o2:Obj) (n:Nat) (os:Array Obj):grow (((W.alloc o1).alloc o2).drewN n) os=grow (W.drewN n) (#[o1,o2]++os):=by
 rw[alloc_eq_grow,alloc_eq_grow,grow_grow,qbz,grow_grow];rfl
theorem qhd (x:Int) (w:World):Calls Tryz.prog 231 #[.int .i64 x] w fun e w'=>e = .returned (.bool false)/\w'=w:=by
 go_enter Tryz.func231,Tryz.ntmps231;go_wp2;go_ret;exact⟨rfl,rfl⟩
theorem q64 (x y:Int) (w:World):Calls Tryz.prog 201 #[.int .i64 x,.int .i64 y] w fun e w'=>e = .returned (.int .i64 (q3u x y))/\∃ q os',w'=grow (w.drewN q) os':=by
 have fin:∀ v,v=q3u x y->(Ending.returned (.int .i64 v)=Ending.returned (.int .i64 (q3u x y))/\∃ q os',w=grow (w.drewN q) os'):=fun v hv=>⟨by rw[hv],0,#[],by rw[grow_empty];rfl⟩
 have FIN:=lhd fin;clear fin;go_enter Tryz.func201,Tryz.ntmps201;go_wp2_with fail;refine(qhd x _).mono ?_;rintro e w1 ⟨rfl,rfl⟩;go_wp2_with fail;refine(qhd y _).mono ?_;rintro e w1 ⟨rfl,rfl⟩;by_cases h1:x < y
 ·go_wp2;go_ret;exact FIN.out _ (by unfold q3u;rw[if_pos (by omega)])
 ·by_cases h2:y < x
  ·go_wp2;go_ret;exact FIN.out _ (by unfold q3u;rw[if_neg (by omega),if_pos (by omega)])
  ·go_wp2;go_ret;exact FIN.out _ (by unfold q3u;rw[if_neg (by omega),if_neg (by omega)])
theorem qdt (x:Ce) (w:World):Calls Tryz.prog 182 #[.agg #[.int .i64 x.id,.int .i64 x.dim,.slice x.a x.n x.c]] w fun e w'=>e = .returned (.int .i64 x.id)/\∃ q os',w'=grow (w.drewN q) os':=by
 go_enter Tryz.func182,Tryz.ntmps182;go_wp2;go_ret;exact⟨rfl,0,_,alloc_eq_grow _ _⟩
theorem qkg (x y:Ce) (bk:Nat) (w:World) (hb:bk < w.heap.size) (hc:w.cell? ⟨bk,0,none⟩=some (.func (.func 182) #[] #[])) :
  Calls Tryz.prog 200 #[.agg #[.int .i64 x.id,.int .i64 x.dim,.slice x.a x.n x.c],.agg #[.int .i64 y.id,.int .i64 y.dim,.slice y.a y.n y.c],.pointer (some ⟨bk,0,none⟩)] w fun e w'=>e = .returned (.int .i64 (q3u x.id y.id))/\∃ q os',w'=grow (w.drewN q) os':=by
 have mixed:Tryz.prog.follows .mixedOrders=true:=by kernel_rfl
 go_enter Tryz.func200,Tryz.ntmps200;go_wp2_with fail;have cb:∀ n os,(grow (((w.alloc (.cells #[.int .i64 x.id,.int .i64 x.dim,.slice x.a x.n x.c] 75)).alloc (.cells #[.int .i64 y.id,.int .i64 y.dim,.slice y.a y.n y.c] 75)).drewN n) os).cell? ⟨bk,0,none⟩=some (.func (.func 182) #[] #[]):=fun n os=>cell_grown (by simp;omega) (qk (qk hc _) _) n os
 have cx0:∀ n os,(grow (((w.alloc (.cells #[.int .i64 x.id,.int .i64 x.dim,.slice x.a x.n x.c] 75)).alloc (.cells #[.int .i64 y.id,.int .i64 y.dim,.slice y.a y.n y.c] 75)).drewN n) os).cell? ⟨w.heap.size,0,none⟩=some (.int .i64 x.id):=fun n os=>cell_grown (by simp;omega) (qk (qd w #[.int .i64 x.id,.int .i64 x.dim,.slice x.a x.n x.c] 75 (0,0) 0) _) n os
 have cy0:∀ n os,(grow (((w.alloc (.cells #[.int .i64 x.id,.int .i64 x.dim,.slice x.a x.n x.c] 75)).alloc (.cells #[.int .i64 y.id,.int .i64 y.dim,.slice y.a y.n y.c] 75)).drewN n) os).cell? ⟨w.heap.size+1,0,none⟩=some (.int .i64 y.id):=fun n os=>cell_grown (by simp) (by have:=qd (w.alloc (.cells #[.int .i64 x.id,.int .i64 x.dim,.slice x.a x.n x.c] 75)) #[.int .i64 y.id,.int .i64 y.dim,.slice y.a y.n y.c] 75 (0,0) 0;rwa [World.size_alloc] at this) n os
 have cx1:∀ n os,(grow (((w.alloc (.cells #[.int .i64 x.id,.int .i64 x.dim,.slice x.a x.n x.c] 75)).alloc (.cells #[.int .i64 y.id,.int .i64 y.dim,.slice y.a y.n y.c] 75)).drewN n) os).cell? ⟨w.heap.size,1,none⟩=some (.int .i64 x.dim):=fun n os=>cell_grown (by simp;omega) (qk (qd w #[.int .i64 x.id,.int .i64 x.dim,.slice x.a x.n x.c] 75 (0,0) 1) _) n os
 have cy1:∀ n os,(grow (((w.alloc (.cells #[.int .i64 x.id,.int .i64 x.dim,.slice x.a x.n x.c] 75)).alloc (.cells #[.int .i64 y.id,.int .i64 y.dim,.slice y.a y.n y.c] 75)).drewN n) os).cell? ⟨w.heap.size+1,1,none⟩=some (.int .i64 y.dim):=fun n os=>cell_grown (by simp) (by have:=qd (w.alloc (.cells #[.int .i64 x.id,.int .i64 x.dim,.slice x.a x.n x.c] 75)) #[.int .i64 y.id,.int .i64 y.dim,.slice y.a y.n y.c] 75 (0,0) 1;rwa [World.size_alloc] at this) n os
 have cx2:∀ n os,(grow (((w.alloc (.cells #[.int .i64 x.id,.int .i64 x.dim,.slice x.a x.n x.c] 75)).alloc (.cells #[.int .i64 y.id,.int .i64 y.dim,.slice y.a y.n y.c] 75)).drewN n) os).cell? ⟨w.heap.size,2,none⟩=some (.slice x.a x.n x.c):=fun n os=>cell_grown (by simp;omega) (qk (qd w #[.int .i64 x.id,.int .i64 x.dim,.slice x.a x.n x.c] 75 (0,0) 2) _) n os
 have cy2:∀ n os,(grow (((w.alloc (.cells #[.int .i64 x.id,.int .i64 x.dim,.slice x.a x.n x.c] 75)).alloc (.cells #[.int .i64 y.id,.int .i64 y.dim,.slice y.a y.n y.c] 75)).drewN n) os).cell? ⟨w.heap.size+1,2,none⟩=some (.slice y.a y.n y.c):=fun n os=>cell_grown (by simp) (by have:=qd (w.alloc (.cells #[.int .i64 x.id,.int .i64 x.dim,.slice x.a x.n x.c] 75)) #[.int .i64 y.id,.int .i64 y.dim,.slice y.a y.n y.c] 75 (0,0) 2;rwa [World.size_alloc] at this) n os
 obtain⟨w2,hw2⟩ : ∃ w2,w2=(w.alloc (.cells #[.int .i64 x.id,.int .i64 x.dim,.slice x.a x.n x.c] 75)).alloc (.cells #[.int .i64 y.id,.int .i64 y.dim,.slice y.a y.n y.c] 75):=⟨_,rfl⟩
 rw[<-hw2] at cb cx0 cy0 cx1 cy1 cx2 cy2 ⊢;have HW2:=lhd hw2;clear hw2
 go_quiet_grown (first
  |(go_at_call 201;exact Calls.grown_of (q64 _ _ _))
  |(go_at_call 182;first | exact Calls.grown_of (qdt x _) | exact Calls.grown_of (qdt y _)))
 go_wp2;go_ret;exact⟨rfl,nq,_,by rw[HW2.out,q7o]⟩
theorem qhe (bk blk size:Nat) (w:World) (hb:bk < w.heap.size) (hne:bk≠blk) (hc:w.cell? ⟨bk,0,none⟩=some (.func (.func 182) #[] #[])) :
  CmpLays Tryz.prog 200 #[.pointer (some ⟨bk,0,none⟩)] Ce.enc 3 (fun x y=>q3u x.id y.id) blk 0 size w:=by
 intro m os dk _ x y;refine qkg x y bk _ ?_ ?_
 ·unfold sortWorldK;rw[size_grow,size_putRowK];show bk < w.heap.size+_;omega
 ·unfold sortWorldK;rw[cell?_grow _ _ _ (by rw[size_putRowK];exact hb),cell?_putRowK_other _ _ _ _ _ _ _ hne];exact hc
theorem qhf (c:Value) (w:World):Calls Tryz.prog 245 #[.slice none 0 0,.int .i64 0,.int .i64 0,c] w fun e w'=>e = .returned (.tuple #[])/\w'=w:=by
 go_enter Tryz.func245,Tryz.ntmps245;go_wp2;go_loopg [8] 0 (fun _ vi wr=>vi = .int .i64 1/\wr=w)
 case atStart=>exact⟨rfl,rfl⟩
 case round =>
  obtain⟨rfl,rfl⟩:=hrel;go_wp2
  go_end0
  exact⟨rfl,rfl⟩
theorem qhg (c:Value) (w:World):Calls Tryz.prog 230 #[.slice none 0 0,.int .i64 0,c] w fun e w'=>e = .returned (.tuple #[])/\w'=w:=by
 go_enter Tryz.func230,Tryz.ntmps230;go_wp2;go_loopg [7,8] 0 (fun _ va vb wr=>va = .int .i64 0/\vb = .int .i64 20/\wr=w)
 case atStart=>exact⟨rfl,rfl,rfl⟩
 case round =>
  obtain⟨rfl,rfl,rfl⟩:=hrel;go_wp2_with fail;refine(qhf c wr).mono ?_;rintro e w1 ⟨rfl,rfl⟩;go_wp2;go_loopg [6,7,8,9] 0 (fun _ v6 v7 v8 v9 wr2=>v6 = .int .i64 20/\wr2=w1)
  case atStart=>exact⟨rfl,rfl⟩
  case round =>
   obtain⟨rfl,rfl⟩:=hrel;go_wp2
   go_end0
   exact⟨rfl,rfl⟩
theorem qkh (base bk:Nat) (v:Value) (l:List Ce) (w:World) (h:w.ownsRow base 75 3 v l.length (cat Ce.enc l)) (hl:l.length<=1099511627776) (hb:bk < w.heap.size) (hne:v.ownBlock≠some bk) (hc:w.cell? ⟨bk,0,none⟩=some (.func (.func 182) #[] #[])) :
  Calls Tryz.prog 199 #[v,.func (.func 200) #[] #[.pointer (some ⟨bk,0,none⟩)]] w fun e w' =>
   e = .returned (.tuple #[])/\∃ l',qs Ce.id l l'/\Srt Ce.id l'/\w'.ownsRow base 75 3 v l'.length (cat Ce.enc l')/\w.grownBy w' v.ownBlock:=by
 have hcopy:=h;rcases h.2 with ⟨rfl,hcat⟩ | ⟨g,cap,cur,rfl,hg,hgg,r1,r2,r3,r4⟩
 ·have hl0:l.length=0:=by have:=h.1;rw[hcat] at this;simp at this;omega
  have hln:l=[]:=List.eq_nil_of_length_eq_zero hl0;subst hln;clear h hcat hl hl0 hne hc;go_enter Tryz.func199,Tryz.ntmps199;go_wp2_with fail;refine(qhg _ w).mono ?_;rintro e w1 ⟨rfl,rfl⟩;go_wp2
  go_end0
  exact⟨rfl,[],qs.refl _,Srt.nil,hcopy,⟨rfl,rfl,rfl,nlr _,fun _ _ _=>rfl⟩⟩
 ·have hH:=q32 Ce.qp hcopy;have hgs:g < w.heap.size:=(Array.getElem?_eq_some_iff.1 hgg).1;have hbg:bk≠g:=fun e=>hne (by rw[e];rfl)
  have hls:(l.toArray).size=l.length:=by simp
  have HL:=qhe bk g l.toArray.size w hb hbg hc;clear h hgg r1 r2 r3 r4 hne hc hbg;have R:RowK Ce.enc 3 w g 0 l.toArray:=⟨Ce.qp,Ce.xu,hH,hgs⟩
  have HH:=lhd hcopy;clear hcopy;have HR:Hid _:=R;have HL2:Hid _:=HL;have HHH:Hid _:=hH;clear R HL hH;go_enter Tryz.func199,Tryz.ntmps199;go_wp2_with fail;refine(qkf qp0 Ce.enc (fun x y=>q3u x.id y.id) Ce.id _ _ g 0 cap l.length l.toArray w Tryz.call200 HL2.out (fun x y=>qaa _ _) HR.out hls hl l.toArray w (SWK.start HHH.out) hls).mono ?_;rintro e w1 ⟨rfl,d',k1,k2,k3⟩;have hdl:d'.size=l.length:=by have:=k1.len;simpa using this.symm
  obtain⟨z1,z2⟩:=q61 Ce.qp HH.out hdl k3;clear k3;go_wp2
  go_end0
  refine⟨rfl,d'.toList,by simpa using k1,k2,?_,z2⟩;have e5:d'.toList.length=l.length:=by rw[Array.length_toList];exact hdl
  rw[e5];exact z1
theorem Tryz.ke:(Tryz.prog.info? 75).map (fun i=>(i.zero,i.size,i.bytes))=some (some (.agg #[.int .i64 0,.int .i64 0,.slice none 0 0]),3,40):=by kernel_rfl
theorem qf7 (v:Value) (l:List Ce) (w:World) (h:Sl w 3 v (cat Ce.enc l)) (hl:l.length<=1099511627776) :
  Calls Tryz.prog 198 #[v] w fun e w'=>∃ r,e = .returned r/\w'.ownsRow w.heap.size 75 3 r l.length (cat Ce.enc l)/\Below w.heap.size w w':=by
 have qe:∀ (w:World) (a:Option Addr) (n c n' c':Nat),(binOp .eql 24 (.slice a n c) (.slice none n' c')).run Tryz.prog w = .ok (.bool a.isNone) w:=fun w a n c n' c'=>Lib.run_eql_slice_nil w _ _ a n c n' c' Tryz.underlying24
 obtain⟨a,n,cap,rfl,h2,h3,h4,h5,h6⟩:=h;cases a with
 | none =>
  have hc:=h5 rfl;have hn:n=0:=by omega
  subst hn hc;have hl0:l=[]:=List.eq_nil_of_length_eq_zero (by rw[qt Ce.qp] at h4;omega);subst hl0;clear h2 h3 h4 h5 h6;go_enter Tryz.func198,Tryz.ntmps198;go_wp2;go_ret;exact⟨_,rfl,World.ownsRow_nil _ _ _ _,Below.refl _ _⟩
 | some ad =>
  have hs:Sl w 3 (.slice (some ad) n cap) (cat Ce.enc l):=⟨some ad,n,cap,rfl,h2,h3,h4,h5,h6⟩
  clear h2 h3 h4 h5 h6;have hB0:Below w.heap.size w (w.alloc (.cells #[] 75)):=(Below.refl _ w).alloc (nlr _) _;have hk:=hs.alloc (.cells #[] 75);have HS:=lhd hk;clear hs hk;go_enter Tryz.func198,Tryz.ntmps198;go_wp2_with (at_builtin;refine qm (W:=w) rfl _ _ 24 rfl w.heap.size 75 Tryz.ke Tryz.underlying24 rfl (by decide) (by decide) _ _ _ rfl (zj w 75 3) _ l.length (cat Ce.enc l) rfl HS.out (qt Ce.qp l) (zo Ce.xu l) ?ad1 hB0 hB0.size ?_)
  case ad1=>omega
  intro v1 w1 hr1 hg1 hB1;go_wp2;go_ret;exact⟨_,rfl,by simpa using hr1,hB1⟩
theorem qc0 (v:Value) (l:List Ce) (w:World) (h:Sl w 3 v (cat Ce.enc l)) (hl:l.length<=1099511627776) :
  Calls Tryz.prog 181 #[v,.func (.func 182) #[] #[]] w fun e w'=>∃ r l',e = .returned r/\qs Ce.id l l'/\Srt Ce.id l'/\w'.ownsRow w.heap.size 75 3 r l'.length (cat Ce.enc l')/\Below w.heap.size w w':=by
 obtain⟨a,n,cap,hv⟩:=qg h;subst hv;have HS:=lhd h;clear h;go_enter Tryz.func181,Tryz.ntmps181;go_wp2_with fail;refine(qf7 _ l _ (HS.out.alloc _) hl).mono ?_;rintro e w1 ⟨r,rfl,hr,hb1⟩;rw[World.size_alloc] at hr hb1;have hc:w1.cell? ⟨w.heap.size,0,none⟩=some (.func (.func 182) #[] #[]):=by
  have:=q1n hb1 (by simp) (qd w #[.func (.func 182) #[] #[]] _ (0,0) 0);exact this
 have hz:w.heap.size < w1.heap.size:=by have:=hb1.size;simp at this;omega
 have hne:r.ownBlock≠some w.heap.size:=fun e=>by have:=(hr.lt w.heap.size e).1;omega
 have hB0:Below w.heap.size w w1:=((Below.refl _ w).alloc (nlr _) _).trans (hb1.mono (by omega));have hcs:=qkh (w.heap.size+1) w.heap.size r l w1 hr hl hz hne hc;have HCS:=lhd hcs;have HR:=lhd hr;clear hcs hc hr;go_wp2_with fail;refine HCS.out.mono ?_;rintro e w2 ⟨rfl,l',k1,k2,k3,k4⟩;have hB2:Below w.heap.size w w2:=hB0.grown k4 (by omega) (fun k hk=>by have:=(HR.out.lt k hk).1;omega);go_wp2;go_ret;exact⟨r,l',rfl,k1,k2,qf k3 (by omega),hB2⟩
end Go.Proofs.YtlhicnfeajejhaaGreatDoor
