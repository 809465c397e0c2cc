/- Steps towards MorseParts. Conditions: none. -/
import Derived.Test.YtlhicnfeajejhaaGreatDoorGQj
set_option maxRecDepth 1000000
set_option maxHeartbeats 16000000
namespace Go.Cx
open Go.Maps
theorem qog {D:DataW Value} {g:Int->Option Value} (h2:∀ x,has D (.int .i64 x)=(g x).isSome/\∀ v,g x=some v->∀ z,D.atKey (.int .i64 x) z = .held v) (x:Int) :
  ∀ y,has (D.del (.int .i64 x)) (.int .i64 y)=((fun y=>if y=x then none else g y) y:Option Value).isSome/\∀ u,(fun y=>if y=x then none else g y) y=some u->∀ z,(D.del (.int .i64 x)).atKey (.int .i64 y) z = .held u:=by
 intro y;by_cases hy:y=x
 ·subst hy;refine⟨by rw[has_del_same (k:=.int .i64 y)];simp,fun u hu=>?_⟩;simp at hu
 ·have al:Lit.int .i64 y≠.int .i64 x:=by intro e;injection e with _ e;exact hy e
  refine⟨by rw[has_del_other al,(h2 y).1];simp[hy],fun u hu z=>?_⟩;simp only [hy,if_false] at hu;rw[atKey_del_other al];exact(h2 y).2 u hu z
end Go.Cx
namespace Go.Proofs.YtlhicnfeajejhaaGreatDoor
open Go.Cx Go.RowKit Go.Maps
theorem MpI.del {w:World} {b n:Nat} {h:Int->Int} (m:MpI w b n h) {c:Int} (hc:I64 c) (ty:TypeId) :
  ∃ w',(Builtin.delete_ #[122,3] ty #[.map (some b),.int .i64 c]).run Tryz.prog w = .ok (.tuple #[]) w'/\MpI w' b n (pu h c 0)/\w.grownBy w' (some b):=by
 obtain⟨g,⟨D,h1,h2⟩,h3⟩:=m;obtain⟨w',hr,ho,ht⟩:=h1.drop (int_keyed Tryz.underlying3) Tryz.underlying122 (yx hc) ty;refine⟨w',hr,⟨_,⟨_,ho,qog h2 c⟩,fun d=>?_⟩,ht.grown⟩;unfold pu;by_cases hd:d=c
 ·simp[hd]
 ·simp[hd,h3 d]
end Go.Proofs.YtlhicnfeajejhaaGreatDoor
namespace Go.Cx
open Go.Proofs.YtlhicnfeajejhaaGreatDoor
noncomputable def q52 (K:List Cl):List (Int×Int):=if (chk K).2=0 then q3w (canon K) zz zz ((canon K).map Cl.id) else []
section
variable {K:List Cl} {hi lo:Int->Int}
theorem q4u {c x:Int} {l:List Int} (h:kc K hi lo c x=false\/yp K (pu hi c x) c):firstM K hi lo c (x :: l)=firstM K hi lo c l:=by
 rcases h with h | h
 ·exact vl h
 ·exact q28 h
theorem qej {f:Int->Int} {c v:Int} (h:f c=0):pu (pu f c v) c 0=f:=by
 funext d
 by_cases hd:d=c
 ·subst hd;rw[q35,h]
 ·rw[yz _ _ hd,yz _ _ hd]
theorem qiz {c h:Int} (hh:h∈kd K c):∃ y∈cellsOf K,y.id=h:=by unfold kd at hh;obtain⟨y,hy,rfl⟩:=gr.1 hh;exact⟨y,(gK.1 hy).1,rfl⟩
end
end Go.Cx
namespace Go.Proofs.YtlhicnfeajejhaaGreatDoor
open Go.Cx Go.RowKit
theorem jw:(Tryz.prog.info? 50).map (fun i=>(i.zero,i.size,i.bytes))=some (some (.agg #[.int .i64 0,.int .i64 0]),2,16):=by kernel_rfl
theorem q9j (x y:Int):∀ u∈[Value.int .i64 x,.int .i64 y],u.oneCell'=true:=by intro u hu;simp at hu;rcases hu with rfl | rfl <;> rfl
structure Mst (w1 wx:World) (K:List Cl) (BH BL:Nat) (k:Nat) (so:Value) (hi lo:Int->Int) (M:List (Int×Int)) (nn:Nat):Prop where
 row:wx.ownsRow w1.heap.size 50 2 so M.length (pv M)
 eq:q3w K zz zz (K.map Cl.id)=M++q3w K hi lo ((K.map Cl.id).drop k)
 mt:Mtc K hi lo
 ac:∀ a,¬ yp K hi a
 mH:MpI wx BH nn hi
 mL:MpI wx BL nn lo
 gs:Gs (HL BH BL) w1 wx
theorem Mst.q8 {w1 wx wy:World} {K:List Cl} {BH BL k nn:Nat} {so:Value} {hi lo:Int->Int} {M:List (Int×Int)} (h:Mst w1 wx K BH BL k so hi lo M nn) (hb:BwQ wx wy):Mst w1 wy K BH BL k so hi lo M nn :=
 ⟨qa h.row hb,h.eq,h.mt,h.ac,h.mH.q8 hb,h.mL.q8 hb,h.gs.trans (Gs.xh hb)⟩
theorem qm1 (v:Value) (l:List Ce) (w:World) (h:SlC w v l) (hl:l.length<=1099511627776) (hok:COk l) :
  Calls Tryz.prog 39 #[.agg #[v]] w fun e w'=>∃ r,e = .returned r/\w'.ownsRow w.heap.size 50 2 r (q52 (l.map Ce.cl)).length (pv (q52 (l.map Ce.cl)))/\BwQ w w':=by
 obtain⟨a,len,cap,rfl⟩:=qg h.1;obtain⟨W,hW⟩ : ∃ W,W=w.alloc (.cells #[.slice a len cap] 26):=⟨_,rfl⟩
 have hB:BwQ w W:=by rw[hW];exact bal w _
 have hc:=q6s (.slice a len cap) (.slice none 0 0) l [] W (h.q8 hB) hl hok (Sl.nil _ _) (fun p hp=>by cases hp);have HC:=lhd hc;have HB:=lhd hB;obtain⟨K0,hK0⟩ : ∃ K0,K0=l.map Ce.cl:=⟨_,rfl⟩
 rw[<-hK0] at HC ⊢;have ly:=lhd hW;clear hc hB h hl hok hK0 hW;go_enter Tryz.func39,Tryz.ntmps39;go_wp2_with fail
 go_step3
 go_wp2_with fail;rw[<-ly.out];refine HC.out.mono ?_;rintro e w1 ⟨ak,hr⟩;have aV:=lhd ((btr HB.out ak));have pI:W.heap.size<=w1.heap.size:=ak.size;clear ak;rcases hr with ⟨E,h1,rfl,h2⟩ | ⟨h2,h3,T,rfl,h4⟩
 ·have hb:(E != 0)=true:=by simpa using h1
  have H:=lhd (aiq h1 h2);clear h1 h2;go_wp2_with fail
  (try rw[Exit.noGoto_ret])
  go_ret;have he:q52 K0=[]:=by unfold q52;rw[if_neg];intro hz;have:=H.out.2;unfold opE at this;rw[if_pos hz,qbb] at this;exact H.out.1 this.symm
  rw[he];exact⟨_,rfl,World.ownsRow_nil _ _ _ _,aV.out⟩
 obtain⟨BS,BH,BL,Rb,a2,n,c,mm,hF,qL,Mv,IL,IM⟩:=h4.fm h3;have e1:mhi K0 []=zz:=rfl;have e2:mlo K0 []=zz:=rfl;rw[e1,e2] at hF;obtain⟨K,hK⟩ : ∃ K,K=canon K0:=⟨_,rfl⟩
 rw[<-hK] at hF;have hX:q52 K0=q3w K zz zz (K.map Cl.id):=by unfold q52;rw[h3,if_pos rfl,<-hK]
 have q0:=hF.fld.t0;have hlen:mm.length=n:=by
  obtain⟨_,_,_,he,_,_,h3,_⟩:=hF.fld.row.1;cases he
  rw[qt Ce.qp] at h3;omega
 have al:BH≠BL:=hF.fld.ne.2.2.2.2;have eQ:W.heap.size<=BH/\W.heap.size<=BL:=⟨IL,IM⟩
 have H:=lhd (aiq hF (aiq hX (aiq hlen (aiq al eQ))));clear h2 h3 h4 qL Mv IL IM e1 e2 hK hF hX hlen al eQ;go_wp2_with fail
 go_step3
 go_wp2_with fail;go_loopg [5,23] n (fun g so si wx=>∃ (k nn:Nat) (hi lo:Int->Int) (M:List (Int×Int)),k+g=n/\si = .int .i64 k/\nn<=k*5000/\M.length<=k/\Hid (Mst w1 wx K BH BL k so hi lo M nn))
 case atStart=>exact⟨0,0,zz,zz,[],by omega,rfl,by omega,nlr _,⟨World.ownsRow_nil _ _ _ _,by rw[List.drop_zero];rfl,H.out.1.mtc,H.out.1.ac,H.out.1.mH,H.out.1.mL,Gs.refl _ _⟩⟩
 case round =>
  obtain⟨k,nn,hi,lo,M,WX,rfl,uv,na,HS⟩:=hrel;cases gk with
  | zero =>
   obtain⟨vs,ns,cs,rfl⟩:=qg (Sl.qc HS.out.row);have hk:k=n:=by omega
   subst hk;go_wp2_with fail
   (try rw[Exit.noGoto_ret])
   go_ret;have he:q52 K0=M:=by rw[H.out.2.1,HS.out.eq,gY (by rw[gn,<-H.out.1.cl,gn,H.out.2.2.1];exact nlr _)];show M++[]=M;rw[gH]
   rw[he];refine⟨_,rfl,qf HS.out.row aV.out.size,aV.out.trans (HS.out.gs.below aV.out.size fun b hb=>?_)⟩;have:=H.out.2.2.2.2;have h2:=HB.out.size;rcases hb with rfl | rfl <;> omega
  | succ g =>
   obtain⟨vs,ns,cs,rfl⟩:=qg (Sl.qc HS.out.row);have vE:k < n:=by omega
   have lq:=H.out.1.fld.gs HS.out.gs;obtain⟨_,_,_,wa,y1,y2,y3,y4,y5⟩:=lq.row.1;cases wa
   obtain⟨ad,rfl⟩:=sadq y4 (by omega)
   obtain⟨x,hx⟩ : ∃ x,mm[k]? = some x:=⟨_,g8 (by rw[H.out.2.2.1];exact vE)⟩
   obtain⟨e0,e1,e2⟩:=zh mm k x hx;have d0:wr.cell? (ad.add (k*3))=some (.int .i64 x.id):=y5 ad rfl _ _ e0;have d1:wr.cell? ⟨(ad.add (k*3)).block,(ad.add (k*3)).off+1,none⟩=some (.int .i64 x.dim):=by rw[qi _ _ _ (by omega)];exact y5 ad rfl _ _ e1
   have d2:wr.cell? ⟨(ad.add (k*3)).block,(ad.add (k*3)).off+2,none⟩=some (.slice x.a x.n x.c):=by rw[qi _ _ _ (by omega)];exact y5 ad rfl _ _ e2
   have cG:=gh hx;have IS:x.id∈K.map Cl.id:=by rw[<-H.out.1.cl];exact gG (f:=Cl.id) (gG cG)
   have iH:=q4s H.out.1.cl H.out.1.ok IS;obtain⟨ci,MA⟩ : ∃ ci,ci=x.id:=⟨_,rfl⟩
   have zC:(K.map Cl.id).drop k=ci :: (K.map Cl.id).drop (k+1):=by
    have hl:k < (K.map Cl.id).length:=by rw[gn,<-H.out.1.cl,gn,H.out.2.2.1];exact vE
    rw[bf hl]
    congr 1
    have:(K.map Cl.id)[k]? = some ci:=by rw[<-H.out.1.cl,List.map_map,List.getElem?_map,hx,MA];rfl
    rw[g8 hl] at this;exact osi this
   rw[<-MA] at d0 IS iH;have Ha:n<=4000:=by have h1:=H.out.1.good.len;rw[<-H.out.1.cl,gn,H.out.2.2.1] at h1;exact h1
   have HK:=lhd (aiq IS (aiq iH (aiq zC lq)));clear y1 y2 y3 y4 y5 e0 e1 e2 hx cG IS iH MA zC lq;go_upto_region 8 with fail;obtain⟨V,hV⟩ : ∃ V,V=wr.alloc (.cells #[.int .i64 ci,.int .i64 x.dim,.slice x.a x.n x.c] 75):=⟨_,rfl⟩
   obtain⟨pc,oD⟩ : ∃ pc,pc=wr.heap.size:=⟨_,rfl⟩
   have z0:V.cell? ⟨pc,0,none⟩=some (.int .i64 ci):=by rw[hV,oD];exact qd wr _ _ (0,0) 0
   have aN:BwQ wr V:=by rw[hV];exact bal wr _
   rw[<-oD,<-hV];have t0:=(HK.out.2.2.2.q8 aN).t0;have B8:BwQ V V.drew:=qb (Below.refl _ V) 1;have dr:=fun (U:World) (hU:BwQ V U)=>qla (.slice (some ad) n c) mm ci U ((HK.out.2.2.2.q8 ((btr aN hU))).row) (by rw[H.out.2.2.1];omega) H.out.1.ok
   rw[H.out.1.cl] at dr;have xO:=lhd dr;have yA:Hid (∀ U,BwQ V U->U.cell? ⟨T,0,none⟩=some (.slice (some ad) n c)/\U.cell? ⟨pc,0,none⟩=some (.int .i64 ci)):=fun U hU=>⟨Cx.q8 hU t0,Cx.q8 hU z0⟩
   have sX:=lhd (aiq aN (aiq z0 oD));clear dr hV oD aN z0 t0 d0 d1 d2
   go_region_held_law (fun U=>U.cell? ⟨T,0,none⟩=some (.slice (some ad) n c)/\U.cell? ⟨pc,0,none⟩=some (.int .i64 ci)) (first | exact yA.out _ B8 | exact yA.out _ B9 | fail)
    (first | (go_at_call 99;refine(xO.out _ B8).mono ?_;rintro e w9 ⟨r9,rfl,eo,lS⟩;obtain⟨v9,n9,c9,rfl⟩:=qg (Sl.qc eo);have B9:BwQ V w9:=(btr B8 lS)))
   have BQ:BwQ wr w9:=(btr sX.out.1 B9);have WY:=lhd (HS.out.q8 BQ);obtain⟨ab,tJ⟩ : ∃ ab,ab=kd K ci:=⟨_,rfl⟩
   rw[<-tJ] at eo;have tL:n9=ab.length:=by obtain⟨_,_,_,he,_,_,h3,_⟩:=(Sl.qc eo);cases he;rw[xl] at h3;omega
   have WZ:n9<=4000:=by rw[tL,tJ];unfold kd;rw[gn,H.out.1.good.cells.2];exact gl (gQ _ _) H.out.1.good.len
   have Gc:∀ h∈ab,I64 h:=fun h hh=>by rw[tJ] at hh;obtain⟨y,hy,rfl⟩:=qiz hh;rw[H.out.1.good.cells.2] at hy;exact q4s H.out.1.cl H.out.1.ok (gG hy)
   have BR:BH < w1.heap.size/\BL < w1.heap.size:=⟨H.out.1.mH.lt,H.out.1.mL.lt⟩
   have Rq:w1.heap.size<=wr.heap.size:=HS.out.gs.size;have Gd:w9.cell? ⟨pc,0,none⟩=some (.int .i64 ci):=Cx.q8 B9 sX.out.2.1;have far:∀ U,Gs (HL BH BL) w9 U->U.cell? ⟨pc,0,none⟩=some (.int .i64 ci)/\Sl U 1 (.slice v9 n9 c9) (ints ab):=fun U hU=>by
    have oD:=sX.out.2.2;refine⟨hU.cell (fun e=>by rcases e with e | e <;> (have e:pc=_:=e) <;> omega) Gd,hU.sl (Sl.qc eo) fun Dd n' c' he _ hb=>?_⟩;have h2:=sX.out.1.size;obtain⟨g',IT,mW⟩ : ∃ g,(Value.slice v9 n9 c9).ownBlock=some g/\g=Dd.block:=by rw[he];exact⟨_,by cases Dd;rfl,rfl⟩
    have:=(eo.lt g' IT).1;have h3:=B8.size;rcases hb with hb | hb <;> omega
   have tM:=lhd far;have nG:=lhd (aiq tJ (aiq tL (aiq Gc (aiq BR (aiq Rq BQ)))));clear far eo tJ tL Gc BR Rq Gd BQ lS B9 B8 xO;go_wp2_with fail;go_loopg [5,35] n9 (fun gi so si wx=>∃ (j nj:Nat),j+gi=n9/\si = .int .i64 j/\so = .slice vs ns cs/\nj<=k*5000+j/\Hid (firstM K hi lo ci ab=firstM K hi lo ci (ab.drop j)/\Mst w1 wx K BH BL k (.slice vs ns cs) hi lo M nj/\Gs (HL BH BL) w9 wx))
   case atStart=>exact⟨0,nn,by omega,rfl,rfl,by omega,by rw[List.drop_zero],WY.out,Gs.refl _ _⟩
   case round =>
    obtain⟨j,nj,Xa,rfl,rfl,Z0,HI⟩:=hrel;cases gk with
    | zero =>
     have hj:¬ ((j:Int) < (n9:Int)):=by omega
     go_wp2_with fail;go_roundg g
     case measure=>omega
     case rel =>refine⟨k+1,nj,hi,lo,M,by omega,qh (by omega),by omega,by omega,(show Hid _ from ?_)⟩;obtain⟨i1,i2,i3⟩:=HI.out;refine⟨i2.row,?_,i2.mt,i2.ac,i2.mH,i2.mL,i2.gs⟩;rw[i2.eq,HK.out.2.2.1,jk];rw[<-nG.out.1,i1,gY (by rw[<-nG.out.2.1];omega)];rfl
    | succ gj =>
     have ur:j < n9:=by omega
     obtain⟨_,_,_,wa,y1,y2,y3,y4,y5⟩:=(tM.out wr HI.out.2.2).2;cases wa
     obtain⟨Rr,rfl⟩:=sadq y4 (by omega)
     obtain⟨h,hh⟩ : ∃ h,ab[j]? = some h:=⟨_,g8 (by rw[<-nG.out.2.1];exact ur)⟩
     have d0:wr.cell? (Rr.add j)=some (.int .i64 h):=y5 Rr rfl _ _ (by simp[ints,hh]);have p0:=(tM.out wr HI.out.2.2).1;have lu:=nG.out.2.2.1 h (gh hh);have Et:ab.drop j=h :: ab.drop (j+1):=by obtain⟨hl,he⟩:=ge.1 hh;rw[bf hl,he]
     have lq:=H.out.1.fld.gs HI.out.2.1.gs;have jM:=qih lq (by rw[H.out.1.cl];exact H.out.1.good.asc) HI.out.2.1.mH HI.out.2.1.mL ci h HK.out.2.1 lu;rw[H.out.1.cl] at jM;have tp:=lhd jM;have HH:=lhd (aiq Et (aiq lu lq));have t2:=lq.t2;have t3:=lq.t3;clear y1 y2 y3 y4 y5 hh Et lq jM lu;go_wp2_with fail;refine tp.out.mono ?_;rintro e om ⟨rfl,BT⟩;have BT:=BT.symm;subst BT;by_cases hf:kc K hi lo ci h=true
     case neg =>
      have hf:kc K hi lo ci h=false:=by simpa using hf
      have mq:=lhd hf;rw[hf];clear hf t2 t3 d0 p0;go_wp2_with fail;go_roundg gj
      case measure=>omega
      case rel =>refine⟨j+1,nj,by omega,qh (by omega),rfl,by omega,(show Hid _ from⟨?_,HI.out.2.1,HI.out.2.2⟩)⟩;rw[HI.out.1,HH.out.1,q4u (.inl mq.out)]
     have mq:=lhd hf;rw[hf];clear hf d0;go_upto_region 12 with fail;have Xb:BH < wr.heap.size/\BL < wr.heap.size:=⟨HI.out.2.1.mH.lt,HI.out.2.1.mL.lt⟩
     have uH:T≠BH/\T≠BL:=⟨H.out.1.fld.ne.1,H.out.1.fld.ne.2.1⟩
     have jN:∀ U,Gs (HL BH BL) wr.drew U->U.cell? ⟨T,2,none⟩=some (.map (some BH))/\U.cell? ⟨T,3,none⟩=some (.map (some BL))/\U.cell? ⟨pc,0,none⟩=some (.int .i64 ci):=fun U hU=>by
      have hT:¬ HL BH BL T:=fun e=>e.elim uH.1 uH.2
      have IU:Gs (HL BH BL) w9 U:=(HI.out.2.2.drew).trans hU;exact⟨hU.cell hT t2,hU.cell hT t3,(tM.out U IU).1⟩
     have KV:=lhd jN;obtain⟨hA,hB⟩:=qeg (w:=wr.drew) (HI.out.2.1.mH.q8 (qb (Below.refl _ wr) 1)) (HI.out.2.1.mL.q8 (qb (Below.refl _ wr) 1)) H.out.2.2.2.1 h ci HK.out.2.1 HH.out.2.1 (by unfold maxLen;omega) (by unfold maxLen;omega);unfold qbc at hA hB;obtain⟨vA,sA,Wh,QE,I5,⟨Wi,Wj,Wk,Wl,Wm,QF,I6,QG,I7,QH,F3⟩,Wn,Wo,Wp,Wq,Wr,Ws,Ma,QI,I8,QJ,I9,QK,F4,QL,IA,F8,tq⟩:=hA;obtain⟨vB,sB,Wu,QM,IB,⟨Wv,Ww,Wx,Wz,W6,QN,IC,QO,ID,QP,FB⟩,W7,W8,WA,WB,WC,WD,Mb,QQ,IE,QR,IF,QS,FC,QT,IG,FD,tr⟩:=hB;have aO:=lhd (aiq F3 (aiq F4 (aiq tq (aiq FB (aiq FC tr)))));clear jN Xb uH F3 F4 tq FB FC tr p0
     go_cut [47] from 45 to 62 (fun _ wx=>Hid (qiv wr.drew wx BH BL nj nj hi lo ci h h ci))
     case first =>
      rename_i J K2 hJ eu
      go_region_held (fun w'=>w'.cell? ⟨T,2,none⟩=some (.map (some BH))/\w'.cell? ⟨T,3,none⟩=some (.map (some BL))/\w'.cell? ⟨pc,0,none⟩=some (.int .i64 ci)) (first | exact KV.out _ (Gs.refl _ _) | exact KV.out _ I5 | exact KV.out _ I6 | exact KV.out _ I7 | exact KV.out _ I8 | exact KV.out _ I9 | exact KV.out _ IA | exact KV.out _ IB | exact KV.out _ IC | exact KV.out _ ID | exact KV.out _ IE | exact KV.out _ IF | exact KV.out _ IG | exact KV.out _ aO.out.1.2.2 | exact KV.out _ aO.out.2.1.2.2 | exact KV.out _ aO.out.2.2.1.2.2 | exact KV.out _ aO.out.2.2.2.1.2.2 | exact KV.out _ aO.out.2.2.2.2.1.2.2 | exact KV.out _ aO.out.2.2.2.2.2.2.2 | fail) (fail)
      all_goals
       ((try go_step);refine eu _ _ (Met.intro ?_);refine hJ _ _ ?_;(repeat apply Exists.intro);refine⟨?rel,rfl⟩)
       case rel=>first | exact aO.out.1 | exact aO.out.2.1 | exact aO.out.2.2.1 | exact aO.out.2.2.2.1 | exact aO.out.2.2.2.2.1 | exact aO.out.2.2.2.2.2
     case rest =>
      obtain⟨we,Ge,dF⟩:=hcut.out;have oZ:Gs (HL BH BL) w1 wc:=(HI.out.2.1.gs.drew).trans dF;have rA:Gs (HL BH BL) w9 wc:=(HI.out.2.2.drew).trans dF;have Gf:Gs (HL BH BL) wr wc:=((Gs.refl _ wr).drew).trans dF;have Rs:=(tM.out wc rA).1;have rB:=q9d H.out.1.good HI.out.2.1.mt mq.out;have Gg:=H.out.1.fld.gs oZ;have nH:=H.out.1.good;have Gh:h≠0:=by have:=(nH.q3h (q2c.1 mq.out).1).2.2;omega
      have Bu:=qax Gg (by rw[H.out.1.cl];exact nH.asc) H.out.1.ok we (fun d hd=>by rw[H.out.1.cl];exact q92 (rB.sg d hd)) ci (by rw[q35];exact Gh) HK.out.2.1 (by rw[H.out.1.cl];have h1:=q4r nH.few;have h2:=nH.len;unfold j6;omega)
      rw[H.out.1.cl] at Bu;have Mc:=lhd Bu;have jU:=Gf.row HI.out.2.1.row (fun b hb=>by have h1:=(HI.out.2.1.row.lt b hb).1;have h2:=nG.out.2.2.2.1;intro hh;rcases hh with hh | hh <;> omega)
      have HP:=lhd (aiq we (aiq Ge (aiq oZ (aiq rA (aiq rB (aiq Gg jU))))));clear we Ge oZ rA Gf rB Gg nH Gh Bu jU dF hcut QE I5 QF I6 QG I7 QH QI I8 QJ I9 QK QL IA F8 QM IB QN IC QO ID QP QQ IE QR IF QS QT IG FD t2 t3;go_wp2_with fail;refine Mc.out.mono ?_;rintro e pR ⟨q,rfl,hq,eN⟩;have HQ:=lhd hq;have nI:=lhd eN;have tO:=Cx.q8 eN Rs;have pe:=qa HP.out.2.2.2.2.2.2 eN;have MB:=HP.out.2.2.2.2.2.1.q8 eN;have t2:=MB.t2;have t3:=MB.t3;clear hq eN Rs MB;cases q with
      | false =>
       clear t2 t3;go_wp2_with (at_builtin;refine qo (W:=pR) rfl _ _ 48 rfl w1.heap.size 50 jw Tryz.underlying48 rfl (by decide) (by decide) _ M.length (pv M) rfl pe [.int .i64 ci,.int .i64 h] rfl rfl (q9j _ _) ?p2 (Below.refl _ _) ?p3 ?_)
       case p2=>omega
       case p3=>exact gl HP.out.2.2.1.size nI.out.size
       intro v' w' r1 r2 r3;have Xc:=lhd (aiq r1 (aiq r2 r3));obtain⟨vx,nx,cx,rfl⟩:=qg (Sl.qc r1);clear r1 r2 r3 pe;go_wp2_with fail;go_roundg g
       case measure=>omega
       case rel =>
        obtain⟨r1,r2,r3⟩:=Xc.out;obtain⟨we,Ge,oZ,rA,rB,Gg,jU⟩:=HP.out;have sy:∀ b,(Value.slice vs ns cs).ownBlock=some b->w1.heap.size<=b:=fun b hb=>(jU.lt b hb).1
        have BR:=nG.out.2.2.2.1;refine⟨k+1,nj+1,pu hi ci h,pu lo h ci,M++[(ci,h)],by omega,qh (by omega),by omega,by rw[gc];show M.length+1<=_;omega,(show Hid _ from⟨?_,?_,rB,?_,?_,?_,?_⟩)⟩
        ·rw[gc,show pv (M++[(ci,h)])=pv M++[.int .i64 ci,.int .i64 h] by simp[pv]];exact r1
        ·rw[HI.out.2.1.eq,HK.out.2.2.1,q00 (h:=h)]
         ·rw[gC];rfl
         ·rw[<-nG.out.1,HI.out.1,HH.out.1];exact vo mq.out fun hc=>absurd (HQ.out.2 hc) (by decide)
        ·exact qiq HI.out.2.1.ac fun hc=>absurd (HQ.out.2 hc) (by decide)
        ·exact(we.q8 nI.out).kept r2 (fun e=>by have:=sy BH e.symm;omega)
        ·exact(Ge.q8 nI.out).kept r2 (fun e=>by have:=sy BL e.symm;omega)
        ·exact(oZ.trans (Gs.xh nI.out)).grown r2 (fun b hb=>.inl (sy b hb))
      | true =>
       have m1:MpI pR.drew BH (nj+1) (pu hi ci h):=HP.out.1.q8 (qb nI.out 1);have m2:MpI pR.drew BL (nj+1) (pu lo h ci):=HP.out.2.1.q8 (qb nI.out 1);obtain⟨MC,Xd,Rt,MD⟩:=m1.del HK.out.2.1 0;have BV:=H.out.2.2.2.1;have m3:=m2.kept MD (fun e=>BV (osi e).symm);obtain⟨Ru,Z1,Gi,ME⟩:=m3.del HH.out.2.1 0;have Gj:=Rt.kept ME (fun e=>BV (osi e));have uH:T≠BH/\T≠BL:=⟨H.out.1.fld.ne.1,H.out.1.fld.ne.2.1⟩
       have Gk:Gs (HL BH BL) pR pR.drew:=(Gs.refl _ pR).drew;have tP:Gs (HL BH BL) pR MC:=Gk.ent MD (.inl rfl);have wE:Gs (HL BH BL) pR Ru:=tP.ent ME (.inr rfl);have MF:¬ HL BH BL T:=fun e=>e.elim uH.1 uH.2
       have Rv:=tP.cell MF t2;have Z2:=tP.cell MF t3;have h9:Gs (HL BH BL) w9 MC:=(HP.out.2.2.2.1.trans (Gs.xh nI.out)).trans tP;have pd:=(tM.out MC h9).1;have HD:=lhd (aiq Gj (aiq Gi wE));clear m1 m2 Rt MD m3 ME Gi Gj BV uH Gk tP wE MF h9 pe;go_upto_region 15 with fail
       go_region_held (fun U=>U.cell? ⟨T,2,none⟩=some (.map (some BH))/\U.cell? ⟨pc,0,none⟩=some (.int .i64 ci)) (first | exact⟨t2,tO⟩ | exact⟨Rv,pd⟩ | fail) (fail)
       all_goals
        clear t2 t3 tO Xd Rv pd;go_wp2_with fail;go_roundg gj
        case measure=>omega
        case rel =>
         obtain⟨Gj,Gi,wE⟩:=HD.out;obtain⟨we,Ge,oZ,rA,rB,Gg,jU⟩:=HP.out;obtain⟨f1,f2,f3,f4,f5⟩:=q2c.1 mq.out;rw[qej f2] at Gj;rw[qej f5] at Gi;have sW:Gs (HL BH BL) wc Ru:=(Gs.xh nI.out).trans wE;refine⟨j+1,nj+1,by omega,qh (by omega),rfl,by omega,(show Hid _ from⟨?_,⟨?_,HI.out.2.1.eq,HI.out.2.1.mt,HI.out.2.1.ac,Gj,Gi,oZ.trans sW⟩,rA.trans sW⟩)⟩
         ·rw[HI.out.1,HH.out.1];exact q4u (.inr (HQ.out.1 trivial))
         ·refine sW.row jU fun b hb hh=>?_
          have h1:=(jU.lt b hb).1;have h2:=nG.out.2.2.2.1;rcases hh with hh | hh <;> omega
end Go.Proofs.YtlhicnfeajejhaaGreatDoor
namespace Go.Proofs.YtlhicnfeajejhaaGreatDoor
open Go.RowKit Go.Cx
inductive Mok
 | any
 | tt
 | val (v:Value)
 | cx (K:List Cl)
 | prs (l:List (Int×Int))
 | idl (l:List Int)
 | ch (L:List (Int×Int))
 | cel (x:Int)
 | mat (r c:Nat) (l:List Int)
def Mok.holds:Mok->Value->World->Prop
 | .any,_,_=>True
 | .tt,v,_=>v = .bool true
 | .val x,v,_=>v=x
 | .cx K,v,w=>∃ u l,v = .agg #[u]/\SlC w u l/\l.map Ce.cl=K
 | .prs l,v,w=>Sl w 2 v (pv l)
 | .idl l,v,w=>Sl w 1 v (ints l)
 | .ch L,v,w=>Sl w 3 v (tv (ctm L))
 | .cel x,v,w=>∃ p,v = .pointer (some p)/\w.cell? p=some (.int .i64 x)
 | .mat r c l,v,w=>∃ u,v = .agg #[.int .i64 r,.int .i64 c,u]/\Sl w 2 u (wvs l)
theorem Mok.q8 {k:Mok} {v:Value} {w w':World} (h:k.holds v w) (hb:BwQ w w'):k.holds v w':=by
 cases k with
 | any=>trivial
 | tt=>exact h
 | val x=>exact h
 | cx K=>obtain⟨u,l,h1,h2,h3⟩:=h;exact⟨u,l,h1,h2.mono fun p u hc=>Cx.q8 hb hc,h3⟩
 | prs l=>exact Sl.q8 h hb
 | idl l=>exact Sl.q8 h hb
 | ch L=>exact Sl.q8 h hb
 | cel x=>obtain⟨p,h1,h2⟩:=h;exact⟨p,h1,Cx.q8 hb h2⟩
 | mat r c l=>obtain⟨u,h1,h2⟩:=h;exact⟨u,h1,h2.q8 hb⟩
def Gvs (k:Mok) (w:World) (e:Ending) (w':World):Prop:=∃ r,e = .returned r/\k.holds r w'/\BwQ w w'
section
variable {P:Program} {Q:Exit->Act->World->Prop} {o:Oper} {a:Act} {w:World} {k:Mok}
def Stm (P:Program) (Q:Exit->Act->World->Prop) (k:Mok) (o:Oper) (a:Act) (w:World):Prop:=Oper.wp P o a w (fun a' w''=>∃ v,a'=a.put o.dst v/\k.holds v w''/\BwQ w w'') Q
theorem jf (x:Operand) (bJ:o.op = .move x\/o.op = .assign x) (h:k.holds (a.eval x) w):Stm P Q k o a w:=q1b x bJ ⟨_,rfl,h,Below.refl _ _⟩
theorem jx (c x y:Operand) (bJ:o.op = .pick c x y) (hc:a.eval c = .bool true) (h:k.holds (a.eval x) w):Stm P Q k o a w:=qka c x y bJ hc ⟨_,rfl,h,Below.refl _ _⟩
theorem xz (f:Nat) (xs:Array Operand) (ts:Array TypeId) (bJ:o.op = .call { callee:=.value (.func f),args:=xs,argTypes:=ts }) (ef:∀ args w,(callFunc f args).run P w = .ok (.enter f args) w)
  (vs:Array Value) (hv:xs.map a.eval=vs) (h:Calls P f vs w (Gvs k w)):Stm P Q k o a w :=
 qdj f xs ts bJ ef vs hv (h.mono fun _ _ ⟨r,he,hk,hb⟩=>⟨r,he,r,rfl,hk,hb⟩)
theorem zr (t:Nat) (x:Operand) (bJ:o.op = .load t x) (v1:Value) (h1:a.eval x=v1) (v:Value) (cB:(Instr.loadAt t v1).run P w = .ok v w) (h:k.holds v w):Stm P Q k o a w:=q8o t x bJ v1 h1 v cB ⟨_,rfl,h,Below.refl _ _⟩
theorem jo (t:Nat) (parts:Array (Nat×Operand)) (bJ:o.op = .build t parts) (ir:Array (Nat×Value)) (hp:parts.map (fun p=>(p.1,a.eval p.2))=ir) (v:Value)
  (cB:(Instr.build t ir).run P w = .ok v w) (h:k.holds v w):Stm P Q k o a w:=qh5 t parts bJ ir hp v cB ⟨_,rfl,h,Below.refl _ _⟩
theorem kx (op:BinOp) (t t2:Nat) (x y:Operand) (bJ:o.op = .binOp op t x y t2) (v1 v2:Value) (h1:a.eval x=v1) (h2:a.eval y=v2) (v:Value) (he:(eqGuard op t x y v1 v2).run P w = .ok () w) (cB:(Go.binOp op t v1 v2).run P w = .ok v w) (h:k.holds v w):Stm P Q k o a w :=
 qnf op t t2 x y bJ v1 v2 h1 h2 v he cB ⟨_,rfl,h,Below.refl _ _⟩
theorem q2x (t n:Nat) (parts:Array (Nat×Operand)) (bJ:o.op = .buildSlice t n parts) (ir:Array (Nat×Value)) (hp:parts.map (fun p=>(p.1,a.eval p.2))=ir) (cells:Array Value) (e:TypeId)
  (cB:(Instr.buildSlice t n ir).run P w = .ok (.slice (some ⟨w.heap.size,0,none⟩) n n) (w.alloc (.cells cells e))) (h:k.holds (.slice (some ⟨w.heap.size,0,none⟩) n n) (w.alloc (.cells cells e))):Stm P Q k o a w :=
 q5z t n parts bJ ir hp _ _ cB ⟨_,rfl,h,bal _ _⟩
end
theorem q5h {Q:Exit->Act->World->Prop} {o:Oper} {a:Act} {w:World} (x:Operand) (l:List Int) (bJ:o.op = .call { callee:=.builtin .len,args:=#[x],argTypes:=#[22] }) (h:(Mok.idl l).holds (a.eval x) w):Stm Tryz.prog Q (.val (.int .i64 l.length)) o a w:=by
 obtain⟨ad,n,c,he,_,_,h3,_⟩:=h;rw[xl] at h3;have hn:n=l.length:=by omega
 subst hn;exact qi5 x bJ Tryz.underlying22 ad _ c he ⟨_,rfl,rfl,Below.refl _ _⟩
theorem qj0 {Q:Exit->Act->World->Prop} {o:Oper} {a:Act} {w:World} (x y:Operand) (z:Int) (l:List Int) (bJ:o.op = .indexAddr 22 x y) (hy:a.eval y = .int .i64 0) (h:(Mok.idl (z :: l)).holds (a.eval x) w):Stm Tryz.prog Q (.cel z) o a w:=by
 obtain⟨ad,n,c,he,h1,h2,h3,h4,h5⟩:=h;rw[xl] at h3;have hn:n=l.length+1:=by simp at h3;omega
 subst hn;cases ad with
 | none=>have:=h4 rfl;omega
 | some p =>
  have hc:=h5 p rfl 0 _ rfl;have hp:p.add 0=p:=by unfold Addr.add;simp
  rw[hp] at hc;refine qc9 22 x y bJ _ _ he hy (.pointer (some p)) ?_ ⟨_,rfl,⟨p,rfl,hc⟩,Below.refl _ _⟩;have g2:(0:Int) < ((l.length+1:Nat):Int):=by omega
  have g3:(((0:Int)).toNat)=0:=rfl;simp[go_sem,hp]
def tmV (c x:Int):Value:=.agg #[.int .i64 c,.bool (decide (x < 0)),.string (mg x)]
theorem qoh (w:World) (c x:Int):(Instr.build 71 #[(0,.int .i64 c),(1,wv x)]).run Tryz.prog w = .ok (tmV c x) w:=by show (Instr.build 71 #[(0,.int .i64 c),(1,.agg #[.bool (decide (x < 0)),.string (mg x)])]).run Tryz.prog w=_;unfold tmV;simp[go_sem]
theorem qfx (w:World) (x y:Int):(Instr.build 50 #[(0,.int .i64 x),(1,.int .i64 y)]).run Tryz.prog w = .ok (.agg #[.int .i64 x,.int .i64 y]) w:=by simp[go_sem]
section
variable (v u:Value) (K:List Cl) (ps:List (Int×Int)) (w:World) (h:(Mok.cx K).holds v w) (hK:KOk K) (hl:K.length<=1000)
include h hK hl
theorem qj1 (M:List (Int×Int)) (hM:q52 K=M):Calls Tryz.prog 39 #[v] w (Gvs (.prs M) w):=by
 obtain⟨x,l,rfl,h1,h2⟩:=h;have bL:l.length<=1000:=by rw[<-h2,gn] at hl;exact hl
 refine(qm1 x l w h1 (by omega) (hK.cok h2)).mono ?_;rintro e w' ⟨r,rfl,hr,hb⟩;rw[h2,hM] at hr;exact⟨r,rfl,Sl.qc hr,hb⟩
variable (k:(Mok.prs ps).holds u w) (hp:∀ p∈ps,I64 p.1/\I64 p.2)
include k hp
theorem qcw (E:Int) (hE:opE K ps=E):Calls Tryz.prog 43 #[v,u] w (Gvs (.val (.int .i64 E)) w):=by
 obtain⟨x,l,rfl,h1,h2⟩:=h;have bL:l.length<=1000:=by rw[<-h2,gn] at hl;exact hl
 refine(qlz x u l ps w h1 (by omega) (hK.cok h2) k hp).mono ?_;rintro e w' ⟨rfl,hb⟩;rw[h2,hE];exact⟨_,rfl,rfl,hb⟩
theorem qbf (d:Int) (I:List Int) (hI:yt K ps d=I):Calls Tryz.prog 45 #[v,u,.int .i64 d] w (Gvs (.idl I) w):=by
 obtain⟨x,l,rfl,h1,h2⟩:=h;have bL:l.length<=1000:=by rw[<-h2,gn] at hl;exact hl
 refine(qcv x u l ps w h1 (by omega) (hK.cok h2) k hp d).mono ?_;rintro e w' ⟨r,rfl,hr,hb⟩;rw[h2,hI] at hr;exact⟨r,rfl,Sl.qc hr,hb⟩
theorem qmo (c:Value) (L M:List (Int×Int)) (hc:(Mok.ch L).holds c w) (hL:LOk 100 L) (kP:L.length<=1000) (hM:Cn M) (hf:q4t K ps (co L)=co M):Calls Tryz.prog 51 #[v,u,c] w (Gvs (.ch M) w):=by
 obtain⟨x,l,rfl,h1,h2⟩:=h;have bL:l.length<=1000:=by rw[<-h2,gn] at hl;exact hl
 refine(qm0 x u l ps w h1 (by omega) (hK.cok h2) k hp c (ctm L) 100 hc hL.tok (by rw[qz];omega)).mono ?_;rintro e w' ⟨r,N,rfl,hN,bK,hr,_,_,hb⟩;rw[h2,zv,hf] at bK;have:=Cn.uniq hN hM fun c=>congrFun bK c
 subst this;exact⟨r,rfl,Sl.qc hr,hb⟩
theorem kUp (d:Int) (hd:I64 d) (M:List (Int×Int)) (hM:Cn M) (hf:upX K ps d=co M):Calls Tryz.prog 46 #[v,u,.int .i64 d] w (Gvs (.ch M) w):=by
 obtain⟨x,l,rfl,h1,h2⟩:=h;have bL:l.length<=1000:=by rw[<-h2,gn] at hl;exact hl
 refine(qpf x u l ps w h1 (by omega) (hK.cok h2) k hp d hd).mono ?_;rintro e w' ⟨r,N,rfl,hN,bK,hr,_,_,hb⟩;rw[h2,hf] at bK;have:=Cn.uniq hN hM fun c=>congrFun bK c
 subst this;exact⟨r,rfl,Sl.qc hr,hb⟩
end
theorem qj2 (v u:Value) (L:List (Int×Int)) (w:World) (h:(Mok.ch L).holds v w) (k:(Mok.ch L).holds u w):Calls Tryz.prog 23 #[v,u] w (Gvs .tt w):=by refine(svSame' v u L w h k).mono ?_;rintro e w' ⟨r,rfl,hr,hb⟩;exact⟨r,rfl,hr,hb⟩
theorem qj3 (v u:Value) (l:List (Int×Int)) (w:World) (h:(Mok.prs l).holds v w) (k:(Mok.prs l).holds u w):Calls Tryz.prog 41 #[v,u] w (Gvs .tt w):=by refine(qo7 v u l l w h k).mono ?_;rintro e w' ⟨q,rfl,hq,hb⟩;exact⟨_,rfl,congrArg Value.bool (hq.2 rfl),hb⟩
theorem qm2 (x:Int) (w:World):Calls Tryz.prog 52 #[.int .i64 x] w (Gvs (.ch [(x,1)]) w) :=
 (qpa x w).mono fun _ _ ⟨r,he,hs,hb⟩=>⟨r,he,hs,hb⟩
theorem qmp (x:Int) (w:World) (h:I64 x):Calls Tryz.prog 29 #[.int .i64 x] w (Gvs (.val (wv x)) w) :=
 (q58 x w h.1 h.2).mono fun _ _ ⟨he,hb⟩=>⟨_,he,rfl,hb⟩
theorem q0f:∀ args w,(callFunc 43 args).run Tryz.prog w = .ok (.enter 43 args) w:=q7b Tryz.func43 (by kernel_rfl) (by kernel_rfl)
theorem je:∀ args w,(callFunc 45 args).run Tryz.prog w = .ok (.enter 45 args) w:=q7b Tryz.func45 (by kernel_rfl) (by kernel_rfl)
theorem q36:∀ args w,(callFunc 51 args).run Tryz.prog w = .ok (.enter 51 args) w:=q7b Tryz.func51 (by kernel_rfl) (by kernel_rfl)
theorem qbg:∀ args w,(callFunc 46 args).run Tryz.prog w = .ok (.enter 46 args) w:=q7b Tryz.func46 (by kernel_rfl) (by kernel_rfl)
theorem ky:∀ args w,(callFunc 52 args).run Tryz.prog w = .ok (.enter 52 args) w:=q7b Tryz.func52 (by kernel_rfl) (by kernel_rfl)
end Go.Proofs.YtlhicnfeajejhaaGreatDoor
namespace Go.Cx
open Go.Proofs.YtlhicnfeajejhaaGreatDoor
theorem yu:canon K1=K1:=by rw[<-q3x];exact yh _ _
theorem jy:canon K2=K2:=by rw[<-q3y];exact yh _ _
def m1:List (Int×Int):=[(1,4),(2,6),(5,7)]
def m2:List (Int×Int):=[(1,4),(2,6)]
theorem qj4:opE K1 m1=0:=by unfold opE;rw[qcg,if_pos rfl,yu];exact qnr
theorem qpg:opE K2 m2=0:=by unfold opE;rw[q4h,if_pos rfl,jy];exact qns
theorem qq8:opE K2 [(1,4),(2,6),(3,5)]=43:=by unfold opE;rw[q4h,if_pos rfl,jy];exact qnt
theorem qq9:opE K2 [(1,4),(1,5)]=42:=by unfold opE;rw[q4h,if_pos rfl,jy];exact qnu
theorem qqa:opE K2 [(1,6)]=42:=by unfold opE;rw[q4h,if_pos rfl,jy];exact qnv
theorem qbh:mhi K1 m1=hi1:=by unfold mhi;rw[yu,show xk K1 zz zz m1=some (hi1,lo1) from qci];rfl
theorem qbi:mlo K1 m1=lo1:=by unfold mlo;rw[yu,show xk K1 zz zz m1=some (hi1,lo1) from qci];rfl
theorem qj5:mhi K2 m2=hi2:=by unfold mhi;rw[jy,show xk K2 zz zz m2=some (hi2,lo2) from qcj];rfl
theorem qmq:mlo K2 m2=lo2:=by unfold mlo;rw[jy,show xk K2 zz zz m2=some (hi2,lo2) from qcj];rfl
theorem qph:yt K1 m1 0=[3]:=by unfold yt;rw[if_pos qj4,qbh,qbi,yu];exact qck.1
theorem qpi:yt K1 m1 1=[]:=by unfold yt;rw[if_pos qj4,qbh,qbi,yu];exact qck.2.1
theorem qpj:yt K1 m1 2=[]:=by unfold yt;rw[if_pos qj4,qbh,qbi,yu];exact qck.2.2
theorem qpk:yt K2 m2 1=[5]:=by unfold yt;rw[if_pos qpg,qj5,qmq,jy];exact qny
theorem qqb:q52 K1=m1:=by unfold q52;rw[qcg,if_pos rfl,yu];exact qnw
theorem qqc:q52 K2=m2:=by unfold q52;rw[q4h,if_pos rfl,jy];exact qnx
theorem qqd:q4t K1 m1 (co [(1,1)])=co [(3,1)]:=by unfold q4t;rw[if_pos qj4,qbh,qbi,yu,Go.Proofs.YtlhicnfeajejhaaGreatDoor.vg,Go.Proofs.YtlhicnfeajejhaaGreatDoor.vg];exact qob
theorem qqe:q4t K1 m1 (co [(2,1)])=co [(3,1)]:=by unfold q4t;rw[if_pos qj4,qbh,qbi,yu,Go.Proofs.YtlhicnfeajejhaaGreatDoor.vg,Go.Proofs.YtlhicnfeajejhaaGreatDoor.vg];exact qoc
theorem qqf:upX K2 m2 5=co [(4,-1),(5,1),(6,-1)]:=by
 unfold upX;rw[if_pos ⟨qpg,by rw[jy];decide,by rw[qj5,qmq];decide⟩,qj5,jy,qq6];funext d
 show _=(if (4:Int)=d then -1 else 0)+((if (5:Int)=d then 1 else 0)+((if (6:Int)=d then -1 else 0)+0))
 by_cases h4:d=4
 ·subst h4;rfl
 ·by_cases h5:d=5
  ·subst h5;rfl
  ·by_cases h6:d=6
   ·subst h6;rfl
   ·rw[if_neg h5,if_neg h4,if_neg h6,if_neg (fun e=>h4 e.symm),if_neg (fun e=>h5 e.symm),if_neg (fun e=>h6 e.symm)];rfl
end Go.Cx
namespace Go.Proofs.YtlhicnfeajejhaaGreatDoor
open Go.RowKit Go.Cx
theorem q6x:KOk K1:=qkt
theorem q89:KOk K2:=fun x hx=>q6x x (by
 simp only [K2,List.mem_cons,List.not_mem_nil,or_false] at hx;simp only [K1,List.mem_cons,List.not_mem_nil,or_false];rcases hx with h | h | h | h | h | h
 ·exact .inl h
 ·exact .inr (.inl h)
 ·exact .inr (.inr (.inl h))
 ·exact .inr (.inr (.inr (.inl h)))
 ·exact .inr (.inr (.inr (.inr (.inl h))))
 ·exact .inr (.inr (.inr (.inr (.inr (.inl h))))))
theorem q37 {ps:List (Int×Int)} (h:∀ p∈ps,(0<=p.1/\p.1<=100)/\0<=p.2/\p.2<=100):∀ p∈ps,I64 p.1/\I64 p.2:=fun p hp=>by have:=h p hp;unfold I64;omega
theorem qoi (w:World) (s:List Int) (n:Nat) (hn:s.length=n) (hl:n<=100):SlI ((w.alloc (.cells (ints s).toArray 3)).alloc (.cells #[.slice (some ⟨w.heap.size,0,none⟩) n n] 22)) (.slice (some ⟨w.heap.size+1,0,none⟩) 1 1) [s]:=by
 have h1:=q13 w 3 1 (ints s) n (by rw[xl,hn,gL]) (by unfold maxLen;omega);have h2:=q13 (w.alloc (.cells (ints s).toArray 3)) 22 1 [.slice (some ⟨w.heap.size,0,none⟩) n n] 1 rfl (by unfold maxLen;omega);(try simp only[BwQ] at h2);rw[World.size_alloc] at h2;refine⟨_,h2,rfl,fun i u l hu hl=>?_⟩;cases i with
 | zero=>simp at hu hl;subst hu hl;exact h1.alloc _
 | succ i=>simp at hu
theorem qqg (w:World) (a b c:List Int) (ha:a.length=2) (hb:b.length=2) (hc:c.length=2) :
  SlI ((((w.alloc (.cells (ints a).toArray 3)).alloc (.cells (ints b).toArray 3)).alloc (.cells (ints c).toArray 3)).alloc (.cells #[.slice (some ⟨w.heap.size,0,none⟩) 2 2,.slice (some ⟨w.heap.size+1,0,none⟩) 2 2,.slice (some ⟨w.heap.size+1+1,0,none⟩) 2 2] 22)) (.slice (some ⟨w.heap.size+1+1+1,0,none⟩) 3 3) [a,b,c]:=by
 have h1:=q13 w 3 1 (ints a) 2 (by rw[xl,ha]) (by unfold maxLen;omega);have h2:=q13 (w.alloc (.cells (ints a).toArray 3)) 3 1 (ints b) 2 (by rw[xl,hb]) (by unfold maxLen;omega);have h3:=q13 ((w.alloc (.cells (ints a).toArray 3)).alloc (.cells (ints b).toArray 3)) 3 1 (ints c) 2 (by rw[xl,hc]) (by unfold maxLen;omega);have h4:=q13 (((w.alloc (.cells (ints a).toArray 3)).alloc (.cells (ints b).toArray 3)).alloc (.cells (ints c).toArray 3)) 22 1 [.slice (some ⟨w.heap.size,0,none⟩) 2 2,.slice (some ⟨w.heap.size+1,0,none⟩) 2 2,.slice (some ⟨w.heap.size+1+1,0,none⟩) 2 2] 3 rfl (by unfold maxLen;omega);(try simp only[BwQ]at h2 h3 h4);simp only [World.size_alloc] at h2 h3 h4;refine⟨_,h4,rfl,fun i u l hu hl=>?_⟩
 match i,hu,hl with
 | 0,hu,hl=>simp at hu hl;subst hu hl;exact((h1.alloc _).alloc _).alloc _
 | 1,hu,hl=>simp at hu hl;subst hu hl;exact(h2.alloc _).alloc _
 | 2,hu,hl=>simp at hu hl;subst hu hl;exact h3.alloc _
 | i+3,hu,hl=>simp at hu
attribute [local go_sem ↓] Go.wp_at_zero Go.wp_at_succ
def tc6:List Mok:=[.cx K1,.prs m1,.idl [3],.cx K2,.prs m2,.idl [5],.idl [3],.idl [5]]
def tc8:List Mok:=[.val (wv (-1)),.val (tmV 4 (-1)),.val (wv 1),.val (tmV 5 (1)),.val (wv (-1)),.val (tmV 6 (-1)),.ch [(4,-1),(5,1),(6,-1)],.ch [(4,-1),(5,1),(6,-1)]]
def tc9:List Mok:=[.idl [3],.val (.int .i64 1),.tt,.tt,.idl [3],.cel 3,.val (.int .i64 3),.tt,.tt,.tt,.cx K1,.prs m1,.idl [],.val (.int .i64 0),.cx K1,.prs m1,.idl [],.val (.int .i64 0),.val (.int .i64 0),.tt,.tt,.tt,.cx K1,.prs m1,.ch [(1,1)],.ch [(3,1)],.ch [(3,1)],.tt,.tt,.tt,.cx K1,.prs m1,.ch [(2,1)],.ch [(3,1)],.ch [(3,1)],.tt,.tt,.tt,.idl [5],.val (.int .i64 1),.tt,.tt,.tt,.idl [5],.cel 5,.val (.int .i64 5),.tt,.tt,.tt,.cx K2,.prs m2,.ch [(4,-1),(5,1),(6,-1)],.ch [(4,-1),(5,1),(6,-1)],.tt,.tt,.tt,.cx K2,.val (.agg #[.int .i64 1,.int .i64 4]),.val (.agg #[.int .i64 2,.int .i64 6]),.val (.agg #[.int .i64 3,.int .i64 5]),.prs [(1,4),(2,6),(3,5)],.val (.int .i64 43),.tt,.tt,.tt,.cx K2,.val (.agg #[.int .i64 1,.int .i64 4]),.val (.agg #[.int .i64 1,.int .i64 5]),.prs [(1,4),(1,5)],.val (.int .i64 42),.tt,.tt,.tt,.cx K2,.val (.agg #[.int .i64 1,.int .i64 6]),.prs [(1,6)],.val (.int .i64 42),.tt,.tt,.tt]
theorem qj6 (a:Act) (i j k:Nat) (x y z:Value) (h1:a.tmps.getD i undef=x) (h2:a.tmps.getD j undef=y) (h3:a.tmps.getD k undef=z):(#[(0,Operand.tmp i),(1,Operand.tmp j),(2,Operand.tmp k)] : Array (Nat×Operand)).map (fun p=>(p.1,a.eval p.2))=#[(0,x),(1,y),(2,z)]:=by rw[<-h1,<-h2,<-h3];simp[Act.eval]
theorem qqh (a:Act) (i j:Nat) (x y:Value) (h1:a.tmps.getD i undef=x) (h2:a.tmps.getD j undef=y):(#[(0,Operand.tmp i),(1,Operand.tmp j)] : Array (Nat×Operand)).map (fun p=>(p.1,a.eval p.2))=#[(0,x),(1,y)]:=by rw[<-h1,<-h2];simp[Act.eval]
theorem qpl (a:Act) (i:Nat) (x:Value) (h1:a.tmps.getD i undef=x):(#[(0,Operand.tmp i)] : Array (Nat×Operand)).map (fun p=>(p.1,a.eval p.2))=#[(0,x)]:=by rw[<-h1];simp[Act.eval]
theorem qoj (a:Act) (c:Value) (i:Nat) (x:Value) (h1:a.tmps.getD i undef=x):(#[(0,Operand.const c),(1,Operand.tmp i)] : Array (Nat×Operand)).map (fun p=>(p.1,a.eval p.2))=#[(0,c),(1,x)]:=by rw[<-h1];simp[Act.eval]
theorem qqi (w:World) (a b c x y z:Int):(Instr.buildSlice 32 3 #[(0,tmV a x),(1,tmV b y),(2,tmV c z)]).run Tryz.prog w = .ok (.slice (some ⟨w.heap.size,0,none⟩) 3 3) (w.alloc (.cells (tv (ctm [(a,x),(b,y),(c,z)])).toArray 71)):=by
 have key:∀ a b c a' b' c' BW MG MH:Value,(Instr.buildSlice 32 3 #[(0,.agg #[a,a',BW]),(1,.agg #[b,b',MG]),(2,.agg #[c,c',MH])]).run Tryz.prog w = .ok (.slice (some ⟨w.heap.size,0,none⟩) 3 3) (w.alloc (.cells #[a,a',BW,b,b',MG,c,c',MH] 71)):=fun a b c a' b' c' BW MG MH =>q2p _ _ 71 _ _ _ _ 3 32 Tryz.underlying32 Tryz.xm (by decide) (by decide) (by kernel_rfl)
 exact key _ _ _ _ _ _ _ _ _
theorem qqj (w:World) (a b c x y z:Int):(Instr.buildSlice 48 3 #[(0,.agg #[.int .i64 a,.int .i64 x]),(1,.agg #[.int .i64 b,.int .i64 y]),(2,.agg #[.int .i64 c,.int .i64 z])]).run Tryz.prog w = .ok (.slice (some ⟨w.heap.size,0,none⟩) 3 3) (w.alloc (.cells (pv [(a,x),(b,y),(c,z)]).toArray 50)):=by
 have key:∀ a b c a' b' c':Value,(Instr.buildSlice 48 3 #[(0,.agg #[a,a']),(1,.agg #[b,b']),(2,.agg #[c,c'])]).run Tryz.prog w = .ok (.slice (some ⟨w.heap.size,0,none⟩) 3 3) (w.alloc (.cells #[a,a',b,b',c,c'] 50)):=fun a b c a' b' c' =>q2p _ _ 50 _ _ _ _ 2 16 Tryz.underlying48 jw (by decide) (by decide) (by kernel_rfl)
 exact key _ _ _ _ _ _
theorem qqk (w:World) (a b x y:Int):(Instr.buildSlice 48 2 #[(0,.agg #[.int .i64 a,.int .i64 x]),(1,.agg #[.int .i64 b,.int .i64 y])]).run Tryz.prog w = .ok (.slice (some ⟨w.heap.size,0,none⟩) 2 2) (w.alloc (.cells (pv [(a,x),(b,y)]).toArray 50)):=by
 have key:∀ a b a' b':Value,(Instr.buildSlice 48 2 #[(0,.agg #[a,a']),(1,.agg #[b,b'])]).run Tryz.prog w = .ok (.slice (some ⟨w.heap.size,0,none⟩) 2 2) (w.alloc (.cells #[a,a',b,b'] 50)):=fun a b a' b' =>q2p _ _ 50 _ _ _ _ 2 16 Tryz.underlying48 jw (by decide) (by decide) (by kernel_rfl)
 exact key _ _ _ _
theorem qpm (w:World) (a x:Int):(Instr.buildSlice 48 1 #[(0,.agg #[.int .i64 a,.int .i64 x])]).run Tryz.prog w = .ok (.slice (some ⟨w.heap.size,0,none⟩) 1 1) (w.alloc (.cells (pv [(a,x)]).toArray 50)):=by
 have key:∀ a a':Value,(Instr.buildSlice 48 1 #[(0,.agg #[a,a'])]).run Tryz.prog w = .ok (.slice (some ⟨w.heap.size,0,none⟩) 1 1) (w.alloc (.cells #[a,a'] 50)):=fun a a' =>q2p _ _ 50 _ _ _ _ 2 16 Tryz.underlying48 jw (by decide) (by decide) (by kernel_rfl)
 exact key _ _
theorem qpn (w:World):(Go.binOp .add 3 (.int .i64 0) (.int .i64 0)).run Tryz.prog w = .ok (.int .i64 0) w:=by
 have h:IntKind.i64.wrap 0=0:=by decide
 simp[go_sem,h]
theorem qbj (w:World) (t:Nat) (x:Int) (h:t=3\/t=61):(Go.binOp .eql t (.int .i64 x) (.int .i64 x)).run Tryz.prog w = .ok (.bool true) w:=by rcases h with rfl | rfl <;> simp[go_sem]
structure San (w W:World) (q1 q2:Nat) (x1 x2 y1 y2:Value):Prop where
 b1:Bv W q1 x1
 b2:Bv W q2 x2
 c1:(Mok.cx K1).holds (.agg #[x1]) W
 c2:(Mok.cx K2).holds (.agg #[x2]) W
 p1:(Mok.prs m1).holds y1 W
 p2:(Mok.prs m2).holds y2 W
 bl:BwQ w W
theorem San.q8 {w W V:World} {q1 q2:Nat} {x1 x2 y1 y2:Value} (h:San w W q1 q2 x1 x2 y1 y2) (hb:BwQ W V):San w V q1 q2 x1 x2 y1 y2 :=
 ⟨h.b1.q8 hb,h.b2.q8 hb,Mok.q8 h.c1 hb,Mok.q8 h.c2 hb,Mok.q8 h.p1 hb,Mok.q8 h.p2 hb,(btr h.bl hb)⟩
theorem qj7 (w:World) :
  Calls Tryz.prog 38 #[] w fun e w'=>e = .returned (.bool true)/\BwQ w w':=by
 go_enter Tryz.func38,Tryz.ntmps38;go_wp2_with fail;refine(q1e _ [[0,1,2]] _ (qoi w [0,1,2] 3 rfl (by omega)) (by decide) (by decide)).mono ?_;rintro e w1 ⟨r1,m,rfl,hm,hR,ai⟩;rw[q3x] at hm;obtain⟨ua,uc,AD⟩:=qj hR.1;subst AD;have bT:BwQ w ((w.alloc (.cells #[.int .i64 0,.int .i64 1,.int .i64 2] 3)).alloc (.cells #[.slice (some ⟨w.heap.size,0,none⟩) 3 3] 22)):=(bal w _).alloc (by simp) _;have ak:BwQ w w1:=(btr bT ai);have IV:=lhd (aiq hm (aiq hR.slc ak));clear hm hR ai ak bT;go_wp2_with fail;obtain⟨W1,pI⟩ : ∃ W1,W1=w1.alloc (.cells #[.slice ua m.length uc] 26):=⟨_,rfl⟩
 obtain⟨q1,fW⟩ : ∃ q1,q1=w1.heap.size:=⟨_,rfl⟩
 have De:Bv W1 q1 (.slice ua m.length uc):=by rw[pI,fW];exact Bv.new w1 _ _
 have uX:(Mok.cx K1).holds (.agg #[.slice ua m.length uc]) W1:=by rw[pI];exact⟨_,m,rfl,IV.out.2.1.mono fun p u hc=>qk hc _,IV.out.1⟩
 have Gl:BwQ w W1:=by rw[pI];exact IV.out.2.2.alloc IV.out.2.2.size _
 have BX:W1.heap.size=q1+1:=by rw[pI,fW];simp
 rw[<-pI,<-fW];have jH:=qqg W1 [0,1] [0,2] [1,2] rfl rfl rfl;rw[BX] at jH;have Ij:=lhd BX;have lf:=lhd (aiq De (aiq uX Gl));clear pI fW De uX Gl BX;refine(q1e _ [[0,1],[0,2],[1,2]] _ jH (by decide) (by decide)).mono ?_;rintro e w2 ⟨r2,rO,rfl,hm,hR,aj⟩;rw[q3y] at hm;obtain⟨va,vc,AD⟩:=qj hR.1;subst AD;have bT:BwQ W1 ((((W1.alloc (.cells #[.int .i64 0,.int .i64 1] 3)).alloc (.cells #[.int .i64 0,.int .i64 2] 3)).alloc (.cells #[.int .i64 1,.int .i64 2] 3)).alloc (.cells #[.slice (some ⟨q1+1,0,none⟩) 2 2,.slice (some ⟨q1+1+1,0,none⟩) 2 2,.slice (some ⟨q1+1+1+1,0,none⟩) 2 2] 22)):=(((bal W1 _).alloc (by simp) _).alloc (by simp;omega) _).alloc (by simp;omega) _;have pf:BwQ W1 w2:=(btr bT aj);have BD:=lhd (aiq hm (aiq hR.slc pf));clear hm hR aj pf jH bT;go_upto_region 4 with fail;obtain⟨q2,lI⟩ : ∃ q2,q2=w2.heap.size:=⟨_,rfl⟩
 obtain⟨W2,iR⟩ : ∃ W2,W2=((w2.alloc (.cells #[.slice va rO.length vc] 26)).alloc (.cells #[.int .i64 1,.int .i64 4,.int .i64 2,.int .i64 6,.int .i64 5,.int .i64 7] 50)).alloc (.cells #[.int .i64 1,.int .i64 4,.int .i64 2,.int .i64 6] 50):=⟨_,rfl⟩
 have aw:BwQ w2 W2:=by rw[iR];exact((bal w2 _).alloc (by simp) _).alloc (by simp;omega) _
 have pf:BwQ W1 W2:=(btr BD.out.2.2 aw);have De:=lf.out.1.q8 pf;have MI:Bv W2 q2 (.slice va rO.length vc):=by rw[iR,lI];exact((Bv.new w2 _ _).alloc _).alloc _
 have uX:=Mok.q8 lf.out.2.1 pf;have Hw:(Mok.cx K2).holds (.agg #[.slice va rO.length vc]) W2:=⟨_,rO,rfl,BD.out.2.1.mono fun p u hc=>Cx.q8 aw hc,BD.out.1⟩
 have Rw:(Mok.prs m1).holds (.slice (some ⟨q2+1,0,none⟩) 3 3) W2:=by have h:=q13 (w2.alloc (.cells #[.slice va rO.length vc] 26)) 50 2 (pv m1) 3 rfl (by unfold maxLen;omega);(try simp only[BwQ] at h);rw[World.size_alloc,<-lI] at h;rw[iR];exact h.alloc _
 have Rx:(Mok.prs m2).holds (.slice (some ⟨q2+1+1,0,none⟩) 2 2) W2:=by have h:=q13 ((w2.alloc (.cells #[.slice va rO.length vc] 26)).alloc (.cells #[.int .i64 1,.int .i64 4,.int .i64 2,.int .i64 6,.int .i64 5,.int .i64 7] 50)) 50 2 (pv m2) 2 rfl (by unfold maxLen;omega);(try simp only[BwQ] at h);rw[World.size_alloc,World.size_alloc,<-lI] at h;rw[iR];exact h
 rw[<-iR,<-lI];have aP:BwQ w W2:=(btr lf.out.2.2 pf);have b1:=De.1;have b2:=MI.1;have S2:Hid (San w W2 q1 q2 (.slice ua m.length uc) (.slice va rO.length vc) (.slice (some ⟨q2+1,0,none⟩) 3 3) (.slice (some ⟨q2+1+1,0,none⟩) 2 2)):=⟨De,MI,uX,Hw,Rw,Rx,aP⟩
 clear iR lI aw pf De MI uX Hw Rw Rx aP;go_wp2_with fail;refine(qj1 _ K1 W2 S2.out.c1 q6x (by decide) m1 qqb).mono ?_;rintro e w3 ⟨r3,rfl,dE,aQ⟩;obtain⟨a3,n3,c3,rfl⟩:=qg dE;have S3:=lhd (S2.out.q8 aQ);have Lo:=lhd dE;clear dE aQ b1 b2;go_wp2_with fail;refine(qj3 _ _ m1 w3 Lo.out S3.out.p1).mono ?_;rintro e w4 ⟨r4,rfl,cD,aM⟩;have cD:r4 = .bool true:=cD;subst cD;have S4:=lhd (S3.out.q8 aM);have b2:=S4.out.b2.1;clear aM;go_wp2_with fail;refine(qj1 _ K2 w4 S4.out.c2 q89 (by decide) m2 qqc).mono ?_;rintro e w5 ⟨r5,rfl,aZ,cU⟩;obtain⟨a5,n5,c5,rfl⟩:=qg aZ;have S5:=lhd (S4.out.q8 cU);have Xe:=lhd aZ;clear aZ cU b2;go_wp2_with fail;refine(qj3 _ _ m2 w5 Xe.out S5.out.p2).mono ?_;rintro e w6 ⟨r6,rfl,dh,ff⟩;have dh:r6 = .bool true:=dh;subst dh;have S6:=lhd (S5.out.q8 ff);clear ff;go_upto_region 6 with fail
 go_cut [5,6] from 36 to 41 (fun x5 x6 wx=>(∃ a n c,x5=Value.slice a n c)/\(∃ a n c,x6=Value.slice a n c)/\Hid ((Mok.idl [3]).holds x5 wx/\(Mok.idl [5]).holds x6 wx/\San w wx q1 q2 (.slice ua m.length uc) (.slice va rO.length vc) (.slice (some ⟨q2+1,0,none⟩) 3 3) (.slice (some ⟨q2+1+1,0,none⟩) 2 2)))
 case first =>
  rename_i J K hJ hK;have pg:=S6.out.b1;have ph:=S6.out.b2;have ig:=S6.out.c1;have ey:=S6.out.c2;have fA:=S6.out.p1;have eI:=S6.out.p2;refine q1a rfl (fun i v w=>(tc6.getD i .any).holds v w) 129 rfl (by kernel_rfl) (by kernel_rfl) (fun i v w w' h hb=>Mok.q8 h hb) ?step ?done
  case step =>
   intro i o ho a w' hw hd ae ao
   match i,ho,hd with
   | 0,ho,hd =>obtain rfl:=osi ho;exact⟨rfl,zr _ _ rfl _ (ae 1 (qu (by kernel_rfl))) _ (ldK (pg.q8 hw)) (Mok.q8 (k:=.cx K1) ig hw)⟩
   | 1,ho,hd =>obtain rfl:=osi ho;exact⟨rfl,jf _ (.inl rfl) (by show (Mok.prs m1).holds (a.tmps.getD 3 undef) w';rw[ae 3 (qu (by kernel_rfl))];exact Mok.q8 (k:=.prs m1) fA hw)⟩
   | 2,ho,hd =>obtain rfl:=osi ho;exact⟨rfl,xz _ _ _ rfl je #[a.tmps.getD 36 undef,a.tmps.getD 37 undef,.int .i64 0] (by simp[Act.eval]) (qbf _ _ K1 m1 _ (hd 0 _ _ rfl rfl (by kernel_rfl)) q6x (by decide) (hd 1 _ _ rfl rfl (by kernel_rfl)) (q37 (by decide)) 0 [3] qph)⟩
   | 3,ho,hd =>obtain rfl:=osi ho;exact⟨rfl,zr _ _ rfl _ (ae 2 (qu (by kernel_rfl))) _ (ldK (ph.q8 hw)) (Mok.q8 (k:=.cx K2) ey hw)⟩
   | 4,ho,hd =>obtain rfl:=osi ho;exact⟨rfl,jf _ (.inl rfl) (by show (Mok.prs m2).holds (a.tmps.getD 4 undef) w';rw[ae 4 (qu (by kernel_rfl))];exact Mok.q8 (k:=.prs m2) eI hw)⟩
   | 5,ho,hd =>obtain rfl:=osi ho;exact⟨rfl,xz _ _ _ rfl je #[a.tmps.getD 39 undef,a.tmps.getD 40 undef,.int .i64 1] (by simp[Act.eval]) (qbf _ _ K2 m2 _ (hd 3 _ _ rfl rfl (by kernel_rfl)) q89 (by decide) (hd 4 _ _ rfl rfl (by kernel_rfl)) (q37 (by decide)) 1 [5] qpk)⟩
   | 6,ho,hd =>obtain rfl:=osi ho;exact⟨rfl,jf _ (.inr rfl) (hd 2 _ _ rfl rfl (by kernel_rfl))⟩
   | 7,ho,hd =>obtain rfl:=osi ho;exact⟨rfl,jf _ (.inr rfl) (hd 5 _ _ rfl rfl (by kernel_rfl))⟩
   | i+8,ho,hd =>have:i+8 < 8:=(gp.1 ho).1;omega
  case done =>intro a w7 ao eH hf ae hw;have BY:(Mok.idl [3]).holds (a.tmps.getD 5 undef) w7:=hf 6 _ _ rfl rfl;have BZ:(Mok.idl [5]).holds (a.tmps.getD 6 undef) w7:=hf 7 _ _ rfl rfl;refine hK _ _ (Met.intro (hJ _ _ ⟨a.tmps.getD 5 undef,a.tmps.getD 6 undef,a.tmps.getD 36 undef,a.tmps.getD 37 undef,a.tmps.getD 38 undef,a.tmps.getD 39 undef,a.tmps.getD 40 undef,a.tmps.getD 41 undef,⟨qg BY,qg BZ,BY,BZ,S6.out.q8 hw⟩,(q8z ao eH ae).trans ?_⟩));kernel_rfl
 case rest =>
  obtain⟨⟨a7,n7,c7,rfl⟩,⟨a8,n8,c8,rfl⟩,H7⟩:=hcut;go_wp2_with fail;refine(q58 (-1) _ (by decide) (by decide)).mono ?_;rintro e w8 ⟨rfl,mQ⟩;have Ry:=lhd mQ;clear mQ;unfold wv;go_upto_region 8 with fail;obtain⟨q7,yB⟩ : ∃ q7,q7=w8.heap.size:=⟨_,rfl⟩
  obtain⟨W9,Gm⟩ : ∃ W9,W9=w8.alloc (.cells #[.bool true,.string (mg (-1))] 38):=⟨_,rfl⟩
  have im:Bx W9 q7 (decide ((-1:Int) < 0)) (mg (-1)):=by rw[Gm,yB];exact Bx.new w8 _ _ _
  have mj:q7 < W9.heap.size:=by rw[Gm,yB];simp
  have oG:BwQ wc W9:=by rw[Gm];exact Ry.out.alloc Ry.out.size _
  rw[<-Gm,<-yB];clear Gm yB;have S9:=H7.out.2.2.q8 oG;have BY:=Mok.q8 H7.out.1 oG;have BZ:=Mok.q8 H7.out.2.1 oG;have pg:=S9.b1;have ph:=S9.b2;have ig:=S9.c1;have ey:=S9.c2;have fA:=S9.p1;have eI:=S9.p2
  go_cut [8] from 43 to 49 (fun x8 wx=>(∃ a n c,x8=Value.slice a n c)/\Hid ((Mok.ch [(4,-1),(5,1),(6,-1)]).holds x8 wx/\BwQ W9 wx))
  case first =>
   rename_i J K hJ hK;refine q1a rfl (fun i v w=>(tc8.getD i .any).holds v w) 129 rfl (by kernel_rfl) (by kernel_rfl) (fun i v w w' h hb=>Mok.q8 h hb) ?step ?done
   case step =>
    intro i o ho a w' hw hd ae ao
    match i,ho,hd with
    | 0,ho,hd =>obtain rfl:=osi ho;exact⟨rfl,zr _ _ rfl _ (ae 7 (qu (by kernel_rfl))) _ (qp6 (im.q8 hw (by exact mj)).1 (im.q8 hw (by exact mj)).2.1) rfl⟩
    | 1,ho,hd =>obtain rfl:=osi ho;exact⟨rfl,jo _ _ rfl _ (qoj _ _ _ _ (hd 0 _ _ rfl rfl (by kernel_rfl))) _ (qoh _ _ _) rfl⟩
    | 2,ho,hd =>obtain rfl:=osi ho;exact⟨rfl,xz _ _ _ rfl q77 #[.int .i64 1] (by simp[Act.eval]) (qmp 1 _ (by unfold I64;decide))⟩
    | 3,ho,hd =>obtain rfl:=osi ho;exact⟨rfl,jo _ _ rfl _ (qoj _ _ _ _ (hd 2 _ _ rfl rfl (by kernel_rfl))) _ (qoh _ _ _) rfl⟩
    | 4,ho,hd =>obtain rfl:=osi ho;exact⟨rfl,zr _ _ rfl _ (ae 7 (qu (by kernel_rfl))) _ (qp6 (im.q8 hw (by exact mj)).1 (im.q8 hw (by exact mj)).2.1) rfl⟩
    | 5,ho,hd =>obtain rfl:=osi ho;exact⟨rfl,jo _ _ rfl _ (qoj _ _ _ _ (hd 4 _ _ rfl rfl (by kernel_rfl))) _ (qoh _ _ _) rfl⟩
    | 6,ho,hd =>obtain rfl:=osi ho;exact⟨rfl,q2x 32 3 _ rfl _ (qj6 _ _ _ _ _ _ _ (hd 1 _ _ rfl rfl (by kernel_rfl)) (hd 3 _ _ rfl rfl (by kernel_rfl)) (hd 5 _ _ rfl rfl (by kernel_rfl))) _ _ (qqi _ _ _ _ _ _ _) (q8p _ _ 3 _ 3 rfl (by unfold maxLen;omega))⟩
    | 7,ho,hd =>obtain rfl:=osi ho;exact⟨rfl,jf _ (.inr rfl) (hd 6 _ _ rfl rfl (by kernel_rfl))⟩
    | i+8,ho,hd =>have:i+8 < 8:=(gp.1 ho).1;omega
   case done =>intro a om ao eH hf ae hw;have IW:(Mok.ch [(4,-1),(5,1),(6,-1)]).holds (a.tmps.getD 8 undef) om:=hf 7 _ _ rfl rfl;refine hK _ _ (Met.intro (hJ _ _ ⟨a.tmps.getD 8 undef,a.tmps.getD 43 undef,a.tmps.getD 44 undef,a.tmps.getD 45 undef,a.tmps.getD 46 undef,a.tmps.getD 47 undef,a.tmps.getD 48 undef,a.tmps.getD 49 undef,⟨qg IW,IW,hw⟩,(q8z ao eH ae).trans ?_⟩));kernel_rfl
  case rest =>
   obtain⟨⟨Z3,n11,uI,rfl⟩,H8⟩:=hcut;have S9:=S9.q8 H8.out.2;have BY:=Mok.q8 BY H8.out.2;have BZ:=Mok.q8 BZ H8.out.2;have IW:=H8.out.1;have pg:=S9.b1;have ph:=S9.b2;have ig:=S9.c1;have ey:=S9.c2;have fA:=S9.p1;have eI:=S9.p2;go_upto_region 9 with fail;rename_i K hK;refine q1a rfl (fun i v w=>(tc9.getD i .any).holds v w) 129 rfl (by kernel_rfl) (by kernel_rfl) (fun i v w w' h hb=>Mok.q8 h hb) ?step9 ?done9
   case step9 =>
    intro i o ho a w' hw hd ae ao
    match i,ho,hd with
    | 0,ho,hd =>obtain rfl:=osi ho;exact⟨rfl,jf _ (.inl rfl) (by show (Mok.idl [3]).holds (a.tmps.getD 5 undef) w';rw[ae 5 (qu (by kernel_rfl))];exact Mok.q8 (k:=.idl [3]) BY hw)⟩
    | 1,ho,hd =>obtain rfl:=osi ho;exact⟨rfl,q5h _ [3] rfl (hd 0 _ _ rfl rfl (by kernel_rfl))⟩
    | 2,ho,hd =>obtain rfl:=osi ho;exact⟨rfl,kx _ _ _ _ _ rfl _ _ (hd 1 _ _ rfl rfl (by kernel_rfl)) rfl _ rfl (qbj _ _ 1 (.inl rfl)) rfl⟩
    | 3,ho,hd =>obtain rfl:=osi ho;exact⟨rfl,jf _ (.inl rfl) (hd 2 _ _ rfl rfl (by kernel_rfl))⟩
    | 4,ho,hd =>obtain rfl:=osi ho;exact⟨qn 3 53 rfl rfl (by rw[ao];decide) (hd 3 _ _ rfl rfl (by kernel_rfl)),jf _ (.inl rfl) (by show (Mok.idl [3]).holds (a.tmps.getD 5 undef) w';rw[ae 5 (qu (by kernel_rfl))];exact Mok.q8 (k:=.idl [3]) BY hw)⟩
    | 5,ho,hd =>obtain rfl:=osi ho;exact⟨qn 3 53 rfl rfl (by rw[ao];decide) (hd 3 _ _ rfl rfl (by kernel_rfl)),qj0 _ _ 3 [] rfl rfl (hd 4 _ _ rfl rfl (by kernel_rfl))⟩
    | 6,ho,hd =>obtain rfl:=osi ho;have f0:(Mok.cel 3).holds (a.tmps.getD 55 undef) w':=hd 5 _ _ rfl rfl (by kernel_rfl);exact⟨qn 3 53 rfl rfl (by rw[ao];decide) (hd 3 _ _ rfl rfl (by kernel_rfl)),(by obtain⟨p,hp,hc⟩:=f0;exact zr _ _ rfl _ hp _ (qe0 _ _ _ hc) rfl)⟩
    | 7,ho,hd =>obtain rfl:=osi ho;exact⟨qn 3 53 rfl rfl (by rw[ao];decide) (hd 3 _ _ rfl rfl (by kernel_rfl)),kx _ _ _ _ _ rfl _ _ (hd 6 _ _ rfl rfl (by kernel_rfl)) rfl _ rfl (qbj _ _ 3 (.inl rfl)) rfl⟩
    | 8,ho,hd =>obtain rfl:=osi ho;exact⟨rfl,jx _ _ _ rfl (hd 3 _ _ rfl rfl (by kernel_rfl)) (hd 7 _ _ rfl rfl (by kernel_rfl))⟩
    | 9,ho,hd =>obtain rfl:=osi ho;exact⟨rfl,jf _ (.inl rfl) (hd 8 _ _ rfl rfl (by kernel_rfl))⟩
    | 10,ho,hd =>obtain rfl:=osi ho;exact⟨qn 9 59 rfl rfl (by rw[ao];decide) (hd 9 _ _ rfl rfl (by kernel_rfl)),zr _ _ rfl _ (ae 1 (qu (by kernel_rfl))) _ (ldK (pg.q8 hw)) (Mok.q8 (k:=.cx K1) ig hw)⟩
    | 11,ho,hd =>obtain rfl:=osi ho;exact⟨qn 9 59 rfl rfl (by rw[ao];decide) (hd 9 _ _ rfl rfl (by kernel_rfl)),jf _ (.inl rfl) (by show (Mok.prs m1).holds (a.tmps.getD 3 undef) w';rw[ae 3 (qu (by kernel_rfl))];exact Mok.q8 (k:=.prs m1) fA hw)⟩
    | 12,ho,hd =>obtain rfl:=osi ho;exact⟨qn 9 59 rfl rfl (by rw[ao];decide) (hd 9 _ _ rfl rfl (by kernel_rfl)),xz _ _ _ rfl je #[a.tmps.getD 60 undef,a.tmps.getD 61 undef,.int .i64 1] (by simp[Act.eval]) (qbf _ _ K1 m1 _ (hd 10 _ _ rfl rfl (by kernel_rfl)) q6x (by decide) (hd 11 _ _ rfl rfl (by kernel_rfl)) (q37 (by decide)) 1 [] qpi)⟩
    | 13,ho,hd =>obtain rfl:=osi ho;exact⟨qn 9 59 rfl rfl (by rw[ao];decide) (hd 9 _ _ rfl rfl (by kernel_rfl)),q5h _ [] rfl (hd 12 _ _ rfl rfl (by kernel_rfl))⟩
    | 14,ho,hd =>obtain rfl:=osi ho;exact⟨qn 9 59 rfl rfl (by rw[ao];decide) (hd 9 _ _ rfl rfl (by kernel_rfl)),zr _ _ rfl _ (ae 1 (qu (by kernel_rfl))) _ (ldK (pg.q8 hw)) (Mok.q8 (k:=.cx K1) ig hw)⟩
    | 15,ho,hd =>obtain rfl:=osi ho;exact⟨qn 9 59 rfl rfl (by rw[ao];decide) (hd 9 _ _ rfl rfl (by kernel_rfl)),jf _ (.inl rfl) (by show (Mok.prs m1).holds (a.tmps.getD 3 undef) w';rw[ae 3 (qu (by kernel_rfl))];exact Mok.q8 (k:=.prs m1) fA hw)⟩
    | 16,ho,hd =>obtain rfl:=osi ho;exact⟨qn 9 59 rfl rfl (by rw[ao];decide) (hd 9 _ _ rfl rfl (by kernel_rfl)),xz _ _ _ rfl je #[a.tmps.getD 64 undef,a.tmps.getD 65 undef,.int .i64 2] (by simp[Act.eval]) (qbf _ _ K1 m1 _ (hd 14 _ _ rfl rfl (by kernel_rfl)) q6x (by decide) (hd 15 _ _ rfl rfl (by kernel_rfl)) (q37 (by decide)) 2 [] qpj)⟩
    | 17,ho,hd =>obtain rfl:=osi ho;exact⟨qn 9 59 rfl rfl (by rw[ao];decide) (hd 9 _ _ rfl rfl (by kernel_rfl)),q5h _ [] rfl (hd 16 _ _ rfl rfl (by kernel_rfl))⟩
    | 18,ho,hd =>obtain rfl:=osi ho;exact⟨qn 9 59 rfl rfl (by rw[ao];decide) (hd 9 _ _ rfl rfl (by kernel_rfl)),kx _ _ _ _ _ rfl _ _ (hd 13 _ _ rfl rfl (by kernel_rfl)) (hd 17 _ _ rfl rfl (by kernel_rfl)) _ rfl (qpn _) rfl⟩
    | 19,ho,hd =>obtain rfl:=osi ho;exact⟨qn 9 59 rfl rfl (by rw[ao];decide) (hd 9 _ _ rfl rfl (by kernel_rfl)),kx _ _ _ _ _ rfl _ _ (hd 18 _ _ rfl rfl (by kernel_rfl)) rfl _ rfl (qbj _ _ 0 (.inl rfl)) rfl⟩
    | 20,ho,hd =>obtain rfl:=osi ho;exact⟨rfl,jx _ _ _ rfl (hd 9 _ _ rfl rfl (by kernel_rfl)) (hd 19 _ _ rfl rfl (by kernel_rfl))⟩
    | 21,ho,hd =>obtain rfl:=osi ho;exact⟨rfl,jf _ (.inl rfl) (hd 20 _ _ rfl rfl (by kernel_rfl))⟩
    | 22,ho,hd =>obtain rfl:=osi ho;exact⟨qn 21 71 rfl rfl (by rw[ao];decide) (hd 21 _ _ rfl rfl (by kernel_rfl)),zr _ _ rfl _ (ae 1 (qu (by kernel_rfl))) _ (ldK (pg.q8 hw)) (Mok.q8 (k:=.cx K1) ig hw)⟩
    | 23,ho,hd =>obtain rfl:=osi ho;exact⟨qn 21 71 rfl rfl (by rw[ao];decide) (hd 21 _ _ rfl rfl (by kernel_rfl)),jf _ (.inl rfl) (by show (Mok.prs m1).holds (a.tmps.getD 3 undef) w';rw[ae 3 (qu (by kernel_rfl))];exact Mok.q8 (k:=.prs m1) fA hw)⟩
    | 24,ho,hd =>obtain rfl:=osi ho;exact⟨qn 21 71 rfl rfl (by rw[ao];decide) (hd 21 _ _ rfl rfl (by kernel_rfl)),xz _ _ _ rfl ky #[.int .i64 1] (by simp[Act.eval]) (qm2 1 _)⟩
    | 25,ho,hd =>obtain rfl:=osi ho;exact⟨qn 21 71 rfl rfl (by rw[ao];decide) (hd 21 _ _ rfl rfl (by kernel_rfl)),xz _ _ _ rfl q36 #[a.tmps.getD 72 undef,a.tmps.getD 73 undef,a.tmps.getD 74 undef] (by simp[Act.eval]) (qmo _ _ K1 m1 _ (hd 22 _ _ rfl rfl (by kernel_rfl)) q6x (by decide) (hd 23 _ _ rfl rfl (by kernel_rfl)) (q37 (by decide)) _ [(1,1)] [(3,1)] (hd 24 _ _ rfl rfl (by kernel_rfl)) (lok (by decide)) (by decide) (by unfold Cn;decide) qqd)⟩
    | 26,ho,hd =>obtain rfl:=osi ho;exact⟨qn 21 71 rfl rfl (by rw[ao];decide) (hd 21 _ _ rfl rfl (by kernel_rfl)),xz _ _ _ rfl ky #[.int .i64 3] (by simp[Act.eval]) (qm2 3 _)⟩
    | 27,ho,hd =>obtain rfl:=osi ho;exact⟨qn 21 71 rfl rfl (by rw[ao];decide) (hd 21 _ _ rfl rfl (by kernel_rfl)),xz _ _ _ rfl q0u #[a.tmps.getD 75 undef,a.tmps.getD 76 undef] (by simp[Act.eval]) (qj2 _ _ _ _ (hd 25 _ _ rfl rfl (by kernel_rfl)) (hd 26 _ _ rfl rfl (by kernel_rfl)))⟩
    | 28,ho,hd =>obtain rfl:=osi ho;exact⟨rfl,jx _ _ _ rfl (hd 21 _ _ rfl rfl (by kernel_rfl)) (hd 27 _ _ rfl rfl (by kernel_rfl))⟩
    | 29,ho,hd =>obtain rfl:=osi ho;exact⟨rfl,jf _ (.inl rfl) (hd 28 _ _ rfl rfl (by kernel_rfl))⟩
    | 30,ho,hd =>obtain rfl:=osi ho;exact⟨qn 29 79 rfl rfl (by rw[ao];decide) (hd 29 _ _ rfl rfl (by kernel_rfl)),zr _ _ rfl _ (ae 1 (qu (by kernel_rfl))) _ (ldK (pg.q8 hw)) (Mok.q8 (k:=.cx K1) ig hw)⟩
    | 31,ho,hd =>obtain rfl:=osi ho;exact⟨qn 29 79 rfl rfl (by rw[ao];decide) (hd 29 _ _ rfl rfl (by kernel_rfl)),jf _ (.inl rfl) (by show (Mok.prs m1).holds (a.tmps.getD 3 undef) w';rw[ae 3 (qu (by kernel_rfl))];exact Mok.q8 (k:=.prs m1) fA hw)⟩
    | 32,ho,hd =>obtain rfl:=osi ho;exact⟨qn 29 79 rfl rfl (by rw[ao];decide) (hd 29 _ _ rfl rfl (by kernel_rfl)),xz _ _ _ rfl ky #[.int .i64 2] (by simp[Act.eval]) (qm2 2 _)⟩
    | 33,ho,hd =>obtain rfl:=osi ho;exact⟨qn 29 79 rfl rfl (by rw[ao];decide) (hd 29 _ _ rfl rfl (by kernel_rfl)),xz _ _ _ rfl q36 #[a.tmps.getD 80 undef,a.tmps.getD 81 undef,a.tmps.getD 82 undef] (by simp[Act.eval]) (qmo _ _ K1 m1 _ (hd 30 _ _ rfl rfl (by kernel_rfl)) q6x (by decide) (hd 31 _ _ rfl rfl (by kernel_rfl)) (q37 (by decide)) _ [(2,1)] [(3,1)] (hd 32 _ _ rfl rfl (by kernel_rfl)) (lok (by decide)) (by decide) (by unfold Cn;decide) qqe)⟩
    | 34,ho,hd =>obtain rfl:=osi ho;exact⟨qn 29 79 rfl rfl (by rw[ao];decide) (hd 29 _ _ rfl rfl (by kernel_rfl)),xz _ _ _ rfl ky #[.int .i64 3] (by simp[Act.eval]) (qm2 3 _)⟩
    | 35,ho,hd =>obtain rfl:=osi ho;exact⟨qn 29 79 rfl rfl (by rw[ao];decide) (hd 29 _ _ rfl rfl (by kernel_rfl)),xz _ _ _ rfl q0u #[a.tmps.getD 83 undef,a.tmps.getD 84 undef] (by simp[Act.eval]) (qj2 _ _ _ _ (hd 33 _ _ rfl rfl (by kernel_rfl)) (hd 34 _ _ rfl rfl (by kernel_rfl)))⟩
    | 36,ho,hd =>obtain rfl:=osi ho;exact⟨rfl,jx _ _ _ rfl (hd 29 _ _ rfl rfl (by kernel_rfl)) (hd 35 _ _ rfl rfl (by kernel_rfl))⟩
    | 37,ho,hd =>obtain rfl:=osi ho;exact⟨rfl,jf _ (.inl rfl) (hd 36 _ _ rfl rfl (by kernel_rfl))⟩
    | 38,ho,hd =>obtain rfl:=osi ho;exact⟨qn 37 87 rfl rfl (by rw[ao];decide) (hd 37 _ _ rfl rfl (by kernel_rfl)),jf _ (.inl rfl) (by show (Mok.idl [5]).holds (a.tmps.getD 6 undef) w';rw[ae 6 (qu (by kernel_rfl))];exact Mok.q8 (k:=.idl [5]) BZ hw)⟩
    | 39,ho,hd =>obtain rfl:=osi ho;exact⟨qn 37 87 rfl rfl (by rw[ao];decide) (hd 37 _ _ rfl rfl (by kernel_rfl)),q5h _ [5] rfl (hd 38 _ _ rfl rfl (by kernel_rfl))⟩
    | 40,ho,hd =>obtain rfl:=osi ho;exact⟨qn 37 87 rfl rfl (by rw[ao];decide) (hd 37 _ _ rfl rfl (by kernel_rfl)),kx _ _ _ _ _ rfl _ _ (hd 39 _ _ rfl rfl (by kernel_rfl)) rfl _ rfl (qbj _ _ 1 (.inl rfl)) rfl⟩
    | 41,ho,hd =>obtain rfl:=osi ho;exact⟨rfl,jx _ _ _ rfl (hd 37 _ _ rfl rfl (by kernel_rfl)) (hd 40 _ _ rfl rfl (by kernel_rfl))⟩
    | 42,ho,hd =>obtain rfl:=osi ho;exact⟨rfl,jf _ (.inl rfl) (hd 41 _ _ rfl rfl (by kernel_rfl))⟩
    | 43,ho,hd =>obtain rfl:=osi ho;exact⟨qn 42 92 rfl rfl (by rw[ao];decide) (hd 42 _ _ rfl rfl (by kernel_rfl)),jf _ (.inl rfl) (by show (Mok.idl [5]).holds (a.tmps.getD 6 undef) w';rw[ae 6 (qu (by kernel_rfl))];exact Mok.q8 (k:=.idl [5]) BZ hw)⟩
    | 44,ho,hd =>obtain rfl:=osi ho;exact⟨qn 42 92 rfl rfl (by rw[ao];decide) (hd 42 _ _ rfl rfl (by kernel_rfl)),qj0 _ _ 5 [] rfl rfl (hd 43 _ _ rfl rfl (by kernel_rfl))⟩
    | 45,ho,hd =>obtain rfl:=osi ho;have f0:(Mok.cel 5).holds (a.tmps.getD 94 undef) w':=hd 44 _ _ rfl rfl (by kernel_rfl);exact⟨qn 42 92 rfl rfl (by rw[ao];decide) (hd 42 _ _ rfl rfl (by kernel_rfl)),(by obtain⟨p,hp,hc⟩:=f0;exact zr _ _ rfl _ hp _ (qe0 _ _ _ hc) rfl)⟩
    | 46,ho,hd =>obtain rfl:=osi ho;exact⟨qn 42 92 rfl rfl (by rw[ao];decide) (hd 42 _ _ rfl rfl (by kernel_rfl)),kx _ _ _ _ _ rfl _ _ (hd 45 _ _ rfl rfl (by kernel_rfl)) rfl _ rfl (qbj _ _ 5 (.inl rfl)) rfl⟩
    | 47,ho,hd =>obtain rfl:=osi ho;exact⟨rfl,jx _ _ _ rfl (hd 42 _ _ rfl rfl (by kernel_rfl)) (hd 46 _ _ rfl rfl (by kernel_rfl))⟩
    | 48,ho,hd =>obtain rfl:=osi ho;exact⟨rfl,jf _ (.inl rfl) (hd 47 _ _ rfl rfl (by kernel_rfl))⟩
    | 49,ho,hd =>obtain rfl:=osi ho;exact⟨qn 48 98 rfl rfl (by rw[ao];decide) (hd 48 _ _ rfl rfl (by kernel_rfl)),zr _ _ rfl _ (ae 2 (qu (by kernel_rfl))) _ (ldK (ph.q8 hw)) (Mok.q8 (k:=.cx K2) ey hw)⟩
    | 50,ho,hd =>obtain rfl:=osi ho;exact⟨qn 48 98 rfl rfl (by rw[ao];decide) (hd 48 _ _ rfl rfl (by kernel_rfl)),jf _ (.inl rfl) (by show (Mok.prs m2).holds (a.tmps.getD 4 undef) w';rw[ae 4 (qu (by kernel_rfl))];exact Mok.q8 (k:=.prs m2) eI hw)⟩
    | 51,ho,hd =>obtain rfl:=osi ho;exact⟨qn 48 98 rfl rfl (by rw[ao];decide) (hd 48 _ _ rfl rfl (by kernel_rfl)),xz _ _ _ rfl qbg #[a.tmps.getD 99 undef,a.tmps.getD 100 undef,.int .i64 5] (by simp[Act.eval]) (kUp _ _ K2 m2 _ (hd 49 _ _ rfl rfl (by kernel_rfl)) q89 (by decide) (hd 50 _ _ rfl rfl (by kernel_rfl)) (q37 (by decide)) 5 (by unfold I64;decide) _ (by unfold Cn;decide) qqf)⟩
    | 52,ho,hd =>obtain rfl:=osi ho;exact⟨qn 48 98 rfl rfl (by rw[ao];decide) (hd 48 _ _ rfl rfl (by kernel_rfl)),jf _ (.inl rfl) (by show (Mok.ch [(4,-1),(5,1),(6,-1)]).holds (a.tmps.getD 8 undef) w';rw[ae 8 (qu (by kernel_rfl))];exact Mok.q8 (k:=.ch [(4,-1),(5,1),(6,-1)]) IW hw)⟩
    | 53,ho,hd =>obtain rfl:=osi ho;exact⟨qn 48 98 rfl rfl (by rw[ao];decide) (hd 48 _ _ rfl rfl (by kernel_rfl)),xz _ _ _ rfl q0u #[a.tmps.getD 101 undef,a.tmps.getD 102 undef] (by simp[Act.eval]) (qj2 _ _ _ _ (hd 51 _ _ rfl rfl (by kernel_rfl)) (hd 52 _ _ rfl rfl (by kernel_rfl)))⟩
    | 54,ho,hd =>obtain rfl:=osi ho;exact⟨rfl,jx _ _ _ rfl (hd 48 _ _ rfl rfl (by kernel_rfl)) (hd 53 _ _ rfl rfl (by kernel_rfl))⟩
    | 55,ho,hd =>obtain rfl:=osi ho;exact⟨rfl,jf _ (.inl rfl) (hd 54 _ _ rfl rfl (by kernel_rfl))⟩
    | 56,ho,hd =>obtain rfl:=osi ho;exact⟨qn 55 105 rfl rfl (by rw[ao];decide) (hd 55 _ _ rfl rfl (by kernel_rfl)),zr _ _ rfl _ (ae 2 (qu (by kernel_rfl))) _ (ldK (ph.q8 hw)) (Mok.q8 (k:=.cx K2) ey hw)⟩
    | 57,ho,hd =>obtain rfl:=osi ho;exact⟨qn 55 105 rfl rfl (by rw[ao];decide) (hd 55 _ _ rfl rfl (by kernel_rfl)),jo _ _ rfl #[(0,.int .i64 1),(1,.int .i64 4)] (by simp[Act.eval]) _ (qfx _ _ _) rfl⟩
    | 58,ho,hd =>obtain rfl:=osi ho;exact⟨qn 55 105 rfl rfl (by rw[ao];decide) (hd 55 _ _ rfl rfl (by kernel_rfl)),jo _ _ rfl #[(0,.int .i64 2),(1,.int .i64 6)] (by simp[Act.eval]) _ (qfx _ _ _) rfl⟩
    | 59,ho,hd =>obtain rfl:=osi ho;exact⟨qn 55 105 rfl rfl (by rw[ao];decide) (hd 55 _ _ rfl rfl (by kernel_rfl)),jo _ _ rfl #[(0,.int .i64 3),(1,.int .i64 5)] (by simp[Act.eval]) _ (qfx _ _ _) rfl⟩
    | 60,ho,hd =>obtain rfl:=osi ho;exact⟨qn 55 105 rfl rfl (by rw[ao];decide) (hd 55 _ _ rfl rfl (by kernel_rfl)),q2x 48 3 _ rfl _ (qj6 _ _ _ _ _ _ _ (hd 57 _ _ rfl rfl (by kernel_rfl)) (hd 58 _ _ rfl rfl (by kernel_rfl)) (hd 59 _ _ rfl rfl (by kernel_rfl))) _ _ (qqj _ _ _ _ _ _ _) (q8p _ _ 2 _ 3 rfl (by unfold maxLen;omega))⟩
    | 61,ho,hd =>obtain rfl:=osi ho;exact⟨qn 55 105 rfl rfl (by rw[ao];decide) (hd 55 _ _ rfl rfl (by kernel_rfl)),xz _ _ _ rfl q0f #[a.tmps.getD 106 undef,a.tmps.getD 110 undef] (by simp[Act.eval]) (qcw _ _ K2 [(1,4),(2,6),(3,5)] _ (hd 56 _ _ rfl rfl (by kernel_rfl)) q89 (by decide) (hd 60 _ _ rfl rfl (by kernel_rfl)) (q37 (by decide)) 43 qq8)⟩
    | 62,ho,hd =>obtain rfl:=osi ho;exact⟨qn 55 105 rfl rfl (by rw[ao];decide) (hd 55 _ _ rfl rfl (by kernel_rfl)),kx _ _ _ _ _ rfl _ _ (hd 61 _ _ rfl rfl (by kernel_rfl)) rfl _ rfl (qbj _ _ 43 (.inr rfl)) rfl⟩
    | 63,ho,hd =>obtain rfl:=osi ho;exact⟨rfl,jx _ _ _ rfl (hd 55 _ _ rfl rfl (by kernel_rfl)) (hd 62 _ _ rfl rfl (by kernel_rfl))⟩
    | 64,ho,hd =>obtain rfl:=osi ho;exact⟨rfl,jf _ (.inl rfl) (hd 63 _ _ rfl rfl (by kernel_rfl))⟩
    | 65,ho,hd =>obtain rfl:=osi ho;exact⟨qn 64 114 rfl rfl (by rw[ao];decide) (hd 64 _ _ rfl rfl (by kernel_rfl)),zr _ _ rfl _ (ae 2 (qu (by kernel_rfl))) _ (ldK (ph.q8 hw)) (Mok.q8 (k:=.cx K2) ey hw)⟩
    | 66,ho,hd =>obtain rfl:=osi ho;exact⟨qn 64 114 rfl rfl (by rw[ao];decide) (hd 64 _ _ rfl rfl (by kernel_rfl)),jo _ _ rfl #[(0,.int .i64 1),(1,.int .i64 4)] (by simp[Act.eval]) _ (qfx _ _ _) rfl⟩
    | 67,ho,hd =>obtain rfl:=osi ho;exact⟨qn 64 114 rfl rfl (by rw[ao];decide) (hd 64 _ _ rfl rfl (by kernel_rfl)),jo _ _ rfl #[(0,.int .i64 1),(1,.int .i64 5)] (by simp[Act.eval]) _ (qfx _ _ _) rfl⟩
    | 68,ho,hd =>obtain rfl:=osi ho;exact⟨qn 64 114 rfl rfl (by rw[ao];decide) (hd 64 _ _ rfl rfl (by kernel_rfl)),q2x 48 2 _ rfl _ (qqh _ _ _ _ _ (hd 66 _ _ rfl rfl (by kernel_rfl)) (hd 67 _ _ rfl rfl (by kernel_rfl))) _ _ (qqk _ _ _ _ _) (q8p _ _ 2 _ 2 rfl (by unfold maxLen;omega))⟩
    | 69,ho,hd =>obtain rfl:=osi ho;exact⟨qn 64 114 rfl rfl (by rw[ao];decide) (hd 64 _ _ rfl rfl (by kernel_rfl)),xz _ _ _ rfl q0f #[a.tmps.getD 115 undef,a.tmps.getD 118 undef] (by simp[Act.eval]) (qcw _ _ K2 [(1,4),(1,5)] _ (hd 65 _ _ rfl rfl (by kernel_rfl)) q89 (by decide) (hd 68 _ _ rfl rfl (by kernel_rfl)) (q37 (by decide)) 42 qq9)⟩
    | 70,ho,hd =>obtain rfl:=osi ho;exact⟨qn 64 114 rfl rfl (by rw[ao];decide) (hd 64 _ _ rfl rfl (by kernel_rfl)),kx _ _ _ _ _ rfl _ _ (hd 69 _ _ rfl rfl (by kernel_rfl)) rfl _ rfl (qbj _ _ 42 (.inr rfl)) rfl⟩
    | 71,ho,hd =>obtain rfl:=osi ho;exact⟨rfl,jx _ _ _ rfl (hd 64 _ _ rfl rfl (by kernel_rfl)) (hd 70 _ _ rfl rfl (by kernel_rfl))⟩
    | 72,ho,hd =>obtain rfl:=osi ho;exact⟨rfl,jf _ (.inl rfl) (hd 71 _ _ rfl rfl (by kernel_rfl))⟩
    | 73,ho,hd =>obtain rfl:=osi ho;exact⟨qn 72 122 rfl rfl (by rw[ao];decide) (hd 72 _ _ rfl rfl (by kernel_rfl)),zr _ _ rfl _ (ae 2 (qu (by kernel_rfl))) _ (ldK (ph.q8 hw)) (Mok.q8 (k:=.cx K2) ey hw)⟩
    | 74,ho,hd =>obtain rfl:=osi ho;exact⟨qn 72 122 rfl rfl (by rw[ao];decide) (hd 72 _ _ rfl rfl (by kernel_rfl)),jo _ _ rfl #[(0,.int .i64 1),(1,.int .i64 6)] (by simp[Act.eval]) _ (qfx _ _ _) rfl⟩
    | 75,ho,hd =>obtain rfl:=osi ho;exact⟨qn 72 122 rfl rfl (by rw[ao];decide) (hd 72 _ _ rfl rfl (by kernel_rfl)),q2x 48 1 _ rfl _ (qpl _ _ _ (hd 74 _ _ rfl rfl (by kernel_rfl))) _ _ (qpm _ _ _) (q8p _ _ 2 _ 1 rfl (by unfold maxLen;omega))⟩
    | 76,ho,hd =>obtain rfl:=osi ho;exact⟨qn 72 122 rfl rfl (by rw[ao];decide) (hd 72 _ _ rfl rfl (by kernel_rfl)),xz _ _ _ rfl q0f #[a.tmps.getD 123 undef,a.tmps.getD 125 undef] (by simp[Act.eval]) (qcw _ _ K2 [(1,6)] _ (hd 73 _ _ rfl rfl (by kernel_rfl)) q89 (by decide) (hd 75 _ _ rfl rfl (by kernel_rfl)) (q37 (by decide)) 42 qqa)⟩
    | 77,ho,hd =>obtain rfl:=osi ho;exact⟨qn 72 122 rfl rfl (by rw[ao];decide) (hd 72 _ _ rfl rfl (by kernel_rfl)),kx _ _ _ _ _ rfl _ _ (hd 76 _ _ rfl rfl (by kernel_rfl)) rfl _ rfl (qbj _ _ 42 (.inr rfl)) rfl⟩
    | 78,ho,hd =>obtain rfl:=osi ho;exact⟨rfl,jx _ _ _ rfl (hd 72 _ _ rfl rfl (by kernel_rfl)) (hd 77 _ _ rfl rfl (by kernel_rfl))⟩
    | 79,ho,hd =>obtain rfl:=osi ho;exact⟨rfl,jf _ (.inr rfl) (hd 78 _ _ rfl rfl (by kernel_rfl))⟩
    | i+80,ho,hd =>have:i+80 < 80:=(gp.1 ho).1;omega
   case done9 =>intro a om ao eH hf ae hw;refine hK _ _ ?_;have ht:(Mok.tt).holds (a.tmps.getD 0 undef) om:=hf 79 _ _ rfl rfl;have Bn:=(S9.q8 hw).bl;clear ae hf;refine wp_ret ?_;show bodyPost Tryz.prog Tryz.f38 (fun e w'=>e = .returned (.bool true)/\BwQ w w') .ret a om;refine bodyPost_ret (v:=.bool true) ?_ eH ⟨rfl,Bn⟩;have rG:a.tmps.getD 0 undef = .bool true:=ht;rw[Array.getD_eq_getD_getElem?] at rG;simp[results,Tryz.results38,go_sem,rG]
end Go.Proofs.YtlhicnfeajejhaaGreatDoor
