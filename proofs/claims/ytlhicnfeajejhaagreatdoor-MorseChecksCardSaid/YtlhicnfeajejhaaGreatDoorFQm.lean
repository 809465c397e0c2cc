/- Steps towards MorseChecks. Conditions: none. -/
import Derived.Test.YtlhicnfeajejhaaGreatDoorFQj
set_option maxRecDepth 1000000
set_option maxHeartbeats 16000000
namespace Go.Cx
open Go.Maps
theorem qog {D:DataW Value} {g:Int->Option Value} (h2:∀ x,has D (.int .i64 x)=(g x).isSome/\∀ v,g x=some v->∀ z,D.atKey (.int .i64 x) z = .held v) (x:Int) :
  ∀ y,has (D.del (.int .i64 x)) (.int .i64 y)=((fun y=>if y=x then none else g y) y:Option Value).isSome/\∀ u,(fun y=>if y=x then none else g y) y=some u->∀ z,(D.del (.int .i64 x)).atKey (.int .i64 y) z = .held u:=by
 intro y;by_cases hy:y=x
 ·subst hy;refine⟨by rw[has_del_same (k:=.int .i64 y)];simp,fun u hu=>?_⟩;simp at hu
 ·have ak:Lit.int .i64 y≠.int .i64 x:=by intro e;injection e with _ e;exact hy e
  refine⟨by rw[has_del_other ak,(h2 y).1];simp[hy],fun u hu z=>?_⟩;simp only [hy,if_false] at hu;rw[atKey_del_other ak];exact(h2 y).2 u hu z
end Go.Cx
namespace Go.Proofs.YtlhicnfeajejhaaGreatDoor
open Go.Cx Go.RowKit Go.Maps
theorem MpI.del {w:World} {b n:Nat} {h:Int->Int} (m:MpI w b n h) {c:Int} (hc:I64 c) (ty:TypeId) :
  ∃ w',(Builtin.delete_ #[122,3] ty #[.map (some b),.int .i64 c]).run Tryz.prog w = .ok (.tuple #[]) w'/\MpI w' b n (pu h c 0)/\w.grownBy w' (some b):=by
 obtain⟨g,⟨D,h1,h2⟩,h3⟩:=m;obtain⟨w',hr,ho,ht⟩:=h1.drop (int_keyed Tryz.underlying3) Tryz.underlying122 (yx hc) ty;refine⟨w',hr,⟨_,⟨_,ho,qog h2 c⟩,fun d=>?_⟩,ht.grown⟩;unfold pu;by_cases hd:d=c
 ·simp[hd]
 ·simp[hd,h3 d]
end Go.Proofs.YtlhicnfeajejhaaGreatDoor
namespace Go.Cx
open Go.Proofs.YtlhicnfeajejhaaGreatDoor
noncomputable def q52 (K:List Cl):List (Int×Int):=if (chk K).2=0 then q3w (canon K) zz zz ((canon K).map Cl.id) else []
section
variable {K:List Cl} {hi lo:Int->Int}
theorem q4u {c x:Int} {l:List Int} (h:kc K hi lo c x=false\/yp K (pu hi c x) c):firstM K hi lo c (x :: l)=firstM K hi lo c l:=by
 rcases h with h | h
 ·exact vl h
 ·exact q28 h
theorem qej {f:Int->Int} {c v:Int} (h:f c=0):pu (pu f c v) c 0=f:=by
 funext d
 by_cases hd:d=c
 ·subst hd;rw[q35,h]
 ·rw[yz _ _ hd,yz _ _ hd]
theorem qiz {c h:Int} (hh:h∈kd K c):∃ y∈cellsOf K,y.id=h:=by
 unfold kd at hh;obtain⟨y,hy,rfl⟩:=go.1 hh;exact⟨y,(gH.1 hy).1,rfl⟩
end
end Go.Cx
namespace Go.Proofs.YtlhicnfeajejhaaGreatDoor
open Go.Cx Go.RowKit
theorem jw:(Tryz.prog.info? 50).map (fun i=>(i.zero,i.size,i.bytes))=some (some (.agg #[.int .i64 0,.int .i64 0]),2,16):=by kernel_rfl
theorem q9j (x y:Int):∀ u∈[Value.int .i64 x,.int .i64 y],u.oneCell'=true:=by
 intro u hu;simp at hu;rcases hu with rfl | rfl <;> rfl
structure Mst (w1 wx:World) (K:List Cl) (BH BL:Nat) (k:Nat) (so:Value) (hi lo:Int->Int) (M:List (Int×Int)) (nn:Nat):Prop where
 row:wx.ownsRow w1.heap.size 50 2 so M.length (pv M)
 eq:q3w K zz zz (K.map Cl.id)=M++q3w K hi lo ((K.map Cl.id).drop k)
 mt:Mtc K hi lo
 ac:∀ a,¬ yp K hi a
 mH:MpI wx BH nn hi
 mL:MpI wx BL nn lo
 gs:Gs (HL BH BL) w1 wx
theorem Mst.q8 {w1 wx wy:World} {K:List Cl} {BH BL k nn:Nat} {so:Value} {hi lo:Int->Int} {M:List (Int×Int)} (h:Mst w1 wx K BH BL k so hi lo M nn) (hb:Below wx.heap.size wx wy):Mst w1 wy K BH BL k so hi lo M nn :=
 ⟨qa h.row hb,h.eq,h.mt,h.ac,h.mH.q8 hb,h.mL.q8 hb,h.gs.trans (Gs.xh hb)⟩
theorem qm1 (v:Value) (l:List Ce) (w:World) (h:SlC w v l) (hl:l.length<=1099511627776) (hok:COk l) :
  Calls Tryz.prog 39 #[.agg #[v]] w fun e w'=>∃ r,e = .returned r/\w'.ownsRow w.heap.size 50 2 r (q52 (l.map Ce.cl)).length (pv (q52 (l.map Ce.cl)))/\Below w.heap.size w w':=by
 obtain⟨a,len,cap,rfl⟩:=qg h.1;obtain⟨W,hW⟩ : ∃ W,W=w.alloc (.cells #[.slice a len cap] 26):=⟨_,rfl⟩
 have hB:Below w.heap.size w W:=by rw[hW];exact(Below.refl _ w).alloc (nlr _) _
 have hc:=q6s (.slice a len cap) (.slice none 0 0) l [] W (h.q8 hB) hl hok (Sl.nil _ _) (fun p hp=>by cases hp);have HC:=lhd hc;have HB:=lhd hB;obtain⟨K0,hK0⟩ : ∃ K0,K0=l.map Ce.cl:=⟨_,rfl⟩
 rw[<-hK0] at HC ⊢;have DF:=lhd hW;clear hc hB h hl hok hK0 hW;go_enter Tryz.func39,Tryz.ntmps39;go_wp2_with fail
 go_step3
 go_wp2_with fail;rw[<-DF.out];refine HC.out.mono ?_;rintro e w1 ⟨al,hr⟩;have aN:=lhd (HB.out.trans (al.mono HB.out.size));have mf:W.heap.size<=w1.heap.size:=al.size;clear al;rcases hr with ⟨E,h1,rfl,h2⟩ | ⟨h2,h3,T,rfl,h4⟩
 ·have hb:(E != 0)=true:=by simpa using h1
  have H:=lhd (aiq h1 h2);clear h1 h2;go_wp2_with fail
  (try rw[Exit.noGoto_ret])
  go_ret;have he:q52 K0=[]:=by
   unfold q52;rw[if_neg];intro hz;have:=H.out.2;unfold opE at this;rw[if_pos hz,qbb] at this;exact H.out.1 this.symm
  rw[he];exact⟨_,rfl,World.ownsRow_nil _ _ _ _,aN.out⟩
 obtain⟨BS,BH,BL,OP,a2,n,c,mm,hF,nm,JZ,FD,FE⟩:=h4.fm h3;have e1:mhi K0 []=zz:=rfl;have e2:mlo K0 []=zz:=rfl;rw[e1,e2] at hF;obtain⟨K,hK⟩ : ∃ K,K=canon K0:=⟨_,rfl⟩
 rw[<-hK] at hF;have hX:q52 K0=q3w K zz zz (K.map Cl.id):=by
  unfold q52;rw[h3,if_pos rfl,<-hK]
 have q0:=hF.fld.t0;have hlen:mm.length=n:=by
  obtain⟨_,_,_,he,_,_,h3,_⟩:=hF.fld.row.1;cases he
  rw[qt Ce.qp] at h3;omega
 have ak:BH≠BL:=hF.fld.ne.2.2.2.2;have dI:W.heap.size<=BH/\W.heap.size<=BL:=⟨FD,FE⟩
 have H:=lhd (aiq hF (aiq hX (aiq hlen (aiq ak dI))));clear h2 h3 h4 nm JZ FD FE e1 e2 hK hF hX hlen ak dI;go_wp2_with fail
 go_step3
 go_wp2_with fail;go_loopg [5,23] n (fun g so si wx=>∃ (k nn:Nat) (hi lo:Int->Int) (M:List (Int×Int)),k+g=n/\si = .int .i64 k/\nn<=k*5000/\M.length<=k/\Hid (Mst w1 wx K BH BL k so hi lo M nn))
 case atStart=>exact⟨0,0,zz,zz,[],by omega,rfl,by omega,nlr _,⟨World.ownsRow_nil _ _ _ _,by rw[List.drop_zero];rfl,H.out.1.mtc,H.out.1.ac,H.out.1.mH,H.out.1.mL,Gs.refl _ _⟩⟩
 case round =>
  obtain⟨k,nn,hi,lo,M,AE,rfl,jM,px,HS⟩:=hrel;cases gk with
  | zero =>
   obtain⟨vs,ns,cs,rfl⟩:=qg (Sl.qc HS.out.row);have hk:k=n:=by omega
   subst hk;go_wp2_with fail
   (try rw[Exit.noGoto_ret])
   go_ret;have he:q52 K0=M:=by
    rw[H.out.2.1,HS.out.eq,gW (by rw[gm,<-H.out.1.cl,gm,H.out.2.2.1];exact nlr _)];show M++[]=M;rw[gQ]
   rw[he];refine⟨_,rfl,qf HS.out.row aN.out.size,aN.out.trans (HS.out.gs.below aN.out.size fun b hb=>?_)⟩;have:=H.out.2.2.2.2;have h2:=HB.out.size;rcases hb with rfl | rfl <;> omega
  | succ g =>
   obtain⟨vs,ns,cs,rfl⟩:=qg (Sl.qc HS.out.row);have oC:k < n:=by omega
   have im:=H.out.1.fld.gs HS.out.gs;obtain⟨_,_,_,sU,y1,y2,y3,y4,y5⟩:=im.row.1;cases sU
   obtain⟨ad,rfl⟩ : ∃ ad,a2=some ad:=by
    cases a2 with
    | none=>have:=y4 rfl;omega
    | some ad=>exact⟨ad,rfl⟩
   obtain⟨x,hx⟩ : ∃ x,mm[k]? = some x:=⟨_,g8 (by rw[H.out.2.2.1];exact oC)⟩
   obtain⟨e0,e1,e2⟩:=zh mm k x hx;have d0:wr.cell? (ad.add (k*3))=some (.int .i64 x.id):=y5 ad rfl _ _ e0;have d1:wr.cell? ⟨(ad.add (k*3)).block,(ad.add (k*3)).off+1,none⟩=some (.int .i64 x.dim):=by rw[qi _ _ _ (by omega)];exact y5 ad rfl _ _ e1
   have d2:wr.cell? ⟨(ad.add (k*3)).block,(ad.add (k*3)).off+2,none⟩=some (.slice x.a x.n x.c):=by rw[qi _ _ _ (by omega)];exact y5 ad rfl _ _ e2
   have aZ:=gd hx;have FI:x.id∈K.map Cl.id:=by rw[<-H.out.1.cl];exact gE (f:=Cl.id) (gE aZ)
   have lJ:=q4s H.out.1.cl H.out.1.ok FI;obtain⟨ci,Kr⟩ : ∃ ci,ci=x.id:=⟨_,rfl⟩
   have vE:(K.map Cl.id).drop k=ci :: (K.map Cl.id).drop (k+1):=by
    have hl:k < (K.map Cl.id).length:=by rw[gm,<-H.out.1.cl,gm,H.out.2.2.1];exact oC
    rw[be hl]
    congr 1
    have:(K.map Cl.id)[k]? = some ci:=by
     rw[<-H.out.1.cl,List.map_map,List.getElem?_map,hx,Kr];rfl
    rw[g8 hl] at this;exact osi this
   rw[<-Kr] at d0 FI lJ;have WK:n<=4000:=by
    have h1:=H.out.1.good.len;rw[<-H.out.1.cl,gm,H.out.2.2.1] at h1;exact h1
   have HK:=lhd (aiq FI (aiq lJ (aiq vE im)));clear y1 y2 y3 y4 y5 e0 e1 e2 hx aZ FI lJ Kr vE im;go_upto_region 8 with fail;obtain⟨V,hV⟩ : ∃ V,V=wr.alloc (.cells #[.int .i64 ci,.int .i64 x.dim,.slice x.a x.n x.c] 75):=⟨_,rfl⟩
   obtain⟨pc,o9⟩ : ∃ pc,pc=wr.heap.size:=⟨_,rfl⟩
   have z0:V.cell? ⟨pc,0,none⟩=some (.int .i64 ci):=by rw[hV,o9];exact qd wr _ _ (0,0) 0
   have aD:Below wr.heap.size wr V:=by rw[hV];exact(Below.refl _ wr).alloc (nlr _) _
   rw[<-o9,<-hV];have t0:=(HK.out.2.2.2.q8 aD).t0;have B8:Below V.heap.size V V.drew:=qb (Below.refl _ V) 1;have cy:=fun (U:World) (hU:Below V.heap.size V U)=>qla (.slice (some ad) n c) mm ci U ((HK.out.2.2.2.q8 (aD.trans (hU.mono aD.size))).row) (by rw[H.out.2.2.1];omega) H.out.1.ok
   rw[H.out.1.cl] at cy;have ue:=lhd cy;have ur:Hid (∀ U,Below V.heap.size V U->U.cell? ⟨T,0,none⟩=some (.slice (some ad) n c)/\U.cell? ⟨pc,0,none⟩=some (.int .i64 ci)):=fun U hU=>⟨Cx.q8 hU t0,Cx.q8 hU z0⟩
   have mx:=lhd (aiq aD (aiq z0 o9));clear cy hV o9 aD z0 t0 d0 d1 d2
   go_region_held_law (fun U=>U.cell? ⟨T,0,none⟩=some (.slice (some ad) n c)/\U.cell? ⟨pc,0,none⟩=some (.int .i64 ci)) (first | exact ur.out _ B8 | exact ur.out _ B9 | fail)
    (first | (go_at_call 99;refine(ue.out _ B8).mono ?_;rintro e w9 ⟨r9,rfl,fe,nU⟩;obtain⟨v9,n9,c9,rfl⟩:=qg (Sl.qc fe);have B9:Below V.heap.size V w9:=B8.trans (nU.mono B8.size)))
   have yS:Below wr.heap.size wr w9:=mx.out.1.trans (B9.mono mx.out.1.size);have Un:=lhd (HS.out.q8 yS);obtain⟨ab,qM⟩ : ∃ ab,ab=kd K ci:=⟨_,rfl⟩
   rw[<-qM] at fe;have qN:n9=ab.length:=by
    obtain⟨_,_,_,he,_,_,h3,_⟩:=(Sl.qc fe);cases he;rw[xl] at h3;omega
   have Uo:n9<=4000:=by
    rw[qN,qM];unfold kd;rw[gm,H.out.1.good.cells.2];exact gn (bg _ _) H.out.1.good.len
   have DG:∀ h∈ab,I64 h:=fun h hh=>by
    rw[qM] at hh;obtain⟨y,hy,rfl⟩:=qiz hh;rw[H.out.1.good.cells.2] at hy;exact q4s H.out.1.cl H.out.1.ok (gE hy)
   have yT:BH < w1.heap.size/\BL < w1.heap.size:=⟨H.out.1.mH.lt,H.out.1.mL.lt⟩
   have Pf:w1.heap.size<=wr.heap.size:=HS.out.gs.size;have DH:w9.cell? ⟨pc,0,none⟩=some (.int .i64 ci):=Cx.q8 B9 mx.out.2.1;have far:∀ U,Gs (HL BH BL) w9 U->U.cell? ⟨pc,0,none⟩=some (.int .i64 ci)/\Sl U 1 (.slice v9 n9 c9) (ints ab):=fun U hU=>by
    have o9:=mx.out.2.2;refine⟨hU.cell (fun e=>by rcases e with e | e <;> (have e:pc=_:=e) <;> omega) DH,hU.sl (Sl.qc fe) fun Pg n' c' he _ hb=>?_⟩;have h2:=mx.out.1.size;obtain⟨g',Up,ij⟩ : ∃ g,(Value.slice v9 n9 c9).ownBlock=some g/\g=Pg.block:=by rw[he];exact⟨_,by cases Pg;rfl,rfl⟩
    have:=(fe.lt g' Up).1;have h3:=B8.size;rcases hb with hb | hb <;> omega
   have qO:=lhd far;have kB:=lhd (aiq qM (aiq qN (aiq DG (aiq yT (aiq Pf yS)))));clear far fe qM qN DG yT Pf DH yS nU B9 B8 ue;go_wp2_with fail;go_loopg [5,35] n9 (fun gi so si wx=>∃ (j nj:Nat),j+gi=n9/\si = .int .i64 j/\so = .slice vs ns cs/\nj<=k*5000+j/\Hid (firstM K hi lo ci ab=firstM K hi lo ci (ab.drop j)/\Mst w1 wx K BH BL k (.slice vs ns cs) hi lo M nj/\Gs (HL BH BL) w9 wx))
   case atStart=>exact⟨0,nn,by omega,rfl,rfl,by omega,by rw[List.drop_zero],Un.out,Gs.refl _ _⟩
   case round =>
    obtain⟨j,nj,Pj,rfl,rfl,WL,HI⟩:=hrel;cases gk with
    | zero =>
     have hj:¬ ((j:Int) < (n9:Int)):=by omega
     go_wp2_with fail;go_roundg g
     case measure=>omega
     case rel =>
      refine⟨k+1,nj,hi,lo,M,by omega,qh (by omega),by omega,by omega,(show Hid _ from ?_)⟩;obtain⟨i1,i2,i3⟩:=HI.out;refine⟨i2.row,?_,i2.mt,i2.ac,i2.mH,i2.mL,i2.gs⟩;rw[i2.eq,HK.out.2.2.1,jk];rw[<-kB.out.1,i1,gW (by rw[<-kB.out.2.1];omega)];rfl
    | succ gj =>
     have tM:j < n9:=by omega
     obtain⟨_,_,_,sU,y1,y2,y3,y4,y5⟩:=(qO.out wr HI.out.2.2).2;cases sU
     obtain⟨Pk,rfl⟩ : ∃ ad,v9=some ad:=by
      cases v9 with
      | none=>have:=y4 rfl;omega
      | some ad=>exact⟨ad,rfl⟩
     obtain⟨h,hh⟩ : ∃ h,ab[j]? = some h:=⟨_,g8 (by rw[<-kB.out.2.1];exact tM)⟩
     have d0:wr.cell? (Pk.add j)=some (.int .i64 h):=y5 Pk rfl _ _ (by simp[ints,hh]);have p0:=(qO.out wr HI.out.2.2).1;have nS:=kB.out.2.2.1 h (gd hh);have Cf:ab.drop j=h :: ab.drop (j+1):=by
      obtain⟨hl,he⟩:=gc.1 hh;rw[be hl,he]
     have im:=H.out.1.fld.gs HI.out.2.1.gs;have fz:=qih im (by rw[H.out.1.cl];exact H.out.1.good.asc) HI.out.2.1.mH HI.out.2.1.mL ci h HK.out.2.1 nS;rw[H.out.1.cl] at fz;have pY:=lhd fz;have HH:=lhd (aiq Cf (aiq nS im));have t2:=im.t2;have t3:=im.t3;clear y1 y2 y3 y4 y5 hh Cf im fz nS;go_wp2_with fail;refine pY.out.mono ?_;rintro e oH ⟨rfl,yU⟩;have yU:=yU.symm;subst yU;by_cases hf:kc K hi lo ci h=true
     case neg =>
      have hf:kc K hi lo ci h=false:=by simpa using hf
      have lq:=lhd hf;rw[hf];clear hf t2 t3 d0 p0;go_wp2_with fail;go_roundg gj
      case measure=>omega
      case rel =>
       refine⟨j+1,nj,by omega,qh (by omega),rfl,by omega,(show Hid _ from⟨?_,HI.out.2.1,HI.out.2.2⟩)⟩;rw[HI.out.1,HH.out.1,q4u (.inl lq.out)]
     have lq:=lhd hf;rw[hf];clear hf d0;go_upto_region 12 with fail;have Uq:BH < wr.heap.size/\BL < wr.heap.size:=⟨HI.out.2.1.mH.lt,HI.out.2.1.mL.lt⟩
     have rH:T≠BH/\T≠BL:=⟨H.out.1.fld.ne.1,H.out.1.fld.ne.2.1⟩
     have fA:∀ U,Gs (HL BH BL) wr.drew U->U.cell? ⟨T,2,none⟩=some (.map (some BH))/\U.cell? ⟨T,3,none⟩=some (.map (some BL))/\U.cell? ⟨pc,0,none⟩=some (.int .i64 ci):=fun U hU=>by
      have hT:¬ HL BH BL T:=fun e=>e.elim rH.1 rH.2
      have FJ:Gs (HL BH BL) w9 U:=(HI.out.2.2.drew).trans hU;exact⟨hU.cell hT t2,hU.cell hT t3,(qO.out U FJ).1⟩
     have KV:=lhd fA;obtain⟨hA,hB⟩:=qeg (w:=wr.drew) (HI.out.2.1.mH.q8 (qb (Below.refl _ wr) 1)) (HI.out.2.1.mL.q8 (qb (Below.refl _ wr) 1)) H.out.2.2.2.1 h ci HK.out.2.1 HH.out.2.1 (by unfold maxLen;omega) (by unfold maxLen;omega);unfold qbc at hA hB;obtain⟨vA,sA,T0,Ox,Fo,⟨T3,T4,T5,T6,T7,Oy,Fp,Oz,Fq,O0,Dj⟩,T8,T9,TA,TB,TC,TD,J9,O1,Fs,O2,Fu,O3,Dk,O4,Fv,Dl,pZ⟩:=hA;obtain⟨vB,sB,TE,O5,Fw,⟨TF,TG,TH,TI,TJ,O6,Fx,O7,Fy,O8,Dm⟩,TK,TL,TM,TN,TO,TP,JA,O9,Fz,OA,F0,OB,Dn,OC,F2,Dp,qA⟩:=hB;have aJ:=lhd (aiq Dj (aiq Dk (aiq pZ (aiq Dm (aiq Dn qA)))));clear fA Uq rH Dj Dk pZ Dm Dn qA p0
     go_cut [47] from 45 to 62 (fun _ wx=>Hid (qiv wr.drew wx BH BL nj nj hi lo ci h h ci))
     case first =>
      rename_i J K2 hJ jC
      go_region_held (fun w'=>w'.cell? ⟨T,2,none⟩=some (.map (some BH))/\w'.cell? ⟨T,3,none⟩=some (.map (some BL))/\w'.cell? ⟨pc,0,none⟩=some (.int .i64 ci)) (first | exact KV.out _ (Gs.refl _ _) | exact KV.out _ Fo | exact KV.out _ Fp | exact KV.out _ Fq | exact KV.out _ Fs | exact KV.out _ Fu | exact KV.out _ Fv | exact KV.out _ Fw | exact KV.out _ Fx | exact KV.out _ Fy | exact KV.out _ Fz | exact KV.out _ F0 | exact KV.out _ F2 | exact KV.out _ aJ.out.1.2.2 | exact KV.out _ aJ.out.2.1.2.2 | exact KV.out _ aJ.out.2.2.1.2.2 | exact KV.out _ aJ.out.2.2.2.1.2.2 | exact KV.out _ aJ.out.2.2.2.2.1.2.2 | exact KV.out _ aJ.out.2.2.2.2.2.2.2 | fail) (fail)
      all_goals
       ((try go_step);refine jC _ _ (Met.intro ?_);refine hJ _ _ ?_;(repeat apply Exists.intro);refine⟨?rel,rfl⟩)
       case rel=>first | exact aJ.out.1 | exact aJ.out.2.1 | exact aJ.out.2.2.1 | exact aJ.out.2.2.2.1 | exact aJ.out.2.2.2.2.1 | exact aJ.out.2.2.2.2.2
     case rest =>
      obtain⟨sV,DI,cJ⟩:=hcut.out;have lO:Gs (HL BH BL) w1 wc:=(HI.out.2.1.gs.drew).trans cJ;have oh:Gs (HL BH BL) w9 wc:=(HI.out.2.2.drew).trans cJ;have DJ:Gs (HL BH BL) wr wc:=((Gs.refl _ wr).drew).trans cJ;have Pm:=(qO.out wc oh).1;have oi:=q9d H.out.1.good HI.out.2.1.mt lq.out;have DK:=H.out.1.fld.gs lO;have kC:=H.out.1.good;have DL:h≠0:=by
       have:=(kC.q3h (q2c.1 lq.out).1).2.2;omega
      have yE:=qax DK (by rw[H.out.1.cl];exact kC.asc) H.out.1.ok sV (fun d hd=>by rw[H.out.1.cl];exact q92 (oi.sg d hd)) ci (by rw[q35];exact DL) HK.out.2.1 (by
       rw[H.out.1.cl];have h1:=q4r kC.few;have h2:=kC.len;unfold j6;omega)
      rw[H.out.1.cl] at yE;have JC:=lhd yE;have fD:=DJ.row HI.out.2.1.row (fun b hb=>by
       have h1:=(HI.out.2.1.row.lt b hb).1;have h2:=kB.out.2.2.2.1;intro hh;rcases hh with hh | hh <;> omega)
      have HP:=lhd (aiq sV (aiq DI (aiq lO (aiq oh (aiq oi (aiq DK fD))))));clear sV DI lO oh DJ oi DK kC DL yE fD cJ hcut Ox Fo Oy Fp Oz Fq O0 O1 Fs O2 Fu O3 O4 Fv Dl O5 Fw O6 Fx O7 Fy O8 O9 Fz OA F0 OB OC F2 Dp t2 t3;go_wp2_with fail;refine JC.out.mono ?_;rintro e oI ⟨q,rfl,hq,ff⟩;have HQ:=lhd hq;have kD:=lhd ff;have Pn:=Cx.q8 ff Pm;have lP:=qa HP.out.2.2.2.2.2.2 ff;have Ks:=HP.out.2.2.2.2.2.1.q8 ff;have t2:=Ks.t2;have t3:=Ks.t3;clear hq ff Pm Ks;cases q with
      | false =>
       clear t2 t3;go_wp2_with (at_builtin;refine qo (W:=oI) rfl _ _ 48 rfl w1.heap.size 50 jw Tryz.underlying48 rfl (by decide) (by decide) _ M.length (pv M) rfl lP [.int .i64 ci,.int .i64 h] rfl rfl (q9j _ _) ?p2 (Below.refl _ _) ?p3 ?_)
       case p2=>omega
       case p3=>exact gn HP.out.2.2.1.size kD.out.size
       intro v' w' r1 r2 r3;have Ur:=lhd (aiq r1 (aiq r2 r3));obtain⟨vx,nx,cx,rfl⟩:=qg (Sl.qc r1);clear r1 r2 r3 lP;go_wp2_with fail;go_roundg g
       case measure=>omega
       case rel =>
        obtain⟨r1,r2,r3⟩:=Ur.out;obtain⟨sV,DI,lO,oh,oi,DK,fD⟩:=HP.out;have oY:∀ b,(Value.slice vs ns cs).ownBlock=some b->w1.heap.size<=b:=fun b hb=>(fD.lt b hb).1
        have yT:=kB.out.2.2.2.1;refine⟨k+1,nj+1,pu hi ci h,pu lo h ci,M++[(ci,h)],by omega,qh (by omega),by omega,by rw[gl];show M.length+1<=_;omega,(show Hid _ from⟨?_,?_,oi,?_,?_,?_,?_⟩)⟩
        ·rw[gl,show pv (M++[(ci,h)])=pv M++[.int .i64 ci,.int .i64 h] by simp[pv]];exact r1
        ·rw[HI.out.2.1.eq,HK.out.2.2.1,q00 (h:=h)]
         ·rw[gz];rfl
         ·rw[<-kB.out.1,HI.out.1,HH.out.1];exact vo lq.out fun hc=>absurd (HQ.out.2 hc) (by decide)
        ·exact qiq HI.out.2.1.ac fun hc=>absurd (HQ.out.2 hc) (by decide)
        ·exact(sV.q8 kD.out).kept r2 (fun e=>by have:=oY BH e.symm;omega)
        ·exact(DI.q8 kD.out).kept r2 (fun e=>by have:=oY BL e.symm;omega)
        ·exact(lO.trans (Gs.xh kD.out)).grown r2 (fun b hb=>.inl (oY b hb))
      | true =>
       have m1:MpI oI.drew BH (nj+1) (pu hi ci h):=HP.out.1.q8 (qb kD.out 1);have m2:MpI oI.drew BL (nj+1) (pu lo h ci):=HP.out.2.1.q8 (qb kD.out 1);obtain⟨Kt,Us,Po,Ku⟩:=m1.del HK.out.2.1 0;have yW:=H.out.2.2.2.1;have m3:=m2.kept Ku (fun e=>yW (osi e).symm);obtain⟨Pp,WM,DM,Kv⟩:=m3.del HH.out.2.1 0;have DN:=Po.kept Kv (fun e=>yW (osi e));have rH:T≠BH/\T≠BL:=⟨H.out.1.fld.ne.1,H.out.1.fld.ne.2.1⟩
       have DO:Gs (HL BH BL) oI oI.drew:=(Gs.refl _ oI).drew;have qP:Gs (HL BH BL) oI Kt:=DO.ent Ku (.inl rfl);have te:Gs (HL BH BL) oI Pp:=qP.ent Kv (.inr rfl);have Kw:¬ HL BH BL T:=fun e=>e.elim rH.1 rH.2
       have Pq:=qP.cell Kw t2;have WN:=qP.cell Kw t3;have h9:Gs (HL BH BL) w9 Kt:=(HP.out.2.2.2.1.trans (Gs.xh kD.out)).trans qP;have pd:=(qO.out Kt h9).1;have HD:=lhd (aiq DN (aiq DM te));clear m1 m2 Po Ku m3 Kv DM DN yW rH DO qP te Kw h9 lP;go_upto_region 15 with fail
       go_region_held (fun U=>U.cell? ⟨T,2,none⟩=some (.map (some BH))/\U.cell? ⟨pc,0,none⟩=some (.int .i64 ci)) (first | exact⟨t2,Pn⟩ | exact⟨Pq,pd⟩ | fail) (fail)
       all_goals
        clear t2 t3 Pn Us Pq pd;go_wp2_with fail;go_roundg gj
        case measure=>omega
        case rel =>
         obtain⟨DN,DM,te⟩:=HD.out;obtain⟨sV,DI,lO,oh,oi,DK,fD⟩:=HP.out;obtain⟨f1,f2,f3,f4,f5⟩:=q2c.1 lq.out;rw[qej f2] at DN;rw[qej f5] at DM;have pK:Gs (HL BH BL) wc Pp:=(Gs.xh kD.out).trans te;refine⟨j+1,nj+1,by omega,qh (by omega),rfl,by omega,(show Hid _ from⟨?_,⟨?_,HI.out.2.1.eq,HI.out.2.1.mt,HI.out.2.1.ac,DN,DM,lO.trans pK⟩,oh.trans pK⟩)⟩
         ·rw[HI.out.1,HH.out.1];exact q4u (.inr (HQ.out.1 trivial))
         ·refine pK.row fD fun b hb hh=>?_
          have h1:=(fD.lt b hb).1;have h2:=kB.out.2.2.2.1;rcases hh with hh | hh <;> omega
end Go.Proofs.YtlhicnfeajejhaaGreatDoor
namespace Go.Proofs.YtlhicnfeajejhaaGreatDoor
open Go.RowKit Go.Cx
inductive Mok
 | any
 | tt
 | val (v:Value)
 | cx (K:List Cl)
 | prs (l:List (Int×Int))
 | idl (l:List Int)
 | ch (L:List (Int×Int))
 | cel (x:Int)
 | mat (r c:Nat) (l:List Int)
def Mok.holds:Mok->Value->World->Prop
 | .any,_,_=>True
 | .tt,v,_=>v = .bool true
 | .val x,v,_=>v=x
 | .cx K,v,w=>∃ u l,v = .agg #[u]/\SlC w u l/\l.map Ce.cl=K
 | .prs l,v,w=>Sl w 2 v (pv l)
 | .idl l,v,w=>Sl w 1 v (ints l)
 | .ch L,v,w=>Sl w 3 v (tv (ctm L))
 | .cel x,v,w=>∃ p,v = .pointer (some p)/\w.cell? p=some (.int .i64 x)
 | .mat r c l,v,w=>∃ u,v = .agg #[.int .i64 r,.int .i64 c,u]/\Sl w 2 u (wvs l)
theorem Mok.q8 {k:Mok} {v:Value} {w w':World} (h:k.holds v w) (hb:Below w.heap.size w w'):k.holds v w':=by
 cases k with
 | any=>trivial
 | tt=>exact h
 | val x=>exact h
 | cx K=>obtain⟨u,l,h1,h2,h3⟩:=h;exact⟨u,l,h1,h2.mono fun p u hc=>Cx.q8 hb hc,h3⟩
 | prs l=>exact Sl.q8 h hb
 | idl l=>exact Sl.q8 h hb
 | ch L=>exact Sl.q8 h hb
 | cel x=>obtain⟨p,h1,h2⟩:=h;exact⟨p,h1,Cx.q8 hb h2⟩
 | mat r c l=>obtain⟨u,h1,h2⟩:=h;exact⟨u,h1,h2.q8 hb⟩
def Gvs (k:Mok) (w:World) (e:Ending) (w':World):Prop:=∃ r,e = .returned r/\k.holds r w'/\Below w.heap.size w w'
section
variable {P:Program} {Q:Exit->Act->World->Prop} {o:Oper} {a:Act} {w:World} {k:Mok}
def Stm (P:Program) (Q:Exit->Act->World->Prop) (k:Mok) (o:Oper) (a:Act) (w:World):Prop:=Oper.wp P o a w (fun a' w''=>∃ v,a'=a.put o.dst v/\k.holds v w''/\Below w.heap.size w w'') Q
theorem jf (x:Operand) (aU:o.op = .move x\/o.op = .assign x) (h:k.holds (a.eval x) w):Stm P Q k o a w:=q1b x aU ⟨_,rfl,h,Below.refl _ _⟩
theorem jx (c x y:Operand) (aU:o.op = .pick c x y) (hc:a.eval c = .bool true) (h:k.holds (a.eval x) w):Stm P Q k o a w:=qka c x y aU hc ⟨_,rfl,h,Below.refl _ _⟩
theorem xz (f:Nat) (xs:Array Operand) (ts:Array TypeId) (aU:o.op = .call { callee:=.value (.func f),args:=xs,argTypes:=ts }) (ef:∀ args w,(callFunc f args).run P w = .ok (.enter f args) w)
  (vs:Array Value) (hv:xs.map a.eval=vs) (h:Calls P f vs w (Gvs k w)):Stm P Q k o a w :=
 qdj f xs ts aU ef vs hv (h.mono fun _ _ ⟨r,he,hk,hb⟩=>⟨r,he,r,rfl,hk,hb⟩)
theorem zr (t:Nat) (x:Operand) (aU:o.op = .load t x) (v1:Value) (h1:a.eval x=v1) (v:Value) (ck:(Instr.loadAt t v1).run P w = .ok v w) (h:k.holds v w):Stm P Q k o a w:=q8o t x aU v1 h1 v ck ⟨_,rfl,h,Below.refl _ _⟩
theorem jo (t:Nat) (parts:Array (Nat×Operand)) (aU:o.op = .build t parts) (eB:Array (Nat×Value)) (hp:parts.map (fun p=>(p.1,a.eval p.2))=eB) (v:Value)
  (ck:(Instr.build t eB).run P w = .ok v w) (h:k.holds v w):Stm P Q k o a w:=qh5 t parts aU eB hp v ck ⟨_,rfl,h,Below.refl _ _⟩
theorem kx (op:BinOp) (t t2:Nat) (x y:Operand) (aU:o.op = .binOp op t x y t2) (v1 v2:Value) (h1:a.eval x=v1) (h2:a.eval y=v2) (v:Value) (he:(eqGuard op t x y v1 v2).run P w = .ok () w) (ck:(Go.binOp op t v1 v2).run P w = .ok v w) (h:k.holds v w):Stm P Q k o a w :=
 qnf op t t2 x y aU v1 v2 h1 h2 v he ck ⟨_,rfl,h,Below.refl _ _⟩
theorem q2x (t n:Nat) (parts:Array (Nat×Operand)) (aU:o.op = .buildSlice t n parts) (eB:Array (Nat×Value)) (hp:parts.map (fun p=>(p.1,a.eval p.2))=eB) (cells:Array Value) (e:TypeId)
  (ck:(Instr.buildSlice t n eB).run P w = .ok (.slice (some ⟨w.heap.size,0,none⟩) n n) (w.alloc (.cells cells e))) (h:k.holds (.slice (some ⟨w.heap.size,0,none⟩) n n) (w.alloc (.cells cells e))):Stm P Q k o a w :=
 q5z t n parts aU eB hp _ _ ck ⟨_,rfl,h,(Below.refl _ _).alloc (nlr _) _⟩
end
theorem q5h {Q:Exit->Act->World->Prop} {o:Oper} {a:Act} {w:World} (x:Operand) (l:List Int) (aU:o.op = .call { callee:=.builtin .len,args:=#[x],argTypes:=#[22] }) (h:(Mok.idl l).holds (a.eval x) w):Stm Tryz.prog Q (.val (.int .i64 l.length)) o a w:=by
 obtain⟨ad,n,c,he,_,_,h3,_⟩:=h;rw[xl] at h3;have hn:n=l.length:=by omega
 subst hn;exact qi5 x aU Tryz.underlying22 ad _ c he ⟨_,rfl,rfl,Below.refl _ _⟩
theorem qj0 {Q:Exit->Act->World->Prop} {o:Oper} {a:Act} {w:World} (x y:Operand) (z:Int) (l:List Int) (aU:o.op = .indexAddr 22 x y) (hy:a.eval y = .int .i64 0) (h:(Mok.idl (z :: l)).holds (a.eval x) w):Stm Tryz.prog Q (.cel z) o a w:=by
 obtain⟨ad,n,c,he,h1,h2,h3,h4,h5⟩:=h;rw[xl] at h3;have hn:n=l.length+1:=by simp at h3;omega
 subst hn;cases ad with
 | none=>have:=h4 rfl;omega
 | some p =>
  have hc:=h5 p rfl 0 _ rfl;have hp:p.add 0=p:=by unfold Addr.add;simp
  rw[hp] at hc;refine qc9 22 x y aU _ _ he hy (.pointer (some p)) ?_ ⟨_,rfl,⟨p,rfl,hc⟩,Below.refl _ _⟩;have g2:(0:Int) < ((l.length+1:Nat):Int):=by omega
  have g3:(((0:Int)).toNat)=0:=rfl;simp[go_sem,hp]
def tmV (c x:Int):Value:=.agg #[.int .i64 c,.bool (decide (x < 0)),.string (mg x)]
theorem qoh (w:World) (c x:Int):(Instr.build 71 #[(0,.int .i64 c),(1,wv x)]).run Tryz.prog w = .ok (tmV c x) w:=by
 show (Instr.build 71 #[(0,.int .i64 c),(1,.agg #[.bool (decide (x < 0)),.string (mg x)])]).run Tryz.prog w=_;unfold tmV;simp[go_sem]
theorem qfx (w:World) (x y:Int):(Instr.build 50 #[(0,.int .i64 x),(1,.int .i64 y)]).run Tryz.prog w = .ok (.agg #[.int .i64 x,.int .i64 y]) w:=by
 simp[go_sem]
section
variable (v u:Value) (K:List Cl) (ps:List (Int×Int)) (w:World) (h:(Mok.cx K).holds v w) (hK:KOk K) (hl:K.length<=1000)
include h hK hl
theorem qj1 (M:List (Int×Int)) (hM:q52 K=M):Calls Tryz.prog 39 #[v] w (Gvs (.prs M) w):=by
 obtain⟨x,l,rfl,h1,h2⟩:=h;have bH:l.length<=1000:=by rw[<-h2,gm] at hl;exact hl
 refine(qm1 x l w h1 (by omega) (hK.cok h2)).mono ?_;rintro e w' ⟨r,rfl,hr,hb⟩;rw[h2,hM] at hr;exact⟨r,rfl,Sl.qc hr,hb⟩
variable (k:(Mok.prs ps).holds u w) (hp:∀ p∈ps,I64 p.1/\I64 p.2)
include k hp
theorem qcw (E:Int) (hE:opE K ps=E):Calls Tryz.prog 43 #[v,u] w (Gvs (.val (.int .i64 E)) w):=by
 obtain⟨x,l,rfl,h1,h2⟩:=h;have bH:l.length<=1000:=by rw[<-h2,gm] at hl;exact hl
 refine(qlz x u l ps w h1 (by omega) (hK.cok h2) k hp).mono ?_;rintro e w' ⟨rfl,hb⟩;rw[h2,hE];exact⟨_,rfl,rfl,hb⟩
theorem qbf (d:Int) (I:List Int) (hI:yt K ps d=I):Calls Tryz.prog 45 #[v,u,.int .i64 d] w (Gvs (.idl I) w):=by
 obtain⟨x,l,rfl,h1,h2⟩:=h;have bH:l.length<=1000:=by rw[<-h2,gm] at hl;exact hl
 refine(qcv x u l ps w h1 (by omega) (hK.cok h2) k hp d).mono ?_;rintro e w' ⟨r,rfl,hr,hb⟩;rw[h2,hI] at hr;exact⟨r,rfl,Sl.qc hr,hb⟩
theorem qmo (c:Value) (L M:List (Int×Int)) (hc:(Mok.ch L).holds c w) (hL:LOk 100 L) (wK:L.length<=1000) (hM:Cn M) (hf:q4t K ps (co L)=co M):Calls Tryz.prog 51 #[v,u,c] w (Gvs (.ch M) w):=by
 obtain⟨x,l,rfl,h1,h2⟩:=h;have bH:l.length<=1000:=by rw[<-h2,gm] at hl;exact hl
 refine(qm0 x u l ps w h1 (by omega) (hK.cok h2) k hp c (ctm L) 100 hc hL.tok (by rw[qz];omega)).mono ?_;rintro e w' ⟨r,N,rfl,hN,eP,hr,_,_,hb⟩;rw[h2,zv,hf] at eP;have:=Cn.uniq hN hM fun c=>congrFun eP c
 subst this;exact⟨r,rfl,Sl.qc hr,hb⟩
theorem kUp (d:Int) (hd:I64 d) (M:List (Int×Int)) (hM:Cn M) (hf:upX K ps d=co M):Calls Tryz.prog 46 #[v,u,.int .i64 d] w (Gvs (.ch M) w):=by
 obtain⟨x,l,rfl,h1,h2⟩:=h;have bH:l.length<=1000:=by rw[<-h2,gm] at hl;exact hl
 refine(qpf x u l ps w h1 (by omega) (hK.cok h2) k hp d hd).mono ?_;rintro e w' ⟨r,N,rfl,hN,eP,hr,_,_,hb⟩;rw[h2,hf] at eP;have:=Cn.uniq hN hM fun c=>congrFun eP c
 subst this;exact⟨r,rfl,Sl.qc hr,hb⟩
end
theorem qj2 (v u:Value) (L:List (Int×Int)) (w:World) (h:(Mok.ch L).holds v w) (k:(Mok.ch L).holds u w):Calls Tryz.prog 23 #[v,u] w (Gvs .tt w):=by
 refine(svSame' v u L w h k).mono ?_;rintro e w' ⟨r,rfl,hr,hb⟩;exact⟨r,rfl,hr,hb⟩
theorem qj3 (v u:Value) (l:List (Int×Int)) (w:World) (h:(Mok.prs l).holds v w) (k:(Mok.prs l).holds u w):Calls Tryz.prog 41 #[v,u] w (Gvs .tt w):=by
 refine(qo7 v u l l w h k).mono ?_;rintro e w' ⟨q,rfl,hq,hb⟩;exact⟨_,rfl,congrArg Value.bool (hq.2 rfl),hb⟩
theorem qm2 (x:Int) (w:World):Calls Tryz.prog 52 #[.int .i64 x] w (Gvs (.ch [(x,1)]) w) :=
 (qpa x w).mono fun _ _ ⟨r,he,hs,hb⟩=>⟨r,he,hs,hb⟩
theorem qmp (x:Int) (w:World) (h:I64 x):Calls Tryz.prog 29 #[.int .i64 x] w (Gvs (.val (wv x)) w) :=
 (q58 x w h.1 h.2).mono fun _ _ ⟨he,hb⟩=>⟨_,he,rfl,hb⟩
theorem q0f:∀ args w,(callFunc 43 args).run Tryz.prog w = .ok (.enter 43 args) w:=k8 Tryz.func43 (by kernel_rfl) (by kernel_rfl)
theorem je:∀ args w,(callFunc 45 args).run Tryz.prog w = .ok (.enter 45 args) w:=k8 Tryz.func45 (by kernel_rfl) (by kernel_rfl)
theorem q36:∀ args w,(callFunc 51 args).run Tryz.prog w = .ok (.enter 51 args) w:=k8 Tryz.func51 (by kernel_rfl) (by kernel_rfl)
theorem qbg:∀ args w,(callFunc 46 args).run Tryz.prog w = .ok (.enter 46 args) w:=k8 Tryz.func46 (by kernel_rfl) (by kernel_rfl)
theorem ky:∀ args w,(callFunc 52 args).run Tryz.prog w = .ok (.enter 52 args) w:=k8 Tryz.func52 (by kernel_rfl) (by kernel_rfl)
end Go.Proofs.YtlhicnfeajejhaaGreatDoor
namespace Go.Cx
open Go.Proofs.YtlhicnfeajejhaaGreatDoor
theorem yu:canon K1=K1:=by rw[<-q3x];exact yh _ _
theorem jy:canon K2=K2:=by rw[<-q3y];exact yh _ _
def m1:List (Int×Int):=[(1,4),(2,6),(5,7)]
def m2:List (Int×Int):=[(1,4),(2,6)]
theorem qj4:opE K1 m1=0:=by unfold opE;rw[qcg,if_pos rfl,yu];exact qnr
theorem qpg:opE K2 m2=0:=by unfold opE;rw[q4h,if_pos rfl,jy];exact qns
theorem qq8:opE K2 [(1,4),(2,6),(3,5)]=43:=by unfold opE;rw[q4h,if_pos rfl,jy];exact qnt
theorem qq9:opE K2 [(1,4),(1,5)]=42:=by unfold opE;rw[q4h,if_pos rfl,jy];exact qnu
theorem qqa:opE K2 [(1,6)]=42:=by unfold opE;rw[q4h,if_pos rfl,jy];exact qnv
theorem qbh:mhi K1 m1=hi1:=by unfold mhi;rw[yu,show xk K1 zz zz m1=some (hi1,lo1) from qci];rfl
theorem qbi:mlo K1 m1=lo1:=by unfold mlo;rw[yu,show xk K1 zz zz m1=some (hi1,lo1) from qci];rfl
theorem qj5:mhi K2 m2=hi2:=by unfold mhi;rw[jy,show xk K2 zz zz m2=some (hi2,lo2) from qcj];rfl
theorem qmq:mlo K2 m2=lo2:=by unfold mlo;rw[jy,show xk K2 zz zz m2=some (hi2,lo2) from qcj];rfl
theorem qph:yt K1 m1 0=[3]:=by unfold yt;rw[if_pos qj4,qbh,qbi,yu];exact qck.1
theorem qpi:yt K1 m1 1=[]:=by unfold yt;rw[if_pos qj4,qbh,qbi,yu];exact qck.2.1
theorem qpj:yt K1 m1 2=[]:=by unfold yt;rw[if_pos qj4,qbh,qbi,yu];exact qck.2.2
theorem qpk:yt K2 m2 1=[5]:=by unfold yt;rw[if_pos qpg,qj5,qmq,jy];exact qny
theorem qqb:q52 K1=m1:=by unfold q52;rw[qcg,if_pos rfl,yu];exact qnw
theorem qqc:q52 K2=m2:=by unfold q52;rw[q4h,if_pos rfl,jy];exact qnx
theorem qqd:q4t K1 m1 (co [(1,1)])=co [(3,1)]:=by unfold q4t;rw[if_pos qj4,qbh,qbi,yu,Go.Proofs.YtlhicnfeajejhaaGreatDoor.vg,Go.Proofs.YtlhicnfeajejhaaGreatDoor.vg];exact qob
theorem qqe:q4t K1 m1 (co [(2,1)])=co [(3,1)]:=by unfold q4t;rw[if_pos qj4,qbh,qbi,yu,Go.Proofs.YtlhicnfeajejhaaGreatDoor.vg,Go.Proofs.YtlhicnfeajejhaaGreatDoor.vg];exact qoc
theorem qqf:upX K2 m2 5=co [(4,-1),(5,1),(6,-1)]:=by
 unfold upX;rw[if_pos ⟨qpg,by rw[jy];decide,by rw[qj5,qmq];decide⟩,qj5,jy,qq6];funext d
 show _=(if (4:Int)=d then -1 else 0)+((if (5:Int)=d then 1 else 0)+((if (6:Int)=d then -1 else 0)+0))
 by_cases h4:d=4
 ·subst h4;rfl
 ·by_cases h5:d=5
  ·subst h5;rfl
  ·by_cases h6:d=6
   ·subst h6;rfl
   ·rw[if_neg h5,if_neg h4,if_neg h6,if_neg (fun e=>h4 e.symm),if_neg (fun e=>h5 e.symm),if_neg (fun e=>h6 e.symm)];rfl
end Go.Cx
namespace Go.Proofs.YtlhicnfeajejhaaGreatDoor
open Go.RowKit Go.Cx
theorem q6x:KOk K1:=qkt
theorem q89:KOk K2:=fun x hx=>q6x x (by
 simp only [K2,List.mem_cons,List.not_mem_nil,or_false] at hx;simp only [K1,List.mem_cons,List.not_mem_nil,or_false];rcases hx with h | h | h | h | h | h
 ·exact .inl h
 ·exact .inr (.inl h)
 ·exact .inr (.inr (.inl h))
 ·exact .inr (.inr (.inr (.inl h)))
 ·exact .inr (.inr (.inr (.inr (.inl h))))
 ·exact .inr (.inr (.inr (.inr (.inr (.inl h))))))
theorem q37 {ps:List (Int×Int)} (h:∀ p∈ps,(0<=p.1/\p.1<=100)/\0<=p.2/\p.2<=100):∀ p∈ps,I64 p.1/\I64 p.2:=fun p hp=>by
 have:=h p hp;unfold I64;omega
theorem qoi (w:World) (s:List Int) (n:Nat) (hn:s.length=n) (hl:n<=100):SlI ((w.alloc (.cells (ints s).toArray 3)).alloc (.cells #[.slice (some ⟨w.heap.size,0,none⟩) n n] 22)) (.slice (some ⟨w.heap.size+1,0,none⟩) 1 1) [s]:=by
 have h1:=q13 w 3 1 (ints s) n (by rw[xl,hn,gK]) (by unfold maxLen;omega);have h2:=q13 (w.alloc (.cells (ints s).toArray 3)) 22 1 [.slice (some ⟨w.heap.size,0,none⟩) n n] 1 rfl (by unfold maxLen;omega);rw[World.size_alloc] at h2;refine⟨_,h2,rfl,fun i u l hu hl=>?_⟩;cases i with
 | zero=>simp at hu hl;subst hu hl;exact h1.alloc _
 | succ i=>simp at hu
theorem qqg (w:World) (a b c:List Int) (ha:a.length=2) (hb:b.length=2) (hc:c.length=2) :
  SlI ((((w.alloc (.cells (ints a).toArray 3)).alloc (.cells (ints b).toArray 3)).alloc (.cells (ints c).toArray 3)).alloc (.cells #[.slice (some ⟨w.heap.size,0,none⟩) 2 2,.slice (some ⟨w.heap.size+1,0,none⟩) 2 2,.slice (some ⟨w.heap.size+1+1,0,none⟩) 2 2] 22)) (.slice (some ⟨w.heap.size+1+1+1,0,none⟩) 3 3) [a,b,c]:=by
 have h1:=q13 w 3 1 (ints a) 2 (by rw[xl,ha]) (by unfold maxLen;omega);have h2:=q13 (w.alloc (.cells (ints a).toArray 3)) 3 1 (ints b) 2 (by rw[xl,hb]) (by unfold maxLen;omega);have h3:=q13 ((w.alloc (.cells (ints a).toArray 3)).alloc (.cells (ints b).toArray 3)) 3 1 (ints c) 2 (by rw[xl,hc]) (by unfold maxLen;omega);have h4:=q13 (((w.alloc (.cells (ints a).toArray 3)).alloc (.cells (ints b).toArray 3)).alloc (.cells (ints c).toArray 3)) 22 1 [.slice (some ⟨w.heap.size,0,none⟩) 2 2,.slice (some ⟨w.heap.size+1,0,none⟩) 2 2,.slice (some ⟨w.heap.size+1+1,0,none⟩) 2 2] 3 rfl (by unfold maxLen;omega);simp only [World.size_alloc] at h2 h3 h4;refine⟨_,h4,rfl,fun i u l hu hl=>?_⟩
 match i,hu,hl with
 | 0,hu,hl=>simp at hu hl;subst hu hl;exact((h1.alloc _).alloc _).alloc _
 | 1,hu,hl=>simp at hu hl;subst hu hl;exact(h2.alloc _).alloc _
 | 2,hu,hl=>simp at hu hl;subst hu hl;exact h3.alloc _
 | i+3,hu,hl=>simp at hu
attribute [local go_sem ↓] Go.wp_at_zero Go.wp_at_succ
def tc6:List Mok:=[.cx K1,.prs m1,.idl [3],.cx K2,.prs m2,.idl [5],.idl [3],.idl [5]]
def tc8:List Mok:=[.val (wv (-1)),.val (tmV 4 (-1)),.val (wv 1),.val (tmV 5 (1)),.val (wv (-1)),.val (tmV 6 (-1)),.ch [(4,-1),(5,1),(6,-1)],.ch [(4,-1),(5,1),(6,-1)]]
def tc9:List Mok:=[.idl [3],.val (.int .i64 1),.tt,.tt,.idl [3],.cel 3,.val (.int .i64 3),.tt,.tt,.tt,.cx K1,.prs m1,.idl [],.val (.int .i64 0),.cx K1,.prs m1,.idl [],.val (.int .i64 0),.val (.int .i64 0),.tt,.tt,.tt,.cx K1,.prs m1,.ch [(1,1)],.ch [(3,1)],.ch [(3,1)],.tt,.tt,.tt,.cx K1,.prs m1,.ch [(2,1)],.ch [(3,1)],.ch [(3,1)],.tt,.tt,.tt,.idl [5],.val (.int .i64 1),.tt,.tt,.tt,.idl [5],.cel 5,.val (.int .i64 5),.tt,.tt,.tt,.cx K2,.prs m2,.ch [(4,-1),(5,1),(6,-1)],.ch [(4,-1),(5,1),(6,-1)],.tt,.tt,.tt,.cx K2,.val (.agg #[.int .i64 1,.int .i64 4]),.val (.agg #[.int .i64 2,.int .i64 6]),.val (.agg #[.int .i64 3,.int .i64 5]),.prs [(1,4),(2,6),(3,5)],.val (.int .i64 43),.tt,.tt,.tt,.cx K2,.val (.agg #[.int .i64 1,.int .i64 4]),.val (.agg #[.int .i64 1,.int .i64 5]),.prs [(1,4),(1,5)],.val (.int .i64 42),.tt,.tt,.tt,.cx K2,.val (.agg #[.int .i64 1,.int .i64 6]),.prs [(1,6)],.val (.int .i64 42),.tt,.tt,.tt]
theorem qj6 (a:Act) (i j k:Nat) (x y z:Value) (h1:a.tmps.getD i undef=x) (h2:a.tmps.getD j undef=y) (h3:a.tmps.getD k undef=z):(#[(0,Operand.tmp i),(1,Operand.tmp j),(2,Operand.tmp k)] : Array (Nat×Operand)).map (fun p=>(p.1,a.eval p.2))=#[(0,x),(1,y),(2,z)]:=by
 rw[<-h1,<-h2,<-h3];simp[Act.eval]
theorem qqh (a:Act) (i j:Nat) (x y:Value) (h1:a.tmps.getD i undef=x) (h2:a.tmps.getD j undef=y):(#[(0,Operand.tmp i),(1,Operand.tmp j)] : Array (Nat×Operand)).map (fun p=>(p.1,a.eval p.2))=#[(0,x),(1,y)]:=by
 rw[<-h1,<-h2];simp[Act.eval]
theorem qpl (a:Act) (i:Nat) (x:Value) (h1:a.tmps.getD i undef=x):(#[(0,Operand.tmp i)] : Array (Nat×Operand)).map (fun p=>(p.1,a.eval p.2))=#[(0,x)]:=by
 rw[<-h1];simp[Act.eval]
theorem qoj (a:Act) (c:Value) (i:Nat) (x:Value) (h1:a.tmps.getD i undef=x):(#[(0,Operand.const c),(1,Operand.tmp i)] : Array (Nat×Operand)).map (fun p=>(p.1,a.eval p.2))=#[(0,c),(1,x)]:=by
 rw[<-h1];simp[Act.eval]
theorem qqi (w:World) (a b c x y z:Int):(Instr.buildSlice 32 3 #[(0,tmV a x),(1,tmV b y),(2,tmV c z)]).run Tryz.prog w = .ok (.slice (some ⟨w.heap.size,0,none⟩) 3 3) (w.alloc (.cells (tv (ctm [(a,x),(b,y),(c,z)])).toArray 71)):=by
 have key:∀ a b c a' b' c' Ky Kz K3:Value,(Instr.buildSlice 32 3 #[(0,.agg #[a,a',Ky]),(1,.agg #[b,b',Kz]),(2,.agg #[c,c',K3])]).run Tryz.prog w = .ok (.slice (some ⟨w.heap.size,0,none⟩) 3 3) (w.alloc (.cells #[a,a',Ky,b,b',Kz,c,c',K3] 71)):=fun a b c a' b' c' Ky Kz K3 =>
  q2p _ _ 71 _ _ _ _ 3 32 Tryz.underlying32 Tryz.xm (by decide) (by decide) (by kernel_rfl)
 exact key _ _ _ _ _ _ _ _ _
theorem qqj (w:World) (a b c x y z:Int):(Instr.buildSlice 48 3 #[(0,.agg #[.int .i64 a,.int .i64 x]),(1,.agg #[.int .i64 b,.int .i64 y]),(2,.agg #[.int .i64 c,.int .i64 z])]).run Tryz.prog w = .ok (.slice (some ⟨w.heap.size,0,none⟩) 3 3) (w.alloc (.cells (pv [(a,x),(b,y),(c,z)]).toArray 50)):=by
 have key:∀ a b c a' b' c':Value,(Instr.buildSlice 48 3 #[(0,.agg #[a,a']),(1,.agg #[b,b']),(2,.agg #[c,c'])]).run Tryz.prog w = .ok (.slice (some ⟨w.heap.size,0,none⟩) 3 3) (w.alloc (.cells #[a,a',b,b',c,c'] 50)):=fun a b c a' b' c' =>
  q2p _ _ 50 _ _ _ _ 2 16 Tryz.underlying48 jw (by decide) (by decide) (by kernel_rfl)
 exact key _ _ _ _ _ _
theorem qqk (w:World) (a b x y:Int):(Instr.buildSlice 48 2 #[(0,.agg #[.int .i64 a,.int .i64 x]),(1,.agg #[.int .i64 b,.int .i64 y])]).run Tryz.prog w = .ok (.slice (some ⟨w.heap.size,0,none⟩) 2 2) (w.alloc (.cells (pv [(a,x),(b,y)]).toArray 50)):=by
 have key:∀ a b a' b':Value,(Instr.buildSlice 48 2 #[(0,.agg #[a,a']),(1,.agg #[b,b'])]).run Tryz.prog w = .ok (.slice (some ⟨w.heap.size,0,none⟩) 2 2) (w.alloc (.cells #[a,a',b,b'] 50)):=fun a b a' b' =>
  q2p _ _ 50 _ _ _ _ 2 16 Tryz.underlying48 jw (by decide) (by decide) (by kernel_rfl)
 exact key _ _ _ _
theorem qpm (w:World) (a x:Int):(Instr.buildSlice 48 1 #[(0,.agg #[.int .i64 a,.int .i64 x])]).run Tryz.prog w = .ok (.slice (some ⟨w.heap.size,0,none⟩) 1 1) (w.alloc (.cells (pv [(a,x)]).toArray 50)):=by
 have key:∀ a a':Value,(Instr.buildSlice 48 1 #[(0,.agg #[a,a'])]).run Tryz.prog w = .ok (.slice (some ⟨w.heap.size,0,none⟩) 1 1) (w.alloc (.cells #[a,a'] 50)):=fun a a' =>
  q2p _ _ 50 _ _ _ _ 2 16 Tryz.underlying48 jw (by decide) (by decide) (by kernel_rfl)
 exact key _ _
theorem qpn (w:World):(Go.binOp .add 3 (.int .i64 0) (.int .i64 0)).run Tryz.prog w = .ok (.int .i64 0) w:=by
 have h:IntKind.i64.wrap 0=0:=by decide
 simp[go_sem,h]
theorem qbj (w:World) (t:Nat) (x:Int) (h:t=3\/t=61):(Go.binOp .eql t (.int .i64 x) (.int .i64 x)).run Tryz.prog w = .ok (.bool true) w:=by
 rcases h with rfl | rfl <;> simp[go_sem]
structure San (w W:World) (q1 q2:Nat) (x1 x2 y1 y2:Value):Prop where
 b1:Bv W q1 x1
 b2:Bv W q2 x2
 c1:(Mok.cx K1).holds (.agg #[x1]) W
 c2:(Mok.cx K2).holds (.agg #[x2]) W
 p1:(Mok.prs m1).holds y1 W
 p2:(Mok.prs m2).holds y2 W
 bl:Below w.heap.size w W
theorem San.q8 {w W V:World} {q1 q2:Nat} {x1 x2 y1 y2:Value} (h:San w W q1 q2 x1 x2 y1 y2) (hb:Below W.heap.size W V):San w V q1 q2 x1 x2 y1 y2 :=
 ⟨h.b1.q8 hb,h.b2.q8 hb,Mok.q8 h.c1 hb,Mok.q8 h.c2 hb,Mok.q8 h.p1 hb,Mok.q8 h.p2 hb,h.bl.trans (hb.mono h.bl.size)⟩
theorem qj7 (w:World) :
  Calls Tryz.prog 38 #[] w fun e w'=>e = .returned (.bool true)/\Below w.heap.size w w':=by
 go_enter Tryz.func38,Tryz.ntmps38;go_wp2_with fail;refine(q1e _ [[0,1,2]] _ (qoi w [0,1,2] 3 rfl (by omega)) (by decide) (by decide)).mono ?_;rintro e w1 ⟨r1,m,rfl,hm,hR,ai⟩;rw[q3x] at hm;obtain⟨ua,uc,wV⟩:=qj hR.1;subst wV;have aV:Below w.heap.size w ((w.alloc (.cells #[.int .i64 0,.int .i64 1,.int .i64 2] 3)).alloc (.cells #[.slice (some ⟨w.heap.size,0,none⟩) 3 3] 22)):=((Below.refl _ w).alloc (nlr _) _).alloc (by simp) _;have al:Below w.heap.size w w1:=aV.trans (ai.mono aV.size);have FK:=lhd (aiq hm (aiq hR.slc al));clear hm hR ai al aV;go_wp2_with fail;obtain⟨W1,mf⟩ : ∃ W1,W1=w1.alloc (.cells #[.slice ua m.length uc] 26):=⟨_,rfl⟩
 obtain⟨q1,eR⟩ : ∃ q1,q1=w1.heap.size:=⟨_,rfl⟩
 have AF:Bv W1 q1 (.slice ua m.length uc):=by rw[mf,eR];exact Bv.new w1 _ _
 have sx:(Mok.cx K1).holds (.agg #[.slice ua m.length uc]) W1:=by rw[mf];exact⟨_,m,rfl,FK.out.2.1.mono fun p u hc=>qk hc _,FK.out.1⟩
 have DP:Below w.heap.size w W1:=by rw[mf];exact FK.out.2.2.alloc FK.out.2.2.size _
 have yX:W1.heap.size=q1+1:=by rw[mf,eR];simp
 rw[<-mf,<-eR];have fq:=qqg W1 [0,1] [0,2] [1,2] rfl rfl rfl;rw[yX] at fq;have EJ:=lhd yX;have jD:=lhd (aiq AF (aiq sx DP));clear mf eR AF sx DP yX;refine(q1e _ [[0,1],[0,2],[1,2]] _ fq (by decide) (by decide)).mono ?_;rintro e w2 ⟨r2,oG,rfl,hm,hR,ag⟩;rw[q3y] at hm;obtain⟨va,vc,wV⟩:=qj hR.1;subst wV;have aV:Below W1.heap.size W1 ((((W1.alloc (.cells #[.int .i64 0,.int .i64 1] 3)).alloc (.cells #[.int .i64 0,.int .i64 2] 3)).alloc (.cells #[.int .i64 1,.int .i64 2] 3)).alloc (.cells #[.slice (some ⟨q1+1,0,none⟩) 2 2,.slice (some ⟨q1+1+1,0,none⟩) 2 2,.slice (some ⟨q1+1+1+1,0,none⟩) 2 2] 22)):=((((Below.refl _ W1).alloc (nlr _) _).alloc (by simp) _).alloc (by simp;omega) _).alloc (by simp;omega) _;have lQ:Below W1.heap.size W1 w2:=aV.trans (ag.mono aV.size);have yN:=lhd (aiq hm (aiq hR.slc lQ));clear hm hR ag lQ fq aV;go_upto_region 4 with fail;obtain⟨q2,iF⟩ : ∃ q2,q2=w2.heap.size:=⟨_,rfl⟩
 obtain⟨W2,fh⟩ : ∃ W2,W2=((w2.alloc (.cells #[.slice va oG.length vc] 26)).alloc (.cells #[.int .i64 1,.int .i64 4,.int .i64 2,.int .i64 6,.int .i64 5,.int .i64 7] 50)).alloc (.cells #[.int .i64 1,.int .i64 4,.int .i64 2,.int .i64 6] 50):=⟨_,rfl⟩
 have aw:Below w2.heap.size w2 W2:=by rw[fh];exact(((Below.refl _ w2).alloc (nlr _) _).alloc (by simp) _).alloc (by simp;omega) _
 have lQ:Below W1.heap.size W1 W2:=yN.out.2.2.trans (aw.mono yN.out.2.2.size);have AF:=jD.out.1.q8 lQ;have K6:Bv W2 q2 (.slice va oG.length vc):=by rw[fh,iF];exact((Bv.new w2 _ _).alloc _).alloc _
 have sx:=Mok.q8 jD.out.2.1 lQ;have EC:(Mok.cx K2).holds (.agg #[.slice va oG.length vc]) W2:=⟨_,oG,rfl,yN.out.2.1.mono fun p u hc=>Cx.q8 aw hc,yN.out.1⟩
 have Pt:(Mok.prs m1).holds (.slice (some ⟨q2+1,0,none⟩) 3 3) W2:=by
  have h:=q13 (w2.alloc (.cells #[.slice va oG.length vc] 26)) 50 2 (pv m1) 3 rfl (by unfold maxLen;omega);rw[World.size_alloc,<-iF] at h;rw[fh];exact h.alloc _
 have Pu:(Mok.prs m2).holds (.slice (some ⟨q2+1+1,0,none⟩) 2 2) W2:=by
  have h:=q13 ((w2.alloc (.cells #[.slice va oG.length vc] 26)).alloc (.cells #[.int .i64 1,.int .i64 4,.int .i64 2,.int .i64 6,.int .i64 5,.int .i64 7] 50)) 50 2 (pv m2) 2 rfl (by unfold maxLen;omega);rw[World.size_alloc,World.size_alloc,<-iF] at h;rw[fh];exact h
 rw[<-fh,<-iF];have aL:Below w.heap.size w W2:=jD.out.2.2.trans (lQ.mono jD.out.2.2.size);have b1:=AF.1;have b2:=K6.1;have S2:Hid (San w W2 q1 q2 (.slice ua m.length uc) (.slice va oG.length vc) (.slice (some ⟨q2+1,0,none⟩) 3 3) (.slice (some ⟨q2+1+1,0,none⟩) 2 2)):=⟨AF,K6,sx,EC,Pt,Pu,aL⟩
 clear fh iF aw lQ AF K6 sx EC Pt Pu aL;go_wp2_with fail;refine(qj1 _ K1 W2 S2.out.c1 q6x (by decide) m1 qqb).mono ?_;rintro e w3 ⟨r3,rfl,cY,ct⟩;obtain⟨a3,n3,c3,rfl⟩:=qg cY;have S3:=lhd (S2.out.q8 ct);have IU:=lhd cY;clear cY ct b1 b2;go_wp2_with fail;refine(qj3 _ _ m1 w3 IU.out S3.out.p1).mono ?_;rintro e w4 ⟨r4,rfl,eo,cP⟩;have eo:r4 = .bool true:=eo;subst eo;have S4:=lhd (S3.out.q8 cP);have b2:=S4.out.b2.1;clear cP;go_wp2_with fail;refine(qj1 _ K2 w4 S4.out.c2 q89 (by decide) m2 qqc).mono ?_;rintro e w5 ⟨r5,rfl,cH,ib⟩;obtain⟨a5,n5,c5,rfl⟩:=qg cH;have S5:=lhd (S4.out.q8 ib);have Ut:=lhd cH;clear cH ib b2;go_wp2_with fail;refine(qj3 _ _ m2 w5 Ut.out S5.out.p2).mono ?_;rintro e w6 ⟨r6,rfl,dB,dJ⟩;have dB:r6 = .bool true:=dB;subst dB;have S6:=lhd (S5.out.q8 dJ);clear dJ;go_upto_region 6 with fail
 go_cut [5,6] from 36 to 41 (fun x5 x6 wx=>(∃ a n c,x5=Value.slice a n c)/\(∃ a n c,x6=Value.slice a n c)/\Hid ((Mok.idl [3]).holds x5 wx/\(Mok.idl [5]).holds x6 wx/\San w wx q1 q2 (.slice ua m.length uc) (.slice va oG.length vc) (.slice (some ⟨q2+1,0,none⟩) 3 3) (.slice (some ⟨q2+1+1,0,none⟩) 2 2)))
 case first =>
  rename_i J K hJ hK;have lR:=S6.out.b1;have lS:=S6.out.b2;have ey:=S6.out.c1;have dG:=S6.out.c2;have cO:=S6.out.p1;have dy:=S6.out.p2;refine q1a rfl (fun i v w=>(tc6.getD i .any).holds v w) 129 rfl (by kernel_rfl) (by kernel_rfl) (fun i v w w' h hb=>Mok.q8 h hb) ?step ?done
  case step =>
   intro i o ho a w' hw hd af ao
   match i,ho,hd with
   | 0,ho,hd =>
    obtain rfl:=osi ho;exact⟨rfl,zr _ _ rfl _ (af 1 (qu (by kernel_rfl))) _ (ldK (lR.q8 hw)) (Mok.q8 (k:=.cx K1) ey hw)⟩
   | 1,ho,hd =>
    obtain rfl:=osi ho;exact⟨rfl,jf _ (.inl rfl) (by show (Mok.prs m1).holds (a.tmps.getD 3 undef) w';rw[af 3 (qu (by kernel_rfl))];exact Mok.q8 (k:=.prs m1) cO hw)⟩
   | 2,ho,hd =>
    obtain rfl:=osi ho;have f0:(Mok.cx K1).holds (a.tmps.getD 36 undef) w':=hd 0 _ _ rfl rfl (by kernel_rfl);have f1:(Mok.prs m1).holds (a.tmps.getD 37 undef) w':=hd 1 _ _ rfl rfl (by kernel_rfl);exact⟨rfl,xz _ _ _ rfl je #[a.tmps.getD 36 undef,a.tmps.getD 37 undef,.int .i64 0] (by simp[Act.eval]) (qbf _ _ K1 m1 _ f0 q6x (by decide) f1 (q37 (by decide)) 0 [3] qph)⟩
   | 3,ho,hd =>
    obtain rfl:=osi ho;exact⟨rfl,zr _ _ rfl _ (af 2 (qu (by kernel_rfl))) _ (ldK (lS.q8 hw)) (Mok.q8 (k:=.cx K2) dG hw)⟩
   | 4,ho,hd =>
    obtain rfl:=osi ho;exact⟨rfl,jf _ (.inl rfl) (by show (Mok.prs m2).holds (a.tmps.getD 4 undef) w';rw[af 4 (qu (by kernel_rfl))];exact Mok.q8 (k:=.prs m2) dy hw)⟩
   | 5,ho,hd =>
    obtain rfl:=osi ho;have f0:(Mok.cx K2).holds (a.tmps.getD 39 undef) w':=hd 3 _ _ rfl rfl (by kernel_rfl);have f1:(Mok.prs m2).holds (a.tmps.getD 40 undef) w':=hd 4 _ _ rfl rfl (by kernel_rfl);exact⟨rfl,xz _ _ _ rfl je #[a.tmps.getD 39 undef,a.tmps.getD 40 undef,.int .i64 1] (by simp[Act.eval]) (qbf _ _ K2 m2 _ f0 q89 (by decide) f1 (q37 (by decide)) 1 [5] qpk)⟩
   | 6,ho,hd =>
    obtain rfl:=osi ho;have f0:(Mok.idl [3]).holds (a.tmps.getD 38 undef) w':=hd 2 _ _ rfl rfl (by kernel_rfl);exact⟨rfl,jf _ (.inr rfl) f0⟩
   | 7,ho,hd =>
    obtain rfl:=osi ho;have f0:(Mok.idl [5]).holds (a.tmps.getD 41 undef) w':=hd 5 _ _ rfl rfl (by kernel_rfl);exact⟨rfl,jf _ (.inr rfl) f0⟩
   | i+8,ho,hd =>
    have:i+8 < 8:=(gw.1 ho).1;omega
  case done =>
   intro a w7 ao kQ hf af hw;have yY:(Mok.idl [3]).holds (a.tmps.getD 5 undef) w7:=hf 6 _ _ rfl rfl;have yZ:(Mok.idl [5]).holds (a.tmps.getD 6 undef) w7:=hf 7 _ _ rfl rfl;refine hK _ _ (Met.intro (hJ _ _ ⟨a.tmps.getD 5 undef,a.tmps.getD 6 undef,a.tmps.getD 36 undef,a.tmps.getD 37 undef,a.tmps.getD 38 undef,a.tmps.getD 39 undef,a.tmps.getD 40 undef,a.tmps.getD 41 undef,⟨qg yY,qg yZ,yY,yZ,S6.out.q8 hw⟩,(q8z ao kQ af).trans ?_⟩));kernel_rfl
 case rest =>
  obtain⟨⟨a7,n7,c7,rfl⟩,⟨a8,n8,c8,rfl⟩,H7⟩:=hcut;go_wp2_with fail;refine(q58 (-1) _ (by decide) (by decide)).mono ?_;rintro e w8 ⟨rfl,ox⟩;have Pv:=lhd ox;clear ox;unfold wv;go_upto_region 8 with fail;obtain⟨q7,uv⟩ : ∃ q7,q7=w8.heap.size:=⟨_,rfl⟩
  obtain⟨W9,DQ⟩ : ∃ W9,W9=w8.alloc (.cells #[.bool true,.string (mg (-1))] 38):=⟨_,rfl⟩
  have iX:Bx W9 q7 (decide ((-1:Int) < 0)) (mg (-1)):=by rw[DQ,uv];exact Bx.new w8 _ _ _
  have ou:q7 < W9.heap.size:=by rw[DQ,uv];simp
  have l9:Below wc.heap.size wc W9:=by rw[DQ];exact Pv.out.alloc Pv.out.size _
  rw[<-DQ,<-uv];clear DQ uv;have S9:=H7.out.2.2.q8 l9;have yY:=Mok.q8 H7.out.1 l9;have yZ:=Mok.q8 H7.out.2.1 l9;have lR:=S9.b1;have lS:=S9.b2;have ey:=S9.c1;have dG:=S9.c2;have cO:=S9.p1;have dy:=S9.p2
  go_cut [8] from 43 to 49 (fun x8 wx=>(∃ a n c,x8=Value.slice a n c)/\Hid ((Mok.ch [(4,-1),(5,1),(6,-1)]).holds x8 wx/\Below W9.heap.size W9 wx))
  case first =>
   rename_i J K hJ hK;refine q1a rfl (fun i v w=>(tc8.getD i .any).holds v w) 129 rfl (by kernel_rfl) (by kernel_rfl) (fun i v w w' h hb=>Mok.q8 h hb) ?step ?done
   case step =>
    intro i o ho a w' hw hd af ao
    match i,ho,hd with
    | 0,ho,hd =>
     obtain rfl:=osi ho;exact⟨rfl,zr _ _ rfl _ (af 7 (qu (by kernel_rfl))) _ (qp6 (iX.q8 hw (by exact ou)).1 (iX.q8 hw (by exact ou)).2.1) rfl⟩
    | 1,ho,hd =>
     obtain rfl:=osi ho;have f0:(Mok.val (wv (-1))).holds (a.tmps.getD 43 undef) w':=hd 0 _ _ rfl rfl (by kernel_rfl);exact⟨rfl,jo _ _ rfl _ (qoj _ _ _ _ f0) _ (qoh _ _ _) rfl⟩
    | 2,ho,hd =>
     obtain rfl:=osi ho;exact⟨rfl,xz _ _ _ rfl q77 #[.int .i64 1] (by simp[Act.eval]) (qmp 1 _ (by unfold I64;decide))⟩
    | 3,ho,hd =>
     obtain rfl:=osi ho;have f0:(Mok.val (wv 1)).holds (a.tmps.getD 45 undef) w':=hd 2 _ _ rfl rfl (by kernel_rfl);exact⟨rfl,jo _ _ rfl _ (qoj _ _ _ _ f0) _ (qoh _ _ _) rfl⟩
    | 4,ho,hd =>
     obtain rfl:=osi ho;exact⟨rfl,zr _ _ rfl _ (af 7 (qu (by kernel_rfl))) _ (qp6 (iX.q8 hw (by exact ou)).1 (iX.q8 hw (by exact ou)).2.1) rfl⟩
    | 5,ho,hd =>
     obtain rfl:=osi ho;have f0:(Mok.val (wv (-1))).holds (a.tmps.getD 47 undef) w':=hd 4 _ _ rfl rfl (by kernel_rfl);exact⟨rfl,jo _ _ rfl _ (qoj _ _ _ _ f0) _ (qoh _ _ _) rfl⟩
    | 6,ho,hd =>
     obtain rfl:=osi ho;have f0:(Mok.val (tmV 4 (-1))).holds (a.tmps.getD 44 undef) w':=hd 1 _ _ rfl rfl (by kernel_rfl);have f1:(Mok.val (tmV 5 (1))).holds (a.tmps.getD 46 undef) w':=hd 3 _ _ rfl rfl (by kernel_rfl);have f2:(Mok.val (tmV 6 (-1))).holds (a.tmps.getD 48 undef) w':=hd 5 _ _ rfl rfl (by kernel_rfl);exact⟨rfl,q2x 32 3 _ rfl _ (qj6 _ _ _ _ _ _ _ f0 f1 f2) _ _ (qqi _ _ _ _ _ _ _) (q8p _ _ 3 _ 3 rfl (by unfold maxLen;omega))⟩
    | 7,ho,hd =>
     obtain rfl:=osi ho;have f0:(Mok.ch [(4,-1),(5,1),(6,-1)]).holds (a.tmps.getD 49 undef) w':=hd 6 _ _ rfl rfl (by kernel_rfl);exact⟨rfl,jf _ (.inr rfl) f0⟩
    | i+8,ho,hd =>
     have:i+8 < 8:=(gw.1 ho).1;omega
   case done =>
    intro a oH ao kQ hf af hw;have FL:(Mok.ch [(4,-1),(5,1),(6,-1)]).holds (a.tmps.getD 8 undef) oH:=hf 7 _ _ rfl rfl;refine hK _ _ (Met.intro (hJ _ _ ⟨a.tmps.getD 8 undef,a.tmps.getD 43 undef,a.tmps.getD 44 undef,a.tmps.getD 45 undef,a.tmps.getD 46 undef,a.tmps.getD 47 undef,a.tmps.getD 48 undef,a.tmps.getD 49 undef,⟨qg FL,FL,hw⟩,(q8z ao kQ af).trans ?_⟩));kernel_rfl
  case rest =>
   obtain⟨⟨WO,n11,ON,rfl⟩,H8⟩:=hcut;have S9:=S9.q8 H8.out.2;have yY:=Mok.q8 yY H8.out.2;have yZ:=Mok.q8 yZ H8.out.2;have FL:=H8.out.1;have lR:=S9.b1;have lS:=S9.b2;have ey:=S9.c1;have dG:=S9.c2;have cO:=S9.p1;have dy:=S9.p2;go_upto_region 9 with fail;rename_i K hK;refine q1a rfl (fun i v w=>(tc9.getD i .any).holds v w) 129 rfl (by kernel_rfl) (by kernel_rfl) (fun i v w w' h hb=>Mok.q8 h hb) ?step9 ?done9
   case step9 =>
    intro i o ho a w' hw hd af ao
    match i,ho,hd with
    | 0,ho,hd =>
     obtain rfl:=osi ho;exact⟨rfl,jf _ (.inl rfl) (by show (Mok.idl [3]).holds (a.tmps.getD 5 undef) w';rw[af 5 (qu (by kernel_rfl))];exact Mok.q8 (k:=.idl [3]) yY hw)⟩
    | 1,ho,hd =>
     obtain rfl:=osi ho;have f0:(Mok.idl [3]).holds (a.tmps.getD 50 undef) w':=hd 0 _ _ rfl rfl (by kernel_rfl);exact⟨rfl,q5h _ [3] rfl f0⟩
    | 2,ho,hd =>
     obtain rfl:=osi ho;have f0:(Mok.val (.int .i64 1)).holds (a.tmps.getD 51 undef) w':=hd 1 _ _ rfl rfl (by kernel_rfl);exact⟨rfl,kx _ _ _ _ _ rfl _ _ f0 rfl _ rfl (qbj _ _ 1 (.inl rfl)) rfl⟩
    | 3,ho,hd =>
     obtain rfl:=osi ho;have f0:(Mok.tt).holds (a.tmps.getD 52 undef) w':=hd 2 _ _ rfl rfl (by kernel_rfl);exact⟨rfl,jf _ (.inl rfl) f0⟩
    | 4,ho,hd =>
     obtain rfl:=osi ho;have fg:(Mok.tt).holds (a.tmps.getD 53 undef) w':=hd 3 _ _ rfl rfl (by kernel_rfl);exact⟨qn 3 53 rfl rfl (by rw[ao];decide) fg,jf _ (.inl rfl) (by show (Mok.idl [3]).holds (a.tmps.getD 5 undef) w';rw[af 5 (qu (by kernel_rfl))];exact Mok.q8 (k:=.idl [3]) yY hw)⟩
    | 5,ho,hd =>
     obtain rfl:=osi ho;have f0:(Mok.idl [3]).holds (a.tmps.getD 54 undef) w':=hd 4 _ _ rfl rfl (by kernel_rfl);have fg:(Mok.tt).holds (a.tmps.getD 53 undef) w':=hd 3 _ _ rfl rfl (by kernel_rfl);exact⟨qn 3 53 rfl rfl (by rw[ao];decide) fg,qj0 _ _ 3 [] rfl rfl f0⟩
    | 6,ho,hd =>
     obtain rfl:=osi ho;have f0:(Mok.cel 3).holds (a.tmps.getD 55 undef) w':=hd 5 _ _ rfl rfl (by kernel_rfl);have fg:(Mok.tt).holds (a.tmps.getD 53 undef) w':=hd 3 _ _ rfl rfl (by kernel_rfl);exact⟨qn 3 53 rfl rfl (by rw[ao];decide) fg,(by obtain⟨p,hp,hc⟩:=f0;exact zr _ _ rfl _ hp _ (qe0 _ _ _ hc) rfl)⟩
    | 7,ho,hd =>
     obtain rfl:=osi ho;have f0:(Mok.val (.int .i64 3)).holds (a.tmps.getD 56 undef) w':=hd 6 _ _ rfl rfl (by kernel_rfl);have fg:(Mok.tt).holds (a.tmps.getD 53 undef) w':=hd 3 _ _ rfl rfl (by kernel_rfl);exact⟨qn 3 53 rfl rfl (by rw[ao];decide) fg,kx _ _ _ _ _ rfl _ _ f0 rfl _ rfl (qbj _ _ 3 (.inl rfl)) rfl⟩
    | 8,ho,hd =>
     obtain rfl:=osi ho;have f0:(Mok.tt).holds (a.tmps.getD 53 undef) w':=hd 3 _ _ rfl rfl (by kernel_rfl);have f1:(Mok.tt).holds (a.tmps.getD 57 undef) w':=hd 7 _ _ rfl rfl (by kernel_rfl);exact⟨rfl,jx _ _ _ rfl f0 f1⟩
    | 9,ho,hd =>
     obtain rfl:=osi ho;have f0:(Mok.tt).holds (a.tmps.getD 58 undef) w':=hd 8 _ _ rfl rfl (by kernel_rfl);exact⟨rfl,jf _ (.inl rfl) f0⟩
    | 10,ho,hd =>
     obtain rfl:=osi ho;have fg:(Mok.tt).holds (a.tmps.getD 59 undef) w':=hd 9 _ _ rfl rfl (by kernel_rfl);exact⟨qn 9 59 rfl rfl (by rw[ao];decide) fg,zr _ _ rfl _ (af 1 (qu (by kernel_rfl))) _ (ldK (lR.q8 hw)) (Mok.q8 (k:=.cx K1) ey hw)⟩
    | 11,ho,hd =>
     obtain rfl:=osi ho;have fg:(Mok.tt).holds (a.tmps.getD 59 undef) w':=hd 9 _ _ rfl rfl (by kernel_rfl);exact⟨qn 9 59 rfl rfl (by rw[ao];decide) fg,jf _ (.inl rfl) (by show (Mok.prs m1).holds (a.tmps.getD 3 undef) w';rw[af 3 (qu (by kernel_rfl))];exact Mok.q8 (k:=.prs m1) cO hw)⟩
    | 12,ho,hd =>
     obtain rfl:=osi ho;have f0:(Mok.cx K1).holds (a.tmps.getD 60 undef) w':=hd 10 _ _ rfl rfl (by kernel_rfl);have f1:(Mok.prs m1).holds (a.tmps.getD 61 undef) w':=hd 11 _ _ rfl rfl (by kernel_rfl);have fg:(Mok.tt).holds (a.tmps.getD 59 undef) w':=hd 9 _ _ rfl rfl (by kernel_rfl);exact⟨qn 9 59 rfl rfl (by rw[ao];decide) fg,xz _ _ _ rfl je #[a.tmps.getD 60 undef,a.tmps.getD 61 undef,.int .i64 1] (by simp[Act.eval]) (qbf _ _ K1 m1 _ f0 q6x (by decide) f1 (q37 (by decide)) 1 [] qpi)⟩
    | 13,ho,hd =>
     obtain rfl:=osi ho;have f0:(Mok.idl []).holds (a.tmps.getD 62 undef) w':=hd 12 _ _ rfl rfl (by kernel_rfl);have fg:(Mok.tt).holds (a.tmps.getD 59 undef) w':=hd 9 _ _ rfl rfl (by kernel_rfl);exact⟨qn 9 59 rfl rfl (by rw[ao];decide) fg,q5h _ [] rfl f0⟩
    | 14,ho,hd =>
     obtain rfl:=osi ho;have fg:(Mok.tt).holds (a.tmps.getD 59 undef) w':=hd 9 _ _ rfl rfl (by kernel_rfl);exact⟨qn 9 59 rfl rfl (by rw[ao];decide) fg,zr _ _ rfl _ (af 1 (qu (by kernel_rfl))) _ (ldK (lR.q8 hw)) (Mok.q8 (k:=.cx K1) ey hw)⟩
    | 15,ho,hd =>
     obtain rfl:=osi ho;have fg:(Mok.tt).holds (a.tmps.getD 59 undef) w':=hd 9 _ _ rfl rfl (by kernel_rfl);exact⟨qn 9 59 rfl rfl (by rw[ao];decide) fg,jf _ (.inl rfl) (by show (Mok.prs m1).holds (a.tmps.getD 3 undef) w';rw[af 3 (qu (by kernel_rfl))];exact Mok.q8 (k:=.prs m1) cO hw)⟩
    | 16,ho,hd =>
     obtain rfl:=osi ho;have f0:(Mok.cx K1).holds (a.tmps.getD 64 undef) w':=hd 14 _ _ rfl rfl (by kernel_rfl);have f1:(Mok.prs m1).holds (a.tmps.getD 65 undef) w':=hd 15 _ _ rfl rfl (by kernel_rfl);have fg:(Mok.tt).holds (a.tmps.getD 59 undef) w':=hd 9 _ _ rfl rfl (by kernel_rfl);exact⟨qn 9 59 rfl rfl (by rw[ao];decide) fg,xz _ _ _ rfl je #[a.tmps.getD 64 undef,a.tmps.getD 65 undef,.int .i64 2] (by simp[Act.eval]) (qbf _ _ K1 m1 _ f0 q6x (by decide) f1 (q37 (by decide)) 2 [] qpj)⟩
    | 17,ho,hd =>
     obtain rfl:=osi ho;have f0:(Mok.idl []).holds (a.tmps.getD 66 undef) w':=hd 16 _ _ rfl rfl (by kernel_rfl);have fg:(Mok.tt).holds (a.tmps.getD 59 undef) w':=hd 9 _ _ rfl rfl (by kernel_rfl);exact⟨qn 9 59 rfl rfl (by rw[ao];decide) fg,q5h _ [] rfl f0⟩
    | 18,ho,hd =>
     obtain rfl:=osi ho;have f0:(Mok.val (.int .i64 0)).holds (a.tmps.getD 63 undef) w':=hd 13 _ _ rfl rfl (by kernel_rfl);have f1:(Mok.val (.int .i64 0)).holds (a.tmps.getD 67 undef) w':=hd 17 _ _ rfl rfl (by kernel_rfl);have fg:(Mok.tt).holds (a.tmps.getD 59 undef) w':=hd 9 _ _ rfl rfl (by kernel_rfl);exact⟨qn 9 59 rfl rfl (by rw[ao];decide) fg,kx _ _ _ _ _ rfl _ _ f0 f1 _ rfl (qpn _) rfl⟩
    | 19,ho,hd =>
     obtain rfl:=osi ho;have f0:(Mok.val (.int .i64 0)).holds (a.tmps.getD 68 undef) w':=hd 18 _ _ rfl rfl (by kernel_rfl);have fg:(Mok.tt).holds (a.tmps.getD 59 undef) w':=hd 9 _ _ rfl rfl (by kernel_rfl);exact⟨qn 9 59 rfl rfl (by rw[ao];decide) fg,kx _ _ _ _ _ rfl _ _ f0 rfl _ rfl (qbj _ _ 0 (.inl rfl)) rfl⟩
    | 20,ho,hd =>
     obtain rfl:=osi ho;have f0:(Mok.tt).holds (a.tmps.getD 59 undef) w':=hd 9 _ _ rfl rfl (by kernel_rfl);have f1:(Mok.tt).holds (a.tmps.getD 69 undef) w':=hd 19 _ _ rfl rfl (by kernel_rfl);exact⟨rfl,jx _ _ _ rfl f0 f1⟩
    | 21,ho,hd =>
     obtain rfl:=osi ho;have f0:(Mok.tt).holds (a.tmps.getD 70 undef) w':=hd 20 _ _ rfl rfl (by kernel_rfl);exact⟨rfl,jf _ (.inl rfl) f0⟩
    | 22,ho,hd =>
     obtain rfl:=osi ho;have fg:(Mok.tt).holds (a.tmps.getD 71 undef) w':=hd 21 _ _ rfl rfl (by kernel_rfl);exact⟨qn 21 71 rfl rfl (by rw[ao];decide) fg,zr _ _ rfl _ (af 1 (qu (by kernel_rfl))) _ (ldK (lR.q8 hw)) (Mok.q8 (k:=.cx K1) ey hw)⟩
    | 23,ho,hd =>
     obtain rfl:=osi ho;have fg:(Mok.tt).holds (a.tmps.getD 71 undef) w':=hd 21 _ _ rfl rfl (by kernel_rfl);exact⟨qn 21 71 rfl rfl (by rw[ao];decide) fg,jf _ (.inl rfl) (by show (Mok.prs m1).holds (a.tmps.getD 3 undef) w';rw[af 3 (qu (by kernel_rfl))];exact Mok.q8 (k:=.prs m1) cO hw)⟩
    | 24,ho,hd =>
     obtain rfl:=osi ho;have fg:(Mok.tt).holds (a.tmps.getD 71 undef) w':=hd 21 _ _ rfl rfl (by kernel_rfl);exact⟨qn 21 71 rfl rfl (by rw[ao];decide) fg,xz _ _ _ rfl ky #[.int .i64 1] (by simp[Act.eval]) (qm2 1 _)⟩
    | 25,ho,hd =>
     obtain rfl:=osi ho;have f0:(Mok.cx K1).holds (a.tmps.getD 72 undef) w':=hd 22 _ _ rfl rfl (by kernel_rfl);have f1:(Mok.prs m1).holds (a.tmps.getD 73 undef) w':=hd 23 _ _ rfl rfl (by kernel_rfl);have f2:(Mok.ch [(1,1)]).holds (a.tmps.getD 74 undef) w':=hd 24 _ _ rfl rfl (by kernel_rfl);have fg:(Mok.tt).holds (a.tmps.getD 71 undef) w':=hd 21 _ _ rfl rfl (by kernel_rfl);exact⟨qn 21 71 rfl rfl (by rw[ao];decide) fg,xz _ _ _ rfl q36 #[a.tmps.getD 72 undef,a.tmps.getD 73 undef,a.tmps.getD 74 undef] (by simp[Act.eval]) (qmo _ _ K1 m1 _ f0 q6x (by decide) f1 (q37 (by decide)) _ [(1,1)] [(3,1)] f2 (lok (by decide)) (by decide) (by unfold Cn;decide) qqd)⟩
    | 26,ho,hd =>
     obtain rfl:=osi ho;have fg:(Mok.tt).holds (a.tmps.getD 71 undef) w':=hd 21 _ _ rfl rfl (by kernel_rfl);exact⟨qn 21 71 rfl rfl (by rw[ao];decide) fg,xz _ _ _ rfl ky #[.int .i64 3] (by simp[Act.eval]) (qm2 3 _)⟩
    | 27,ho,hd =>
     obtain rfl:=osi ho;have f0:(Mok.ch [(3,1)]).holds (a.tmps.getD 75 undef) w':=hd 25 _ _ rfl rfl (by kernel_rfl);have f1:(Mok.ch [(3,1)]).holds (a.tmps.getD 76 undef) w':=hd 26 _ _ rfl rfl (by kernel_rfl);have fg:(Mok.tt).holds (a.tmps.getD 71 undef) w':=hd 21 _ _ rfl rfl (by kernel_rfl);exact⟨qn 21 71 rfl rfl (by rw[ao];decide) fg,xz _ _ _ rfl q0u #[a.tmps.getD 75 undef,a.tmps.getD 76 undef] (by simp[Act.eval]) (qj2 _ _ _ _ f0 f1)⟩
    | 28,ho,hd =>
     obtain rfl:=osi ho;have f0:(Mok.tt).holds (a.tmps.getD 71 undef) w':=hd 21 _ _ rfl rfl (by kernel_rfl);have f1:(Mok.tt).holds (a.tmps.getD 77 undef) w':=hd 27 _ _ rfl rfl (by kernel_rfl);exact⟨rfl,jx _ _ _ rfl f0 f1⟩
    | 29,ho,hd =>
     obtain rfl:=osi ho;have f0:(Mok.tt).holds (a.tmps.getD 78 undef) w':=hd 28 _ _ rfl rfl (by kernel_rfl);exact⟨rfl,jf _ (.inl rfl) f0⟩
    | 30,ho,hd =>
     obtain rfl:=osi ho;have fg:(Mok.tt).holds (a.tmps.getD 79 undef) w':=hd 29 _ _ rfl rfl (by kernel_rfl);exact⟨qn 29 79 rfl rfl (by rw[ao];decide) fg,zr _ _ rfl _ (af 1 (qu (by kernel_rfl))) _ (ldK (lR.q8 hw)) (Mok.q8 (k:=.cx K1) ey hw)⟩
    | 31,ho,hd =>
     obtain rfl:=osi ho;have fg:(Mok.tt).holds (a.tmps.getD 79 undef) w':=hd 29 _ _ rfl rfl (by kernel_rfl);exact⟨qn 29 79 rfl rfl (by rw[ao];decide) fg,jf _ (.inl rfl) (by show (Mok.prs m1).holds (a.tmps.getD 3 undef) w';rw[af 3 (qu (by kernel_rfl))];exact Mok.q8 (k:=.prs m1) cO hw)⟩
    | 32,ho,hd =>
     obtain rfl:=osi ho;have fg:(Mok.tt).holds (a.tmps.getD 79 undef) w':=hd 29 _ _ rfl rfl (by kernel_rfl);exact⟨qn 29 79 rfl rfl (by rw[ao];decide) fg,xz _ _ _ rfl ky #[.int .i64 2] (by simp[Act.eval]) (qm2 2 _)⟩
    | 33,ho,hd =>
     obtain rfl:=osi ho;have f0:(Mok.cx K1).holds (a.tmps.getD 80 undef) w':=hd 30 _ _ rfl rfl (by kernel_rfl);have f1:(Mok.prs m1).holds (a.tmps.getD 81 undef) w':=hd 31 _ _ rfl rfl (by kernel_rfl);have f2:(Mok.ch [(2,1)]).holds (a.tmps.getD 82 undef) w':=hd 32 _ _ rfl rfl (by kernel_rfl);have fg:(Mok.tt).holds (a.tmps.getD 79 undef) w':=hd 29 _ _ rfl rfl (by kernel_rfl);exact⟨qn 29 79 rfl rfl (by rw[ao];decide) fg,xz _ _ _ rfl q36 #[a.tmps.getD 80 undef,a.tmps.getD 81 undef,a.tmps.getD 82 undef] (by simp[Act.eval]) (qmo _ _ K1 m1 _ f0 q6x (by decide) f1 (q37 (by decide)) _ [(2,1)] [(3,1)] f2 (lok (by decide)) (by decide) (by unfold Cn;decide) qqe)⟩
    | 34,ho,hd =>
     obtain rfl:=osi ho;have fg:(Mok.tt).holds (a.tmps.getD 79 undef) w':=hd 29 _ _ rfl rfl (by kernel_rfl);exact⟨qn 29 79 rfl rfl (by rw[ao];decide) fg,xz _ _ _ rfl ky #[.int .i64 3] (by simp[Act.eval]) (qm2 3 _)⟩
    | 35,ho,hd =>
     obtain rfl:=osi ho;have f0:(Mok.ch [(3,1)]).holds (a.tmps.getD 83 undef) w':=hd 33 _ _ rfl rfl (by kernel_rfl);have f1:(Mok.ch [(3,1)]).holds (a.tmps.getD 84 undef) w':=hd 34 _ _ rfl rfl (by kernel_rfl);have fg:(Mok.tt).holds (a.tmps.getD 79 undef) w':=hd 29 _ _ rfl rfl (by kernel_rfl);exact⟨qn 29 79 rfl rfl (by rw[ao];decide) fg,xz _ _ _ rfl q0u #[a.tmps.getD 83 undef,a.tmps.getD 84 undef] (by simp[Act.eval]) (qj2 _ _ _ _ f0 f1)⟩
    | 36,ho,hd =>
     obtain rfl:=osi ho;have f0:(Mok.tt).holds (a.tmps.getD 79 undef) w':=hd 29 _ _ rfl rfl (by kernel_rfl);have f1:(Mok.tt).holds (a.tmps.getD 85 undef) w':=hd 35 _ _ rfl rfl (by kernel_rfl);exact⟨rfl,jx _ _ _ rfl f0 f1⟩
    | 37,ho,hd =>
     obtain rfl:=osi ho;have f0:(Mok.tt).holds (a.tmps.getD 86 undef) w':=hd 36 _ _ rfl rfl (by kernel_rfl);exact⟨rfl,jf _ (.inl rfl) f0⟩
    | 38,ho,hd =>
     obtain rfl:=osi ho;have fg:(Mok.tt).holds (a.tmps.getD 87 undef) w':=hd 37 _ _ rfl rfl (by kernel_rfl);exact⟨qn 37 87 rfl rfl (by rw[ao];decide) fg,jf _ (.inl rfl) (by show (Mok.idl [5]).holds (a.tmps.getD 6 undef) w';rw[af 6 (qu (by kernel_rfl))];exact Mok.q8 (k:=.idl [5]) yZ hw)⟩
    | 39,ho,hd =>
     obtain rfl:=osi ho;have f0:(Mok.idl [5]).holds (a.tmps.getD 88 undef) w':=hd 38 _ _ rfl rfl (by kernel_rfl);have fg:(Mok.tt).holds (a.tmps.getD 87 undef) w':=hd 37 _ _ rfl rfl (by kernel_rfl);exact⟨qn 37 87 rfl rfl (by rw[ao];decide) fg,q5h _ [5] rfl f0⟩
    | 40,ho,hd =>
     obtain rfl:=osi ho;have f0:(Mok.val (.int .i64 1)).holds (a.tmps.getD 89 undef) w':=hd 39 _ _ rfl rfl (by kernel_rfl);have fg:(Mok.tt).holds (a.tmps.getD 87 undef) w':=hd 37 _ _ rfl rfl (by kernel_rfl);exact⟨qn 37 87 rfl rfl (by rw[ao];decide) fg,kx _ _ _ _ _ rfl _ _ f0 rfl _ rfl (qbj _ _ 1 (.inl rfl)) rfl⟩
    | 41,ho,hd =>
     obtain rfl:=osi ho;have f0:(Mok.tt).holds (a.tmps.getD 87 undef) w':=hd 37 _ _ rfl rfl (by kernel_rfl);have f1:(Mok.tt).holds (a.tmps.getD 90 undef) w':=hd 40 _ _ rfl rfl (by kernel_rfl);exact⟨rfl,jx _ _ _ rfl f0 f1⟩
    | 42,ho,hd =>
     obtain rfl:=osi ho;have f0:(Mok.tt).holds (a.tmps.getD 91 undef) w':=hd 41 _ _ rfl rfl (by kernel_rfl);exact⟨rfl,jf _ (.inl rfl) f0⟩
    | 43,ho,hd =>
     obtain rfl:=osi ho;have fg:(Mok.tt).holds (a.tmps.getD 92 undef) w':=hd 42 _ _ rfl rfl (by kernel_rfl);exact⟨qn 42 92 rfl rfl (by rw[ao];decide) fg,jf _ (.inl rfl) (by show (Mok.idl [5]).holds (a.tmps.getD 6 undef) w';rw[af 6 (qu (by kernel_rfl))];exact Mok.q8 (k:=.idl [5]) yZ hw)⟩
    | 44,ho,hd =>
     obtain rfl:=osi ho;have f0:(Mok.idl [5]).holds (a.tmps.getD 93 undef) w':=hd 43 _ _ rfl rfl (by kernel_rfl);have fg:(Mok.tt).holds (a.tmps.getD 92 undef) w':=hd 42 _ _ rfl rfl (by kernel_rfl);exact⟨qn 42 92 rfl rfl (by rw[ao];decide) fg,qj0 _ _ 5 [] rfl rfl f0⟩
    | 45,ho,hd =>
     obtain rfl:=osi ho;have f0:(Mok.cel 5).holds (a.tmps.getD 94 undef) w':=hd 44 _ _ rfl rfl (by kernel_rfl);have fg:(Mok.tt).holds (a.tmps.getD 92 undef) w':=hd 42 _ _ rfl rfl (by kernel_rfl);exact⟨qn 42 92 rfl rfl (by rw[ao];decide) fg,(by obtain⟨p,hp,hc⟩:=f0;exact zr _ _ rfl _ hp _ (qe0 _ _ _ hc) rfl)⟩
    | 46,ho,hd =>
     obtain rfl:=osi ho;have f0:(Mok.val (.int .i64 5)).holds (a.tmps.getD 95 undef) w':=hd 45 _ _ rfl rfl (by kernel_rfl);have fg:(Mok.tt).holds (a.tmps.getD 92 undef) w':=hd 42 _ _ rfl rfl (by kernel_rfl);exact⟨qn 42 92 rfl rfl (by rw[ao];decide) fg,kx _ _ _ _ _ rfl _ _ f0 rfl _ rfl (qbj _ _ 5 (.inl rfl)) rfl⟩
    | 47,ho,hd =>
     obtain rfl:=osi ho;have f0:(Mok.tt).holds (a.tmps.getD 92 undef) w':=hd 42 _ _ rfl rfl (by kernel_rfl);have f1:(Mok.tt).holds (a.tmps.getD 96 undef) w':=hd 46 _ _ rfl rfl (by kernel_rfl);exact⟨rfl,jx _ _ _ rfl f0 f1⟩
    | 48,ho,hd =>
     obtain rfl:=osi ho;have f0:(Mok.tt).holds (a.tmps.getD 97 undef) w':=hd 47 _ _ rfl rfl (by kernel_rfl);exact⟨rfl,jf _ (.inl rfl) f0⟩
    | 49,ho,hd =>
     obtain rfl:=osi ho;have fg:(Mok.tt).holds (a.tmps.getD 98 undef) w':=hd 48 _ _ rfl rfl (by kernel_rfl);exact⟨qn 48 98 rfl rfl (by rw[ao];decide) fg,zr _ _ rfl _ (af 2 (qu (by kernel_rfl))) _ (ldK (lS.q8 hw)) (Mok.q8 (k:=.cx K2) dG hw)⟩
    | 50,ho,hd =>
     obtain rfl:=osi ho;have fg:(Mok.tt).holds (a.tmps.getD 98 undef) w':=hd 48 _ _ rfl rfl (by kernel_rfl);exact⟨qn 48 98 rfl rfl (by rw[ao];decide) fg,jf _ (.inl rfl) (by show (Mok.prs m2).holds (a.tmps.getD 4 undef) w';rw[af 4 (qu (by kernel_rfl))];exact Mok.q8 (k:=.prs m2) dy hw)⟩
    | 51,ho,hd =>
     obtain rfl:=osi ho;have f0:(Mok.cx K2).holds (a.tmps.getD 99 undef) w':=hd 49 _ _ rfl rfl (by kernel_rfl);have f1:(Mok.prs m2).holds (a.tmps.getD 100 undef) w':=hd 50 _ _ rfl rfl (by kernel_rfl);have fg:(Mok.tt).holds (a.tmps.getD 98 undef) w':=hd 48 _ _ rfl rfl (by kernel_rfl);exact⟨qn 48 98 rfl rfl (by rw[ao];decide) fg,xz _ _ _ rfl qbg #[a.tmps.getD 99 undef,a.tmps.getD 100 undef,.int .i64 5] (by simp[Act.eval]) (kUp _ _ K2 m2 _ f0 q89 (by decide) f1 (q37 (by decide)) 5 (by unfold I64;decide) _ (by unfold Cn;decide) qqf)⟩
    | 52,ho,hd =>
     obtain rfl:=osi ho;have fg:(Mok.tt).holds (a.tmps.getD 98 undef) w':=hd 48 _ _ rfl rfl (by kernel_rfl);exact⟨qn 48 98 rfl rfl (by rw[ao];decide) fg,jf _ (.inl rfl) (by show (Mok.ch [(4,-1),(5,1),(6,-1)]).holds (a.tmps.getD 8 undef) w';rw[af 8 (qu (by kernel_rfl))];exact Mok.q8 (k:=.ch [(4,-1),(5,1),(6,-1)]) FL hw)⟩
    | 53,ho,hd =>
     obtain rfl:=osi ho;have f0:(Mok.ch [(4,-1),(5,1),(6,-1)]).holds (a.tmps.getD 101 undef) w':=hd 51 _ _ rfl rfl (by kernel_rfl);have f1:(Mok.ch [(4,-1),(5,1),(6,-1)]).holds (a.tmps.getD 102 undef) w':=hd 52 _ _ rfl rfl (by kernel_rfl);have fg:(Mok.tt).holds (a.tmps.getD 98 undef) w':=hd 48 _ _ rfl rfl (by kernel_rfl);exact⟨qn 48 98 rfl rfl (by rw[ao];decide) fg,xz _ _ _ rfl q0u #[a.tmps.getD 101 undef,a.tmps.getD 102 undef] (by simp[Act.eval]) (qj2 _ _ _ _ f0 f1)⟩
    | 54,ho,hd =>
     obtain rfl:=osi ho;have f0:(Mok.tt).holds (a.tmps.getD 98 undef) w':=hd 48 _ _ rfl rfl (by kernel_rfl);have f1:(Mok.tt).holds (a.tmps.getD 103 undef) w':=hd 53 _ _ rfl rfl (by kernel_rfl);exact⟨rfl,jx _ _ _ rfl f0 f1⟩
    | 55,ho,hd =>
     obtain rfl:=osi ho;have f0:(Mok.tt).holds (a.tmps.getD 104 undef) w':=hd 54 _ _ rfl rfl (by kernel_rfl);exact⟨rfl,jf _ (.inl rfl) f0⟩
    | 56,ho,hd =>
     obtain rfl:=osi ho;have fg:(Mok.tt).holds (a.tmps.getD 105 undef) w':=hd 55 _ _ rfl rfl (by kernel_rfl);exact⟨qn 55 105 rfl rfl (by rw[ao];decide) fg,zr _ _ rfl _ (af 2 (qu (by kernel_rfl))) _ (ldK (lS.q8 hw)) (Mok.q8 (k:=.cx K2) dG hw)⟩
    | 57,ho,hd =>
     obtain rfl:=osi ho;have fg:(Mok.tt).holds (a.tmps.getD 105 undef) w':=hd 55 _ _ rfl rfl (by kernel_rfl);exact⟨qn 55 105 rfl rfl (by rw[ao];decide) fg,jo _ _ rfl #[(0,.int .i64 1),(1,.int .i64 4)] (by simp[Act.eval]) _ (qfx _ _ _) rfl⟩
    | 58,ho,hd =>
     obtain rfl:=osi ho;have fg:(Mok.tt).holds (a.tmps.getD 105 undef) w':=hd 55 _ _ rfl rfl (by kernel_rfl);exact⟨qn 55 105 rfl rfl (by rw[ao];decide) fg,jo _ _ rfl #[(0,.int .i64 2),(1,.int .i64 6)] (by simp[Act.eval]) _ (qfx _ _ _) rfl⟩
    | 59,ho,hd =>
     obtain rfl:=osi ho;have fg:(Mok.tt).holds (a.tmps.getD 105 undef) w':=hd 55 _ _ rfl rfl (by kernel_rfl);exact⟨qn 55 105 rfl rfl (by rw[ao];decide) fg,jo _ _ rfl #[(0,.int .i64 3),(1,.int .i64 5)] (by simp[Act.eval]) _ (qfx _ _ _) rfl⟩
    | 60,ho,hd =>
     obtain rfl:=osi ho;have f0:(Mok.val (.agg #[.int .i64 1,.int .i64 4])).holds (a.tmps.getD 107 undef) w':=hd 57 _ _ rfl rfl (by kernel_rfl);have f1:(Mok.val (.agg #[.int .i64 2,.int .i64 6])).holds (a.tmps.getD 108 undef) w':=hd 58 _ _ rfl rfl (by kernel_rfl);have f2:(Mok.val (.agg #[.int .i64 3,.int .i64 5])).holds (a.tmps.getD 109 undef) w':=hd 59 _ _ rfl rfl (by kernel_rfl);have fg:(Mok.tt).holds (a.tmps.getD 105 undef) w':=hd 55 _ _ rfl rfl (by kernel_rfl);exact⟨qn 55 105 rfl rfl (by rw[ao];decide) fg,q2x 48 3 _ rfl _ (qj6 _ _ _ _ _ _ _ f0 f1 f2) _ _ (qqj _ _ _ _ _ _ _) (q8p _ _ 2 _ 3 rfl (by unfold maxLen;omega))⟩
    | 61,ho,hd =>
     obtain rfl:=osi ho;have f0:(Mok.cx K2).holds (a.tmps.getD 106 undef) w':=hd 56 _ _ rfl rfl (by kernel_rfl);have f1:(Mok.prs [(1,4),(2,6),(3,5)]).holds (a.tmps.getD 110 undef) w':=hd 60 _ _ rfl rfl (by kernel_rfl);have fg:(Mok.tt).holds (a.tmps.getD 105 undef) w':=hd 55 _ _ rfl rfl (by kernel_rfl);exact⟨qn 55 105 rfl rfl (by rw[ao];decide) fg,xz _ _ _ rfl q0f #[a.tmps.getD 106 undef,a.tmps.getD 110 undef] (by simp[Act.eval]) (qcw _ _ K2 [(1,4),(2,6),(3,5)] _ f0 q89 (by decide) f1 (q37 (by decide)) 43 qq8)⟩
    | 62,ho,hd =>
     obtain rfl:=osi ho;have f0:(Mok.val (.int .i64 43)).holds (a.tmps.getD 111 undef) w':=hd 61 _ _ rfl rfl (by kernel_rfl);have fg:(Mok.tt).holds (a.tmps.getD 105 undef) w':=hd 55 _ _ rfl rfl (by kernel_rfl);exact⟨qn 55 105 rfl rfl (by rw[ao];decide) fg,kx _ _ _ _ _ rfl _ _ f0 rfl _ rfl (qbj _ _ 43 (.inr rfl)) rfl⟩
    | 63,ho,hd =>
     obtain rfl:=osi ho;have f0:(Mok.tt).holds (a.tmps.getD 105 undef) w':=hd 55 _ _ rfl rfl (by kernel_rfl);have f1:(Mok.tt).holds (a.tmps.getD 112 undef) w':=hd 62 _ _ rfl rfl (by kernel_rfl);exact⟨rfl,jx _ _ _ rfl f0 f1⟩
    | 64,ho,hd =>
     obtain rfl:=osi ho;have f0:(Mok.tt).holds (a.tmps.getD 113 undef) w':=hd 63 _ _ rfl rfl (by kernel_rfl);exact⟨rfl,jf _ (.inl rfl) f0⟩
    | 65,ho,hd =>
     obtain rfl:=osi ho;have fg:(Mok.tt).holds (a.tmps.getD 114 undef) w':=hd 64 _ _ rfl rfl (by kernel_rfl);exact⟨qn 64 114 rfl rfl (by rw[ao];decide) fg,zr _ _ rfl _ (af 2 (qu (by kernel_rfl))) _ (ldK (lS.q8 hw)) (Mok.q8 (k:=.cx K2) dG hw)⟩
    | 66,ho,hd =>
     obtain rfl:=osi ho;have fg:(Mok.tt).holds (a.tmps.getD 114 undef) w':=hd 64 _ _ rfl rfl (by kernel_rfl);exact⟨qn 64 114 rfl rfl (by rw[ao];decide) fg,jo _ _ rfl #[(0,.int .i64 1),(1,.int .i64 4)] (by simp[Act.eval]) _ (qfx _ _ _) rfl⟩
    | 67,ho,hd =>
     obtain rfl:=osi ho;have fg:(Mok.tt).holds (a.tmps.getD 114 undef) w':=hd 64 _ _ rfl rfl (by kernel_rfl);exact⟨qn 64 114 rfl rfl (by rw[ao];decide) fg,jo _ _ rfl #[(0,.int .i64 1),(1,.int .i64 5)] (by simp[Act.eval]) _ (qfx _ _ _) rfl⟩
    | 68,ho,hd =>
     obtain rfl:=osi ho;have f0:(Mok.val (.agg #[.int .i64 1,.int .i64 4])).holds (a.tmps.getD 116 undef) w':=hd 66 _ _ rfl rfl (by kernel_rfl);have f1:(Mok.val (.agg #[.int .i64 1,.int .i64 5])).holds (a.tmps.getD 117 undef) w':=hd 67 _ _ rfl rfl (by kernel_rfl);have fg:(Mok.tt).holds (a.tmps.getD 114 undef) w':=hd 64 _ _ rfl rfl (by kernel_rfl);exact⟨qn 64 114 rfl rfl (by rw[ao];decide) fg,q2x 48 2 _ rfl _ (qqh _ _ _ _ _ f0 f1) _ _ (qqk _ _ _ _ _) (q8p _ _ 2 _ 2 rfl (by unfold maxLen;omega))⟩
    | 69,ho,hd =>
     obtain rfl:=osi ho;have f0:(Mok.cx K2).holds (a.tmps.getD 115 undef) w':=hd 65 _ _ rfl rfl (by kernel_rfl);have f1:(Mok.prs [(1,4),(1,5)]).holds (a.tmps.getD 118 undef) w':=hd 68 _ _ rfl rfl (by kernel_rfl);have fg:(Mok.tt).holds (a.tmps.getD 114 undef) w':=hd 64 _ _ rfl rfl (by kernel_rfl);exact⟨qn 64 114 rfl rfl (by rw[ao];decide) fg,xz _ _ _ rfl q0f #[a.tmps.getD 115 undef,a.tmps.getD 118 undef] (by simp[Act.eval]) (qcw _ _ K2 [(1,4),(1,5)] _ f0 q89 (by decide) f1 (q37 (by decide)) 42 qq9)⟩
    | 70,ho,hd =>
     obtain rfl:=osi ho;have f0:(Mok.val (.int .i64 42)).holds (a.tmps.getD 119 undef) w':=hd 69 _ _ rfl rfl (by kernel_rfl);have fg:(Mok.tt).holds (a.tmps.getD 114 undef) w':=hd 64 _ _ rfl rfl (by kernel_rfl);exact⟨qn 64 114 rfl rfl (by rw[ao];decide) fg,kx _ _ _ _ _ rfl _ _ f0 rfl _ rfl (qbj _ _ 42 (.inr rfl)) rfl⟩
    | 71,ho,hd =>
     obtain rfl:=osi ho;have f0:(Mok.tt).holds (a.tmps.getD 114 undef) w':=hd 64 _ _ rfl rfl (by kernel_rfl);have f1:(Mok.tt).holds (a.tmps.getD 120 undef) w':=hd 70 _ _ rfl rfl (by kernel_rfl);exact⟨rfl,jx _ _ _ rfl f0 f1⟩
    | 72,ho,hd =>
     obtain rfl:=osi ho;have f0:(Mok.tt).holds (a.tmps.getD 121 undef) w':=hd 71 _ _ rfl rfl (by kernel_rfl);exact⟨rfl,jf _ (.inl rfl) f0⟩
    | 73,ho,hd =>
     obtain rfl:=osi ho;have fg:(Mok.tt).holds (a.tmps.getD 122 undef) w':=hd 72 _ _ rfl rfl (by kernel_rfl);exact⟨qn 72 122 rfl rfl (by rw[ao];decide) fg,zr _ _ rfl _ (af 2 (qu (by kernel_rfl))) _ (ldK (lS.q8 hw)) (Mok.q8 (k:=.cx K2) dG hw)⟩
    | 74,ho,hd =>
     obtain rfl:=osi ho;have fg:(Mok.tt).holds (a.tmps.getD 122 undef) w':=hd 72 _ _ rfl rfl (by kernel_rfl);exact⟨qn 72 122 rfl rfl (by rw[ao];decide) fg,jo _ _ rfl #[(0,.int .i64 1),(1,.int .i64 6)] (by simp[Act.eval]) _ (qfx _ _ _) rfl⟩
    | 75,ho,hd =>
     obtain rfl:=osi ho;have f0:(Mok.val (.agg #[.int .i64 1,.int .i64 6])).holds (a.tmps.getD 124 undef) w':=hd 74 _ _ rfl rfl (by kernel_rfl);have fg:(Mok.tt).holds (a.tmps.getD 122 undef) w':=hd 72 _ _ rfl rfl (by kernel_rfl);exact⟨qn 72 122 rfl rfl (by rw[ao];decide) fg,q2x 48 1 _ rfl _ (qpl _ _ _ f0) _ _ (qpm _ _ _) (q8p _ _ 2 _ 1 rfl (by unfold maxLen;omega))⟩
    | 76,ho,hd =>
     obtain rfl:=osi ho;have f0:(Mok.cx K2).holds (a.tmps.getD 123 undef) w':=hd 73 _ _ rfl rfl (by kernel_rfl);have f1:(Mok.prs [(1,6)]).holds (a.tmps.getD 125 undef) w':=hd 75 _ _ rfl rfl (by kernel_rfl);have fg:(Mok.tt).holds (a.tmps.getD 122 undef) w':=hd 72 _ _ rfl rfl (by kernel_rfl);exact⟨qn 72 122 rfl rfl (by rw[ao];decide) fg,xz _ _ _ rfl q0f #[a.tmps.getD 123 undef,a.tmps.getD 125 undef] (by simp[Act.eval]) (qcw _ _ K2 [(1,6)] _ f0 q89 (by decide) f1 (q37 (by decide)) 42 qqa)⟩
    | 77,ho,hd =>
     obtain rfl:=osi ho;have f0:(Mok.val (.int .i64 42)).holds (a.tmps.getD 126 undef) w':=hd 76 _ _ rfl rfl (by kernel_rfl);have fg:(Mok.tt).holds (a.tmps.getD 122 undef) w':=hd 72 _ _ rfl rfl (by kernel_rfl);exact⟨qn 72 122 rfl rfl (by rw[ao];decide) fg,kx _ _ _ _ _ rfl _ _ f0 rfl _ rfl (qbj _ _ 42 (.inr rfl)) rfl⟩
    | 78,ho,hd =>
     obtain rfl:=osi ho;have f0:(Mok.tt).holds (a.tmps.getD 122 undef) w':=hd 72 _ _ rfl rfl (by kernel_rfl);have f1:(Mok.tt).holds (a.tmps.getD 127 undef) w':=hd 77 _ _ rfl rfl (by kernel_rfl);exact⟨rfl,jx _ _ _ rfl f0 f1⟩
    | 79,ho,hd =>
     obtain rfl:=osi ho;have f0:(Mok.tt).holds (a.tmps.getD 128 undef) w':=hd 78 _ _ rfl rfl (by kernel_rfl);exact⟨rfl,jf _ (.inr rfl) f0⟩
    | i+80,ho,hd =>
     have:i+80 < 80:=(gw.1 ho).1;omega
   case done9 =>
    intro a oH ao kQ hf af hw;refine hK _ _ ?_;have ht:(Mok.tt).holds (a.tmps.getD 0 undef) oH:=hf 79 _ _ rfl rfl;have yA:=(S9.q8 hw).bl;clear af hf;refine wp_ret ?_;show bodyPost Tryz.prog Tryz.f38 (fun e w'=>e = .returned (.bool true)/\Below w.heap.size w w') .ret a oH;refine bodyPost_ret (v:=.bool true) ?_ kQ ⟨rfl,yA⟩;have re:a.tmps.getD 0 undef = .bool true:=ht;rw[Array.getD_eq_getD_getElem?] at re;simp[results,Tryz.results38,go_sem,re]
end Go.Proofs.YtlhicnfeajejhaaGreatDoor
