/- Steps towards SequenceChecks. Conditions: none. -/
import Derived.Test.YtmkpbhaoalbhjaaGreatDoorXRz
set_option maxRecDepth 1000000
set_option maxHeartbeats 0
open Go.Value renaming slice→O,agg→I,pointer→σ,bool→τ,tuple→ψ
open Option renaming none→Z,some→Y
open Go renaming undef→V,World→δ,Value→ε
open Go.Cx renaming keep→J
namespace Go.Proofs.YtmkpbhaoalbhjaaGreatDoor
open Go.RowKit Go.Cx
attribute [local go_sem ↓] Go.wp_at_zero Go.wp_at_succ
theorem qqp (w:δ)(ad:Addr):(Instr.fieldAt 30 (σ (Y ad)) 0).run Tryz.prog w=.ok (σ (Y ad)) w:=by simp[go_sem]
theorem qqq (w:δ)(ad:Addr):(Instr.fieldAt 30 (σ (Y ad)) 1).run Tryz.prog w=.ok (σ (Y ⟨ad.block,ad.off+1,Z⟩)) w:=by simp[go_sem]
theorem qqs (w:δ)(ad:Addr):(Instr.fieldAt 30 (σ (Y ad)) 2).run Tryz.prog w=.ok (σ (Y ⟨ad.block,ad.off+2,Z⟩)) w:=by simp[go_sem]
theorem qhp {p:Int}{D:List Int}{l:List Fq}{k:Nat}(hk:k<D.length)(h:((inR l k+q34 l k:Nat):Int)≠D.getD k 0):exB p D l=false:=by
 cases hb:exB p D l with
 |false=>rfl
 |true=>exact absurd ((q6h.1 hb).2.1 k hk) h
theorem qhq {p:Int}{D:List Int}{l:List Fq}(h:kv p D l=false):exB p D l=false:=by unfold exB;rw[h];rfl
theorem qu2 {p:Int}{D:List Int}{l:List Fq}{k:Nat}(hk:k<l.length){n:Int}(hn:n∈(q35 l k).flatten)(h0:n≠0):exB p D l=false:=by
 cases hb:exB p D l with
 |false=>rfl
 |true=>exact absurd ((q6h.1 hb).2.2 k hk n hn) h0
theorem q6p {Q:Nat->Prop}{k:Nat}(h:∀i,i<k->Q i)(hk:Q k):∀i,i<k+1->Q i:=fun i hi=>by
 rcases gG i k with h1|h1
 ·exact h i h1
 ·obtain rfl:i=k:=by omega
  exact hk
theorem qm1 {w:δ}{P:Int}{D:List Int}{L:List Fc}{ma:Option Addr}{mn mc:Nat}(hM:SlF w (O ma mn mc) L)(hS:kv P D (L.map Fc.q)=true){k:Nat}(hk:k<L.length) :
  ∃(cN:Addr) (r c:Nat) (a:Option Addr) (n kk o:Nat),ma=Y cN/\w (cN.add (k*4))=P/\w ⟨(cN.add (k*4)).block,(cN.add (k*4)).off+1,Z⟩=r/\w ⟨(cN.add (k*4)).block,(cN.add (k*4)).off+2,Z⟩=c ∧
   w ⟨(cN.add (k*4)).block,(cN.add (k*4)).off+3,Z⟩=O a n kk/\o=q34 (L.map Fc.q) k/\Calls Tryz.prog 13 #[I #[P,r,c,O a n kk]] w fun e w'=>e=.returned (o:Nat)/\Below w w w':=by
 obtain⟨cN,r,c,a,n,kk,M,rfl,d0,d1,d2,d3,hX,hF,hr,hc,_,_,x,hx,kY,fs,sZ⟩:=qfv hM hS hk;refine⟨cN,r,c,a,n,kk,q2r P c M,rfl,d0,d1,d2,d3,?_,qt2 P r c _ M w hX (yz.1 hS).2.2.1 hF hr hc⟩;rw[qc2 hx,kY,fs,sZ]
theorem qu3 {w:δ}{v:ε}{P:Int}{D:List Int}{L:List Fc}(h:SqV w v P D L) :
  Calls Tryz.prog 8 #[v] w fun e w'=>e=.returned (τ (exB P D (L.map Fc.q)))/\Below w w w':=by
 obtain⟨l,hl⟩:=x4 (L.map Fc.q);rw[<-hl];obtain⟨sd,sm,rfl,hD,hM⟩:=h;obtain⟨da,dn,dc,rfl⟩:=qg hD;obtain⟨ma,mn,mc,rfl⟩:=qg hM.1;have kD:dn=D.length:=by have:=hD.open.2.2.1;rw[xl]at this;omega
 have pP:mn=L.length:=q7y hM.1;have aW:l.length=mn:=by rw[hl,gp,pP]
 have Qp:dn<=9223372036854775807:=by have h1:=hD.open.1;have h2:=hD.open.2.1;unfold maxLen at h2;omega
 have dU:mn<=9223372036854775807:=by have h1:=hM.1.open.1;have h2:=hM.1.open.2.1;unfold maxLen at h2;omega
 have HH:=kp hD hM kD pP aW hl;clear hD hM kD pP aW hl;go_enter Tryz.func8,Tryz.ntmps8;go_wp2_with fail;obtain⟨W,hW⟩:=x4 (w.alloc (.cells #[P,O da dn dc,O ma mn mc] 27));have hw:Below w w W:=by rw[hW];exact(q9).alloc (nlr _) _
 have c0:W w=P:=by rw[hW];exact xz w _ _ 0 rfl
 have c1:W ⟨w,1,Z⟩=O da dn dc:=by rw[hW];exact xz w _ _ 1 rfl
 have c2:W ⟨w,2,Z⟩=O ma mn mc:=by rw[hW];exact xz w _ _ 2 rfl
 rw[<-hW];clear hW;refine(qjg P W).mono ?_;rintro e w1 ⟨rfl,ae⟩
 replace c0:=J ae c0
 replace c1:=J ae c1
 replace c2:=J ae c2
 have fC:Below w w w1:=(btr hw ae);have H1:=yt fC c0 c1 c2;clear hw fC ae;by_cases h1:dn<1
 ·have Mc:(dn:Int)<1:=by omega
  have HX:=lhd (qhq (show kv P D l=false by
   cases hb:kv P D l with
   |false=>rfl
   |true=>have:=(yz.1 hb).1;have:=HH.a2;omega))
  go_wp2_with fail;go_ret;exact⟨by rw[HX.out];rfl,H1.out.1⟩
 ·obtain⟨d1,eD⟩:∃d1:Nat,dn=d1+1:=⟨dn-1,by omega⟩
  have Mc:¬(dn:Int)<1:=by omega
  have KS:IntKind.i64.wrap ((dn:Int)-1)=(d1:Int):=by rw[IntWalk.i64_in _ (by omega)];omega
  by_cases h2:mn=d1
  ·have Md:((mn:Int) != (d1:Int))=false:=by rw[h2];simp
   by_cases hp:prI P=true
   ·rw[hp];have lr:=yh eD h2 hp;clear eD h2 hp c0 c1;go_wp2_with fail;clear c2;go_loopw [5,6] (fun x _ wr=>∃k:Nat,x=k/\k<=d1/\Hid (∀i,i<k->q8q P D l i=true)/\Hid (Below w1 w1 wr)) (fun x _ _=>d1-(vI x).toNat)
    case atStart=>exact⟨0,rfl,gm _,(lhd (fun i hi=>absurd hi (Nat.not_lt_zero i))),(lhd q9)⟩
    case round =>
     obtain⟨k,rfl,hk,HF,HB⟩:=hrel;by_cases cd:k<d1
     ·have cV:(k:Int)<d1:=by omega
      have tj:k<mn:=by rw[lr.a1];exact cd
      have bQ:Below w w wr:=(btr H1.out.1 HB.out);obtain⟨cN,y,rfl,hy,a0,a1,a2,a3⟩:=qhl (HH.a1.1.keep bQ) (k:=k) (by rw[<-HH.a3];exact tj);have sW:Sl wr 1 (O y.a y.n y.k) (ints y.E):=(HH.a1.2 y (gi hy)).keep bQ;obtain⟨iS,rfl,e0⟩:=q6o (HH.out.1.keep bQ) (k:=k) (by have:=lr.out.1;omega);obtain⟨sX,tH,e1⟩:=q6o (HH.out.1.keep bQ) (k:=k+1) (by have:=lr.out.1;omega);obtain rfl:iS=sX:=by injection tH
      have lT:IntKind.i64.wrap ((k:Int)+1)=((k+1:Nat):Int):=IntWalk.i64_in _ (by omega);have nt:k<dn:=by have:=lr.out.1;omega
      have sY:k+1<dn:=by have:=lr.out.1;omega
      obtain⟨k1,cJ⟩:=x4 (k+1);rw[<-cJ]at lT e1 sY;obtain⟨dk,bN⟩:=x4 (D.getD k 0);obtain⟨Fs,og⟩:=x4 (D.getD k1 0);rw[<-bN]at e0;rw[<-og]at e1;obtain⟨yp,hyp⟩:=x4 y.p;obtain⟨yr,kX⟩:=x4 y.r;obtain⟨yc,nz⟩:=x4 y.c;obtain⟨ya,sK⟩:=x4 y.a;obtain⟨yn,jZ⟩:=x4 y.n;obtain⟨yk,iz⟩:=x4 y.k;rw[<-hyp]at a0;rw[<-kX]at a1;rw[<-nz]at a2;rw[<-sK,<-jZ,<-iz]at a3 sW;obtain⟨q1,fN⟩:=x4 (okM yp yr yc y.E);obtain⟨b2,aj⟩:∃z,(yp != P)=z:=⟨_,rfl⟩
      obtain⟨b3,aw⟩:∃z,(yc != dk)=z:=⟨_,rfl⟩
      obtain⟨b4,aN⟩:∃z,(yr != Fs)=z:=⟨_,rfl⟩
      have VW:(L.map Fc.q)[k]? =Y y.q:=by rw[List.getElem?_map,hy];rfl
      have ib:q8q P D l k=!(((!q1 || b2) || b3) || b4):=by rw[HH.b5,qqe hy,<-aj,<-aw,<-aN,fN,bN,og,cJ,hyp,kX,nz]
      have c2:=J HB.out H1.b3;have hR:=qgc yp yr yc _ y.E wr sW;rw[<-fN]at hR;have HX:=jg ib cJ;have HR:=lhd hR;have HN:=yh aj aw aN;have HA:=kp a0 a1 a2 a3 e0 e1;clear bQ sW tH fN bN og hyp kX nz sK jZ iz hy VW ib hR cJ aj aw aN e0 e1;go_wp2_with fail;refine HR.out.mono ?_;rintro e w5 ⟨rfl,aC⟩;have c0:=J aC (J HB.out H1.a1);have c1:=J aC (J HB.out H1.a2)
      replace c2:=J aC c2
      replace a0:=J aC a0
      replace a1:=J aC a1
      replace a2:=J aC a2
      have e0:=J aC HA.a4;have e1:=J aC HA.b5;have HE:=q5h c0 c1 c2 a0 a1 a2 e0 e1;have lX:=lhd aC;clear c0 c1 c2 a0 a1 a2 a3 e0 e1 aC;go_wp2_with fail;obtain⟨c0,c1,c2,a0,a1,a2,e0,e1⟩:=HE.out;obtain⟨aj,aw,aN⟩:=HN.out
      go_cut [86]from 45 to 85 (fun x wx=>x=τ (((!q1 || b2) || b3) || b4)/\Hid (Below w5 w5 wx))
      case first =>
       rename_i At K2 hJ aQ;refine q8t rfl (fun i v w'=>match i with
        |0=>v=τ q1
        |1=>v=τ (!q1)
        |2=>v=τ (!q1)
        |3=>(!q1)=false->v=σ (Y ⟨w,2,Z⟩)
        |4=>(!q1)=false->v=O (Y cN) mn mc
        |5=>(!q1)=false->v=(k:Int)
        |6=>(!q1)=false->v=σ (Y (cN.add (k*4)))
        |7=>(!q1)=false->v=σ (Y (cN.add (k*4)))
        |8=>(!q1)=false->v=yp
        |9=>(!q1)=false->v=σ w
        |10=>(!q1)=false->v=P
        |11=>(!q1)=false->v=τ b2
        |12=>v=τ ((!q1) || b2)
        |13=>v=τ ((!q1) || b2)
        |14=>((!q1) || b2)=false->v=σ (Y ⟨w,2,Z⟩)
        |15=>((!q1) || b2)=false->v=O (Y cN) mn mc
        |16=>((!q1) || b2)=false->v=(k:Int)
        |17=>((!q1) || b2)=false->v=σ (Y (cN.add (k*4)))
        |18=>((!q1) || b2)=false->v=σ (Y (⟨(cN.add (k*4)).block,(cN.add (k*4)).off+2,Z⟩))
        |19=>((!q1) || b2)=false->v=yc
        |20=>((!q1) || b2)=false->v=σ (Y ⟨w,1,Z⟩)
        |21=>((!q1) || b2)=false->v=O (Y iS) dn dc
        |22=>((!q1) || b2)=false->v=(k:Int)
        |23=>((!q1) || b2)=false->v=σ (Y (iS.add k))
        |24=>((!q1) || b2)=false->v=dk
        |25=>((!q1) || b2)=false->v=τ b3
        |26=>v=τ (((!q1) || b2) || b3)
        |27=>v=τ (((!q1) || b2) || b3)
        |28=>(((!q1) || b2) || b3)=false->v=σ (Y ⟨w,2,Z⟩)
        |29=>(((!q1) || b2) || b3)=false->v=O (Y cN) mn mc
        |30=>(((!q1) || b2) || b3)=false->v=(k:Int)
        |31=>(((!q1) || b2) || b3)=false->v=σ (Y (cN.add (k*4)))
        |32=>(((!q1) || b2) || b3)=false->v=σ (Y (⟨(cN.add (k*4)).block,(cN.add (k*4)).off+1,Z⟩))
        |33=>(((!q1) || b2) || b3)=false->v=yr
        |34=>(((!q1) || b2) || b3)=false->v=σ (Y ⟨w,1,Z⟩)
        |35=>(((!q1) || b2) || b3)=false->v=O (Y iS) dn dc
        |36=>(((!q1) || b2) || b3)=false->v=(k:Int)
        |37=>(((!q1) || b2) || b3)=false->v=(k1:Int)
        |38=>(((!q1) || b2) || b3)=false->v=σ (Y (iS.add k1))
        |39=>(((!q1) || b2) || b3)=false->v=Fs
        |40=>(((!q1) || b2) || b3)=false->v=τ b4
        |41=>v=τ ((((!q1) || b2) || b3) || b4)
        |_=>True) 155 rfl (by kernel_rfl) (by kernel_rfl) ?keep ?step ?done
       case keep =>
        intro i v w1 w2 h hb
        match i,h with
        |0,h=>exact h
        |1,h=>exact h
        |2,h=>exact h
        |3,h=>exact h
        |4,h=>exact h
        |5,h=>exact h
        |6,h=>exact h
        |7,h=>exact h
        |8,h=>exact h
        |9,h=>exact h
        |10,h=>exact h
        |11,h=>exact h
        |12,h=>exact h
        |13,h=>exact h
        |14,h=>exact h
        |15,h=>exact h
        |16,h=>exact h
        |17,h=>exact h
        |18,h=>exact h
        |19,h=>exact h
        |20,h=>exact h
        |21,h=>exact h
        |22,h=>exact h
        |23,h=>exact h
        |24,h=>exact h
        |25,h=>exact h
        |26,h=>exact h
        |27,h=>exact h
        |28,h=>exact h
        |29,h=>exact h
        |30,h=>exact h
        |31,h=>exact h
        |32,h=>exact h
        |33,h=>exact h
        |34,h=>exact h
        |35,h=>exact h
        |36,h=>exact h
        |37,h=>exact h
        |38,h=>exact h
        |39,h=>exact h
        |40,h=>exact h
        |41,h=>exact h
        |i+42,h=>trivial
       case step =>
        intro i o ho b w' hw hd ab hsz
        match i,ho,hd with
        |0,rfl,_ =>exact .inl ⟨rfl,q1b _ (.inl rfl) ⟨_,rfl,(zr qu ab 6),q9⟩⟩
        |1,rfl,hd =>exact .inl ⟨rfl,q3g _ _ _ rfl _ (zf hd 0) _ (by simp[go_sem]) ⟨_,rfl,rfl,q9⟩⟩
        |2,rfl,hd =>exact .inl ⟨rfl,q1b _ (.inl rfl) ⟨_,rfl,(zf hd 1),q9⟩⟩
        |3,rfl,hd =>exact gaw (!q1) 2 47 (zf hd 2) fun hb=>q8b _ _ _ rfl _ (zr qu ab 1) _ (vw _ _ _ (by decide)) ⟨_,rfl,fun _=>rfl,q9⟩
        |4,rfl,hd =>exact gaw (!q1) 2 47 (zf hd 2) fun hb=>q8o _ _ rfl _ ((zf hd 3) hb) _ (q4k _ _ _ _ _ (J hw c2)) ⟨_,rfl,fun _=>rfl,q9⟩
        |5,rfl,hd =>exact gaw (!q1) 2 47 (zf hd 2) fun hb=>q1b _ (.inl rfl) ⟨_,rfl,fun _=>(zr qu ab 5),q9⟩
        |6,rfl,hd =>exact gaw (!q1) 2 47 (zf hd 2) fun hb=>qc9 _ _ _ rfl _ _ ((zf hd 4) hb) ((zf hd 5) hb) _ (q4o _ _ _ _ _ tj) ⟨_,rfl,fun _=>rfl,q9⟩
        |7,rfl,hd =>exact gaw (!q1) 2 47 (zf hd 2) fun hb=>q8b _ _ _ rfl _ ((zf hd 6) hb) _ (qqp _ _) ⟨_,rfl,fun _=>rfl,q9⟩
        |8,rfl,hd =>exact gaw (!q1) 2 47 (zf hd 2) fun hb=>q8o _ _ rfl _ ((zf hd 7) hb) _ (qe0 _ _ _ (J hw a0)) ⟨_,rfl,fun _=>rfl,q9⟩
        |9,rfl,hd =>exact gaw (!q1) 2 47 (zf hd 2) fun hb=>q8b _ _ _ rfl _ (zr qu ab 1) _ (vw _ _ _ (by decide)) ⟨_,rfl,fun _=>rfl,q9⟩
        |10,rfl,hd =>exact gaw (!q1) 2 47 (zf hd 2) fun hb=>q8o _ _ rfl _ ((zf hd 9) hb) _ (qe0 _ _ _ (J hw c0)) ⟨_,rfl,fun _=>rfl,q9⟩
        |11,rfl,hd =>exact gaw (!q1) 2 47 (zf hd 2) fun hb=>qnf _ _ _ _ _ rfl _ _ ((zf hd 8) hb) ((zf hd 10) hb) _ (q7z _ _ _ _ w') (qfu aj _) ⟨_,rfl,fun _=>rfl,q9⟩
        |12,rfl,hd =>
         have fc:b 47 V=τ (!q1):=(zf hd 2)
         cases hb:(!q1)with
         |true=>rw[hb]at fc;exact .inl ⟨rfl,qka _ _ _ rfl fc ⟨_,rfl,rfl,q9⟩⟩
         |false=>rw[hb]at fc;exact .inl ⟨rfl,q29 _ _ _ rfl fc ⟨_,rfl,((zf hd 11) hb),q9⟩⟩
        |13,rfl,hd =>exact .inl ⟨rfl,q1b _ (.inl rfl) ⟨_,rfl,(zf hd 12),q9⟩⟩
        |14,rfl,hd =>exact gaw ((!q1) || b2) 13 58 (zf hd 13) fun hb=>q8b _ _ _ rfl _ (zr qu ab 1) _ (vw _ _ _ (by decide)) ⟨_,rfl,fun _=>rfl,q9⟩
        |15,rfl,hd =>exact gaw ((!q1) || b2) 13 58 (zf hd 13) fun hb=>q8o _ _ rfl _ ((zf hd 14) hb) _ (q4k _ _ _ _ _ (J hw c2)) ⟨_,rfl,fun _=>rfl,q9⟩
        |16,rfl,hd =>exact gaw ((!q1) || b2) 13 58 (zf hd 13) fun hb=>q1b _ (.inl rfl) ⟨_,rfl,fun _=>(zr qu ab 5),q9⟩
        |17,rfl,hd =>exact gaw ((!q1) || b2) 13 58 (zf hd 13) fun hb=>qc9 _ _ _ rfl _ _ ((zf hd 15) hb) ((zf hd 16) hb) _ (q4o _ _ _ _ _ tj) ⟨_,rfl,fun _=>rfl,q9⟩
        |18,rfl,hd =>exact gaw ((!q1) || b2) 13 58 (zf hd 13) fun hb=>q8b _ _ _ rfl _ ((zf hd 17) hb) _ (qqs _ _) ⟨_,rfl,fun _=>rfl,q9⟩
        |19,rfl,hd =>exact gaw ((!q1) || b2) 13 58 (zf hd 13) fun hb=>q8o _ _ rfl _ ((zf hd 18) hb) _ (qe0 _ _ _ (J hw a2)) ⟨_,rfl,fun _=>rfl,q9⟩
        |20,rfl,hd =>exact gaw ((!q1) || b2) 13 58 (zf hd 13) fun hb=>q8b _ _ _ rfl _ (zr qu ab 1) _ (vw _ _ _ (by decide)) ⟨_,rfl,fun _=>rfl,q9⟩
        |21,rfl,hd =>exact gaw ((!q1) || b2) 13 58 (zf hd 13) fun hb=>q8o _ _ rfl _ ((zf hd 20) hb) _ (yy _ _ _ _ _ (J hw c1)) ⟨_,rfl,fun _=>rfl,q9⟩
        |22,rfl,hd =>exact gaw ((!q1) || b2) 13 58 (zf hd 13) fun hb=>q1b _ (.inl rfl) ⟨_,rfl,fun _=>(zr qu ab 5),q9⟩
        |23,rfl,hd =>exact gaw ((!q1) || b2) 13 58 (zf hd 13) fun hb=>qc9 _ _ _ rfl _ _ ((zf hd 21) hb) ((zf hd 22) hb) _ (q0w _ _ _ _ _ nt) ⟨_,rfl,fun _=>rfl,q9⟩
        |24,rfl,hd =>exact gaw ((!q1) || b2) 13 58 (zf hd 13) fun hb=>q8o _ _ rfl _ ((zf hd 23) hb) _ (qe0 _ _ _ (J hw e0)) ⟨_,rfl,fun _=>rfl,q9⟩
        |25,rfl,hd =>exact gaw ((!q1) || b2) 13 58 (zf hd 13) fun hb=>qnf _ _ _ _ _ rfl _ _ ((zf hd 19) hb) ((zf hd 24) hb) _ (q7z _ _ _ _ w') (qfu aw _) ⟨_,rfl,fun _=>rfl,q9⟩
        |26,rfl,hd =>
         have fc:b 58 V=τ ((!q1) || b2):=(zf hd 13)
         cases hb:((!q1) || b2)with
         |true=>rw[hb]at fc;exact .inl ⟨rfl,qka _ _ _ rfl fc ⟨_,rfl,rfl,q9⟩⟩
         |false=>rw[hb]at fc;exact .inl ⟨rfl,q29 _ _ _ rfl fc ⟨_,rfl,((zf hd 25) hb),q9⟩⟩
        |27,rfl,hd =>exact .inl ⟨rfl,q1b _ (.inl rfl) ⟨_,rfl,(zf hd 26),q9⟩⟩
        |28,rfl,hd =>exact gaw (((!q1) || b2) || b3) 27 72 (zf hd 27) fun hb=>q8b _ _ _ rfl _ (zr qu ab 1) _ (vw _ _ _ (by decide)) ⟨_,rfl,fun _=>rfl,q9⟩
        |29,rfl,hd =>exact gaw (((!q1) || b2) || b3) 27 72 (zf hd 27) fun hb=>q8o _ _ rfl _ ((zf hd 28) hb) _ (q4k _ _ _ _ _ (J hw c2)) ⟨_,rfl,fun _=>rfl,q9⟩
        |30,rfl,hd =>exact gaw (((!q1) || b2) || b3) 27 72 (zf hd 27) fun hb=>q1b _ (.inl rfl) ⟨_,rfl,fun _=>(zr qu ab 5),q9⟩
        |31,rfl,hd =>exact gaw (((!q1) || b2) || b3) 27 72 (zf hd 27) fun hb=>qc9 _ _ _ rfl _ _ ((zf hd 29) hb) ((zf hd 30) hb) _ (q4o _ _ _ _ _ tj) ⟨_,rfl,fun _=>rfl,q9⟩
        |32,rfl,hd =>exact gaw (((!q1) || b2) || b3) 27 72 (zf hd 27) fun hb=>q8b _ _ _ rfl _ ((zf hd 31) hb) _ (qqq _ _) ⟨_,rfl,fun _=>rfl,q9⟩
        |33,rfl,hd =>exact gaw (((!q1) || b2) || b3) 27 72 (zf hd 27) fun hb=>q8o _ _ rfl _ ((zf hd 32) hb) _ (qe0 _ _ _ (J hw a1)) ⟨_,rfl,fun _=>rfl,q9⟩
        |34,rfl,hd =>exact gaw (((!q1) || b2) || b3) 27 72 (zf hd 27) fun hb=>q8b _ _ _ rfl _ (zr qu ab 1) _ (vw _ _ _ (by decide)) ⟨_,rfl,fun _=>rfl,q9⟩
        |35,rfl,hd =>exact gaw (((!q1) || b2) || b3) 27 72 (zf hd 27) fun hb=>q8o _ _ rfl _ ((zf hd 34) hb) _ (yy _ _ _ _ _ (J hw c1)) ⟨_,rfl,fun _=>rfl,q9⟩
        |36,rfl,hd =>exact gaw (((!q1) || b2) || b3) 27 72 (zf hd 27) fun hb=>q1b _ (.inl rfl) ⟨_,rfl,fun _=>(zr qu ab 5),q9⟩
        |37,rfl,hd =>exact gaw (((!q1) || b2) || b3) 27 72 (zf hd 27) fun hb=>qnf _ _ _ _ _ rfl _ _ ((zf hd 36) hb) rfl _ rfl (q1u lT _) ⟨_,rfl,fun _=>rfl,q9⟩
        |38,rfl,hd =>exact gaw (((!q1) || b2) || b3) 27 72 (zf hd 27) fun hb=>qc9 _ _ _ rfl _ _ ((zf hd 35) hb) ((zf hd 37) hb) _ (q0w _ _ _ _ _ sY) ⟨_,rfl,fun _=>rfl,q9⟩
        |39,rfl,hd =>exact gaw (((!q1) || b2) || b3) 27 72 (zf hd 27) fun hb=>q8o _ _ rfl _ ((zf hd 38) hb) _ (qe0 _ _ _ (J hw e1)) ⟨_,rfl,fun _=>rfl,q9⟩
        |40,rfl,hd =>exact gaw (((!q1) || b2) || b3) 27 72 (zf hd 27) fun hb=>qnf _ _ _ _ _ rfl _ _ ((zf hd 33) hb) ((zf hd 39) hb) _ (q7z _ _ _ _ w') (qfu aN _) ⟨_,rfl,fun _=>rfl,q9⟩
        |41,rfl,hd =>
         have fc:b 72 V=τ (((!q1) || b2) || b3):=(zf hd 27)
         cases hb:(((!q1) || b2) || b3)with
         |true=>rw[hb]at fc;exact .inl ⟨rfl,qka _ _ _ rfl fc ⟨_,rfl,rfl,q9⟩⟩
         |false=>rw[hb]at fc;exact .inl ⟨rfl,q29 _ _ _ rfl fc ⟨_,rfl,((zf hd 40) hb),q9⟩⟩
        |i+42,ho,hd =>have:i+42<42:=(gh.1 ho).1;omega
       case done =>intro b w2 hsz aO hf ab hw;have VX:b 86 V=τ (((!q1 || b2) || b3) || b4):=hf 41 _ _ rfl rfl;refine aQ _ _ (Met.intro (hJ _ _ ⟨b 45 V,b 46 V,b 47 V,b 48 V,b 49 V,b 50 V,b 51 V,b 52 V,b 53 V,b 54 V,b 55 V,b 56 V,b 57 V,b 58 V,b 59 V,b 60 V,b 61 V,b 62 V,b 63 V,b 64 V,b 65 V,b 66 V,b 67 V,b 68 V,b 69 V,b 70 V,b 71 V,b 72 V,b 73 V,b 74 V,b 75 V,b 76 V,b 77 V,b 78 V,b 79 V,b 80 V,b 81 V,b 82 V,b 83 V,b 84 V,b 85 V,b 86 V,⟨VX,(lhd hw)⟩,(q8z hsz aO ab).trans ?_⟩));kernel_rfl
      case rest =>
       obtain⟨hx,qL⟩:=hcut;obtain⟨w6,sw⟩:=x4 wc;subst sw;have ns:Below w1 w1 w6:=HB.out.trans (((btr lX.out qL.out)).mono HB.out.size);have H6:=lhd ns;clear c0 c1 c2 a0 a1 a2 e0 e1 aj aw aN ns;obtain⟨bt,bU⟩:=x4 (((!q1 || b2) || b3) || b4);rw[<-bU]at hx HX;clear bU;subst hx;cases bt with
       |true =>
        have VY:=lhd (qhq (show kv P D l=false by
         cases hb:kv P D l with
         |false=>rfl
         |true =>have h1:=(yz.1 hb).2.2.2 k (by rw[HH.a4];exact tj);rw[HX.out.1]at h1;cases h1))
        go_wp2_with fail;go_ret;exact⟨by rw[VY.out];rfl,(btr H1.out.1 H6.out)⟩
       |false =>
        go_wp2_with fail;go_roundw
        case measure=>simp[vI];have:=HX.out.2;omega
        case rel=>exact⟨k+1,qh (by have:=HX.out.2;omega),cd,(lhd (q6p HF.out HX.out.1)),(lhd H6.out)⟩
     ·have aM:k=d1:=by omega
      have cV:¬(k:Int)<d1:=by omega
      have hS:kv P D l=true:=yz.2 ⟨by have:=HH.a2;omega,by have:=HH.a2;have:=HH.a4;have:=lr.out;omega,lr.b2,fun i hi=>HF.out i (by have:=HH.a4;have:=lr.a1;omega)⟩;obtain⟨w5,nw⟩:=x4 wr;subst nw;have HS:=jg hS HB.out;clear aM hS;clear HF hk cd HB;go_wp2_with fail;go_loopw [7,8] (fun x _ wr=>∃i:Nat,x=i/\i<=dn/\Hid (∀j,j<i->((inR l j+q34 l j:Nat):Int)=D.getD j 0)/\Hid (Below w5 w5 wr)) (fun x _ _=>dn-(vI x).toNat)
      case atStart=>exact⟨0,rfl,gm _,(lhd (fun j hj=>absurd hj (Nat.not_lt_zero j))),(lhd q9)⟩
      case round =>
       obtain⟨i,rfl,hi,HR,aR⟩:=hrel;by_cases hid:i<dn
       ·have MI:(i:Int)<dn:=by omega
        have bQ:Below w w wr:=H1.out.1.trans (((btr HS.out.2 aR.out)).mono H1.out.1.size);have MJ:Below w1 w1 wr:=(btr HS.out.2 aR.out);obtain⟨iS,rfl,e0⟩:=q6o (HH.out.1.keep bQ) hid;obtain⟨dk,bN⟩:=x4 (D.getD i 0);rw[<-bN]at e0;have c1:=J MJ H1.a2;have c2:=J MJ H1.b3;clear MJ;have pj:IntKind.i64.wrap ((i:Int)+1)=((i+1:Nat):Int):=IntWalk.i64_in _ (by omega);obtain⟨i2,MK⟩:=x4 (i+1);rw[<-MK]at pj;have tE:=lhd MK;clear MK;by_cases zH:0<i
        ·have ML:(0:Int)<(i:Int):=by omega
         obtain⟨i1,eu⟩:∃z,i=z+1:=⟨i-1,by omega⟩
         have rK:IntKind.i64.wrap ((i:Int)-1)=(i1:Int):=by rw[IntWalk.i64_in _ (by omega)];omega
         have La:(i1:Int)<mn:=by have:=lr.out;omega
         by_cases aD:i<d1
         ·have AZ:(i:Int)<d1:=by omega
          have MM:(i:Int)<mn:=by have:=lr.out;omega
          obtain⟨cN,r,c,xa,xn,xk,o1,rfl,a0,a1,a2,a3,tr,n4⟩:=qm1 (HH.a1.keep bQ) (by rw[<-HH.b5];exact HS.out.1) (k:=i1) (by have:=HH.a3;have:=lr.out;omega);rw[<-HH.b5]at tr;have eN:inR l i=o1:=by rw[eu,tr];rfl
          have Qq:o1<=400:=by rw[tr];exact q84 HS.out.1 i1
          have HI:=jg eN eu;have HK:=lhd n4;clear eN eu n4 tr;go_wp2_with fail;refine HK.out.mono ?_;rintro e w7 ⟨rfl,cq⟩;have Gn:Below w w w7:=(btr bQ cq)
          replace c1:=J cq c1
          replace c2:=J cq c2
          replace e0:=J cq e0
          have lE:=lhd ((btr aR.out cq));clear a0 a1 a2 a3 cq;obtain⟨MN,r2,iN,ya,yn,yk,o2,dU,b0,b1,b2,b3,oh,n4⟩:=qm1 (HH.a1.keep Gn) (by rw[<-HH.b5];exact HS.out.1) (k:=i) (by have:=HH.a3;have:=lr.out;omega);obtain rfl:cN=MN:=by injection dU
          clear dU;rw[<-HH.b5]at oh;have MO:o2<=400:=by rw[oh];exact q84 HS.out.1 i
          have E0:=jg n4 oh;have ws:IntKind.i64.wrap ((o1:Int)+(o2:Int))=((o1+o2:Nat):Int):=IntWalk.i64_in _ (by omega);obtain⟨s0,dg⟩:=x4 (o1+o2);rw[<-dg]at ws;have cC:((inR l i+q34 l i:Nat):Int)=(s0:Int):=by rw[HI.out.1,<-oh,dg]
          have ed:=jg cC bN;clear cC bN dg n4 oh;go_wp2_with fail;refine E0.out.1.mono ?_;rintro e w8 ⟨rfl,fg⟩
          replace c1:=J fg c1
          replace e0:=J fg e0
          have mT:=lhd ((btr lE.out fg));clear b0 b1 b2 b3 fg c2;by_cases dM:((s0:Int) != dk)=true
          ·have oo:=lhd dM;go_wp2_with fail;go_ret;exact⟨by rw[qhp (k:=i) (by have:=HH.a2;omega) (by rw[ed.out.1,<-ed.out.2];simpa using oo.out)];rfl,H1.out.1.trans (((btr HS.out.2 mT.out)).mono H1.out.1.size)⟩
          ·have dM:((s0:Int) != dk)=false:=by simpa using dM
           have oo:=lhd dM;go_wp2_with fail;go_roundw
           case measure=>simp[vI];have:=tE.out;omega
           case rel=>exact⟨i+1,qh (by have:=tE.out;omega),by omega,(lhd (q6p HR.out (by rw[ed.out.1,<-ed.out.2];simpa using oo.out))),(lhd mT.out)⟩
         ·have AZ:¬(i:Int)<d1:=by omega
          obtain⟨cN,r,c,xa,xn,xk,o1,rfl,a0,a1,a2,a3,tr,n4⟩:=qm1 (HH.a1.keep bQ) (by rw[<-HH.b5];exact HS.out.1) (k:=i1) (by have:=HH.a3;have:=lr.out;omega);rw[<-HH.b5]at tr;have eN:inR l i=o1:=by rw[eu,tr];rfl
          have Qq:o1<=400:=by rw[tr];exact q84 HS.out.1 i1
          have HI:=jg eN eu;have HK:=lhd n4;clear eN eu n4 tr;go_wp2_with fail;refine HK.out.mono ?_;rintro e w7 ⟨rfl,cq⟩;have Gn:Below w w w7:=(btr bQ cq)
          replace c1:=J cq c1
          replace c2:=J cq c2
          replace e0:=J cq e0
          have lE:=lhd ((btr aR.out cq));clear a0 a1 a2 a3 cq;have mU:q34 l i=0:=qc3 (by have:=HH.a4;have:=lr.out;omega);have cC:((inR l i+q34 l i:Nat):Int)=(o1:Int):=by rw[HI.out.1,mU];simp
          have ed:=jg cC bN;clear cC bN mU;by_cases dM:((o1:Int) != dk)=true
          ·have oo:=lhd dM;go_wp2_with fail;go_ret;exact⟨by rw[qhp (k:=i) (by have:=HH.a2;omega) (by rw[ed.out.1,<-ed.out.2];simpa using oo.out)];rfl,H1.out.1.trans (((btr HS.out.2 lE.out)).mono H1.out.1.size)⟩
          ·have dM:((o1:Int) != dk)=false:=by simpa using dM
           have oo:=lhd dM;go_wp2_with fail;go_roundw
           case measure=>simp[vI];have:=tE.out;omega
           case rel=>exact⟨i+1,qh (by have:=tE.out;omega),by omega,(lhd (q6p HR.out (by rw[ed.out.1,<-ed.out.2];simpa using oo.out))),(lhd lE.out)⟩
        ·have ML:¬(0:Int)<(i:Int):=by omega
         by_cases aD:i<d1
         ·have AZ:(i:Int)<d1:=by omega
          have MM:(i:Int)<mn:=by have:=lr.out;omega
          have eN:inR l i=0:=by rw[show i=0 by omega];rfl
          have HI:=lhd eN;clear eN;obtain⟨cN,r2,iN,ya,yn,yk,o2,rfl,b0,b1,b2,b3,oh,n4⟩:=qm1 (HH.a1.keep bQ) (by rw[<-HH.b5];exact HS.out.1) (k:=i) (by have:=HH.a3;have:=lr.out;omega);rw[<-HH.b5]at oh;have MO:o2<=400:=by rw[oh];exact q84 HS.out.1 i
          have E0:=jg n4 oh;have ws:IntKind.i64.wrap ((o2:Int))=(o2:Int):=IntWalk.i64_in _ (by omega);obtain⟨s0,dg⟩:=x4 o2;have cC:((inR l i+q34 l i:Nat):Int)=(o2:Int):=by rw[HI.out,<-oh,Nat.zero_add]
          have ed:=jg cC bN;clear cC bN dg n4 oh;go_wp2_with fail;refine E0.out.1.mono ?_;rintro e w8 ⟨rfl,fg⟩
          replace c1:=J fg c1
          replace e0:=J fg e0
          have mT:=lhd ((btr aR.out fg));clear b0 b1 b2 b3 fg c2;by_cases dM:((o2:Int) != dk)=true
          ·have oo:=lhd dM;go_wp2_with fail;go_ret;exact⟨by rw[qhp (k:=i) (by have:=HH.a2;omega) (by rw[ed.out.1,<-ed.out.2];simpa using oo.out)];rfl,H1.out.1.trans (((btr HS.out.2 mT.out)).mono H1.out.1.size)⟩
          ·have dM:((o2:Int) != dk)=false:=by simpa using dM
           have oo:=lhd dM;go_wp2_with fail;go_roundw
           case measure=>simp[vI];have:=tE.out;omega
           case rel=>exact⟨i+1,qh (by have:=tE.out;omega),by omega,(lhd (q6p HR.out (by rw[ed.out.1,<-ed.out.2];simpa using oo.out))),(lhd mT.out)⟩
         ·have AZ:¬(i:Int)<d1:=by omega
          have eN:inR l i=0:=by rw[show i=0 by omega];rfl
          have HI:=lhd eN;clear eN;have mU:q34 l i=0:=qc3 (by have:=HH.a4;have:=lr.out;omega);have cC:((inR l i+q34 l i:Nat):Int)=(0:Int):=by rw[HI.out,mU];simp
          have ed:=jg cC bN;clear cC bN mU;by_cases dM:((0:Int) != dk)=true
          ·have oo:=lhd dM;go_wp2_with fail;go_ret;exact⟨by rw[qhp (k:=i) (by have:=HH.a2;omega) (by rw[ed.out.1,<-ed.out.2];simpa using oo.out)];rfl,H1.out.1.trans (((btr HS.out.2 aR.out)).mono H1.out.1.size)⟩
          ·have dM:((0:Int) != dk)=false:=by simpa using dM
           have oo:=lhd dM;go_wp2_with fail;go_roundw
           case measure=>simp[vI];have:=tE.out;omega
           case rel=>exact⟨i+1,qh (by have:=tE.out;omega),by omega,(lhd (q6p HR.out (by rw[ed.out.1,<-ed.out.2];simpa using oo.out))),(lhd aR.out)⟩
       ·have hie:i=dn:=by omega
        have MI:¬(i:Int)<dn:=by omega
        obtain⟨w6,sw⟩:=x4 wr;subst sw;have QJ:=jg (show ∀j,j<dn->((inR l j+q34 l j:Nat):Int)=D.getD j 0 from by rw[<-hie];exact HR.out) ((btr HS.out.2 aR.out));clear hie HR aR hi hid;go_wp2_with fail;go_loopw [9,10,11,12] (fun x _ _ _ wr=>∃k:Nat,x=k/\k<=mn/\Hid (∀j,j<k->∀n∈(q35 l j).flatten,n=0)/\Hid (Below w1 w1 wr)) (fun x _ _ _ _=>mn-(vI x).toNat)
        case atStart=>exact⟨0,rfl,gm _,(lhd (fun j hj=>absurd hj (Nat.not_lt_zero j))),(lhd QJ.out.2)⟩
        case round =>
         obtain⟨k,rfl,hk,HP,HB⟩:=hrel;have bQ:Below w w wr:=(btr H1.out.1 HB.out);have lT:IntKind.i64.wrap ((k:Int)+1)=((k+1:Nat):Int):=IntWalk.i64_in _ (by have:=lr.out;omega);obtain⟨k1,cJ⟩:=x4 (k+1);rw[<-cJ]at lT;by_cases VZ:k1<d1
         ·have vN:(k1:Int)<d1:=by omega
          have te:k1<mn:=by have:=lr.out;omega
          have cd:k<mn:=by omega
          obtain⟨cN,r,c,xa,xn,xk,M,rfl,a0,a1,a2,a3,hX,oJ,kT,nZ,-,Fv,x,hx,kY,fs,sZ⟩:=qfv (HH.a1.keep bQ) (by rw[<-HH.b5];exact HS.out.1) (k:=k) (by rw[<-HH.a3];exact cd);obtain⟨AO,r2,iN,ya,yn,yk,M2,dU,b0,b1,b2,b3,hY,vO,vP,-,AP,-,y,hy,hyp,nz,Fw⟩:=qfv (HH.a1.keep bQ) (by rw[<-HH.b5];exact HS.out.1) (k:=k1) (by rw[<-HH.a3];exact te);obtain rfl:cN=AO:=by injection dU
          have tW:iN=r:=by rw[<-cJ]at Fv;omega
          subst tW;rw[<-HH.b5]at hx hy;obtain⟨vZ,MP⟩:=x4 wr;subst MP;have c2:=J HB.out H1.b3;have hp:=(yz.1 HS.out.1).2.2.1;have hMul:∀w',Below vZ vZ w'->Calls Tryz.prog 19 #[I #[P,r2,iN,O ya yn yk],I #[P,iN,c,O xa xn xk]] w' fun e w2=>∃z,e=.returned (ψ #[z,τ true])/\FmV w2 z P r2 c (mulM P c M2 M)/\Below w' w' w2/\∃q,bkT (ψ #[z,τ true])=Y q/\w'<=q/\q<w2:=fun w' hb=>by refine(qvl P r2 iN c _ _ M2 M w' (hY.keep hb) (hX.keep hb) hp vO oJ vP kT nZ).mono ?_;rintro e w2 ⟨E,rfl,h1,h2,h3,h4⟩;exact⟨_,rfl,qbh h3 (q4t (vm hp).1 vO) (by omega) (by omega),h4,E,rfl,h1,h2⟩
          have Fx:q35 l k=mulM P c M2 M:=by rw[qiz hx (by rw[<-cJ];exact hy),kY,fs,sZ,Fw]
          have vQ:=kg Fx hMul vO oJ cJ;have Mg:=q5h a0 a1 a2 a3 b0 b1 b2 b3;clear dU hX oJ hY vO Fv AP hx kY fs sZ hy hyp nz Fw a0 a1 a2 a3 b0 b1 b2 b3 hMul Fx hp bQ cJ;go_wp2_with fail;obtain⟨a0,a1,a2,a3,b0,b1,b2,b3⟩:=Mg.out;have hMul:=vQ.a1
          go_cut [10,11]from 127 to 141 (fun x y wx=>∃q:Nat,x=σ q/\y=τ true/\Hid (BxV wx q (P) (r2) (c) (mulM P c M2 M)/\vZ<=q/\Below vZ vZ wx))
          case first =>
           rename_i At K2 hJ aQ;refine vf rfl (fun b i v w'=>match b,i with
            |false,0=>v=σ (Y ⟨w,2,Z⟩)
            |false,1=>v=O (Y cN) mn mc
            |false,2=>v=(k:Int)
            |false,3=>v=(k1:Int)
            |false,4=>v=σ (Y (cN.add (k1*4)))
            |false,5=>v=I #[P,r2,iN,O ya yn yk]
            |false,6=>v=σ (Y ⟨w,2,Z⟩)
            |false,7=>v=O (Y cN) mn mc
            |false,8=>v=(k:Int)
            |false,9=>v=σ (Y (cN.add (k*4)))
            |false,10=>v=I #[P,iN,c,O xa xn xk]
            |false,11=>∃y,v=ψ #[y,τ true]/\FmV w' y (P) (r2) (c) (mulM P c M2 M)
            |false,12=>∃y,v=ψ #[y,τ true]/\FmV w' y (P) (r2) (c) (mulM P c M2 M)
            |false,13=>FmV w' v (P) (r2) (c) (mulM P c M2 M)
            |false,14=>v=τ true
            |false,15=>q6r v w'/\∃q,v=σ (Y ⟨q,0,Z⟩)/\vZ<=q
            |true,12=>∃y,v=ψ #[y,τ true]
            |true,14=>v=τ true
            |true,15=>∃q,v=σ (Y ⟨q,0,Z⟩)/\BxV w' q (P) (r2) (c) (mulM P c M2 M)/\vZ<=q
            |true,17=>v=τ true
            |_,_=>True) (fun i=>i == 11 || i == 15) bkT [(12,11),(13,12)] (gTk 13) (by kernel_rfl) 16 155 rfl (by kernel_rfl) (by kernel_rfl) (by decide) rfl ?keep ?step ?store ?done
           case keep =>
            intro b i v w1 w2 h hb
            match b,i,h with
            |false,0,h=>exact h
            |false,1,h=>exact h
            |false,2,h=>exact h
            |false,3,h=>exact h
            |false,4,h=>exact h
            |false,5,h=>exact h
            |false,6,h=>exact h
            |false,7,h=>exact h
            |false,8,h=>exact h
            |false,9,h=>exact h
            |false,10,h=>exact h
            |false,11,⟨y,h1,h2⟩=>exact⟨y,h1,h2.keep hb⟩
            |false,12,⟨y,h1,h2⟩=>exact⟨y,h1,h2.keep hb⟩
            |false,13,h=>exact h.keep hb
            |false,14,h=>exact h
            |false,15,⟨h1,h2⟩=>exact⟨h1.keep hb,h2⟩
            |false,i+16,h=>trivial
            |true,0,h=>trivial
            |true,1,h=>trivial
            |true,2,h=>trivial
            |true,3,h=>trivial
            |true,4,h=>trivial
            |true,5,h=>trivial
            |true,6,h=>trivial
            |true,7,h=>trivial
            |true,8,h=>trivial
            |true,9,h=>trivial
            |true,10,h=>trivial
            |true,11,h=>trivial
            |true,12,h=>exact h
            |true,13,h=>trivial
            |true,14,h=>exact h
            |true,15,⟨q,h1,h2,h3⟩=>exact⟨q,h1,h2.keep hb,h3⟩
            |true,16,h=>trivial
            |true,17,h=>exact h
            |true,i+18,h=>trivial
           case step =>
            intro i o ho aD ph b w' bU hbf hw hd ab hsz
            match i,ho,aD,bU,hbf,hd with
            |0,rfl,_,_,hbf,_ =>obtain rfl:=jb hbf;exact yb rfl (zr qu ab 1) (vw _ _ _ (by decide)) ⟨_,rfl,rfl,j7 q9 rfl rfl⟩
            |1,rfl,_,_,hbf,hd =>obtain rfl:=jb hbf;exact jm rfl (zf hd 0) (q4k _ _ _ _ _ (J hw c2)) ⟨_,rfl,rfl,j7 q9 rfl rfl⟩
            |2,rfl,_,_,hbf,_ =>obtain rfl:=jb hbf;exact jo (.inl rfl) ⟨_,rfl,(zr qu ab 9),j7 q9 rfl rfl⟩
            |3,rfl,_,_,hbf,hd =>obtain rfl:=jb hbf;exact q0n rfl (zf hd 2) rfl rfl (q1u lT _) ⟨_,rfl,rfl,j7 q9 rfl rfl⟩
            |4,rfl,_,_,hbf,hd =>obtain rfl:=jb hbf;exact q4r rfl (zf hd 1) (zf hd 3) (q4o _ _ _ _ _ te) ⟨_,rfl,rfl,j7 q9 rfl rfl⟩
            |5,rfl,_,_,hbf,hd =>obtain rfl:=jb hbf;exact jm rfl (zf hd 4) (qai (J hw b0) (J hw b1) (J hw b2) (J hw b3)) ⟨_,rfl,rfl,j7 q9 rfl rfl⟩
            |6,rfl,_,_,hbf,_ =>obtain rfl:=jb hbf;exact yb rfl (zr qu ab 1) (vw _ _ _ (by decide)) ⟨_,rfl,rfl,j7 q9 rfl rfl⟩
            |7,rfl,_,_,hbf,hd =>obtain rfl:=jb hbf;exact jm rfl (zf hd 6) (q4k _ _ _ _ _ (J hw c2)) ⟨_,rfl,rfl,j7 q9 rfl rfl⟩
            |8,rfl,_,_,hbf,_ =>obtain rfl:=jb hbf;exact jo (.inl rfl) ⟨_,rfl,(zr qu ab 9),j7 q9 rfl rfl⟩
            |9,rfl,_,_,hbf,hd =>obtain rfl:=jb hbf;exact q4r rfl (zf hd 7) (zf hd 8) (q4o _ _ _ _ _ cd) ⟨_,rfl,rfl,j7 q9 rfl rfl⟩
            |10,rfl,_,_,hbf,hd =>obtain rfl:=jb hbf;exact jm rfl (zf hd 9) (qai (J hw a0) (J hw a1) (J hw a2) (J hw a3)) ⟨_,rfl,rfl,j7 q9 rfl rfl⟩
            |11,rfl,_,_,hbf,hd =>
             obtain rfl:=jb hbf;have MQ:b 133 V=I #[P,r2,iN,O ya yn yk]:=(zf hd 5)
             have MR:b 138 V=I #[P,iN,c,O xa xn xk]:=(zf hd 10)
             exact q0e rfl #[I #[P,r2,iN,O ya yn yk],I #[P,iN,c,O xa xn xk]] (by rw[<-MQ,<-MR];simp[Act.eval]) ((hMul w' hw).mono fun e w2 ⟨y,h1,h2,h3,h4⟩=>⟨_,h1,_,rfl,⟨y,rfl,h2⟩,h3,fun _=>h4,fun c hc h=>absurd h ((by decide:∀c∈([(12,11),(13,12)] : List (Nat×Nat)),c.1≠11) c hc)⟩)
            |12,rfl,_,_,hbf,hd =>obtain rfl:=jb hbf;exact jo (.inl rfl) ⟨_,rfl,(zf hd 11),q9,fun h=>absurd h (by decide),fun c hc h=>by obtain rfl:c=(12,11):=(by decide:∀c∈([(12,11),(13,12)] : List (Nat×Nat)),c.1=12->c=(12,11)) c hc h;intro o' d' ik eT;obtain rfl:=osi ik;obtain rfl:=osi eT;rfl⟩
            |13,rfl,_,_,hbf,hd =>obtain rfl:=jb hbf;obtain⟨y,fM,fy⟩:∃y,b 127 V=ψ #[y,τ true]/\FmV w' y (P) (r2) (c) (mulM P c M2 M):=zf hd 12;exact q85 rfl fM rfl ⟨_,rfl,fy,q9,fun h=>absurd h (by decide),fun c hc h=>by obtain rfl:c=(13,12):=(by decide:∀c∈([(12,11),(13,12)] : List (Nat×Nat)),c.1=13->c=(13,12)) c hc h;intro o' d' ik eT;obtain rfl:=osi ik;obtain rfl:=osi eT;(show _=gTk 13 13 (b 127 V));rw[fM];rfl⟩
            |14,rfl,_,_,_,hd =>
             have fM:∃y,b 127 V=ψ #[y,τ true]:=by
              cases ph with
              |false=>obtain⟨y,h1,h2⟩:∃y,b 127 V=ψ #[y,τ true]/\FmV w' y (P) (r2) (c) (mulM P c M2 M):=zf hd 12;exact⟨y,h1⟩
              |true=>exact zf hd 12
             obtain⟨y,fM⟩:=fM;exact q85 rfl fM rfl ⟨_,rfl,(by cases ph <;> rfl),q9,(by simp),fun c hc h=>absurd h ((by decide:∀c∈([(12,11),(13,12)] : List (Nat×Nat)),c.1≠14) c hc)⟩
            |15,rfl,_,_,hbf,_ =>obtain rfl:=jb hbf;exact⟨rfl,gu _,vt _ rfl _ _ (q07 _) ⟨_,rfl,⟨q4h _,_,rfl,hw.size⟩,(q9).alloc (nlr _) _,(fun _=>⟨_,rfl,nlr _,by simp⟩),fun c hc h=>absurd h ((by decide:∀c∈([(12,11),(13,12)] : List (Nat×Nat)),c.1≠15) c hc)⟩⟩
            |16,ho,aD,bU,hbf,hd=>exact absurd rfl aD
            |17,rfl,_,bU,_,hd =>obtain rfl:=jb bU;have fL:b 141 V=τ true:=zf hd 14;exact jo (.inr rfl) ⟨_,rfl,fL,q9,(by simp),fun c hc h=>absurd h ((by decide:∀c∈([(12,11),(13,12)] : List (Nat×Nat)),c.1≠17) c hc)⟩
            |i+18,ho,aD,bU,hbf,hd =>have:i+18<18:=(gh.1 ho).1;omega
           case store =>
            intro o ho l b w' aP bW ag;obtain rfl:=osi ho;have fA:q6r (b 10 V) w'/\∃q,b 10 V=σ (Y ⟨q,0,Z⟩)/\vZ<=q:=by have h1:=ag.fact 15 _ _ rfl rfl (aP 15 (by kernel_rfl));rw[bW]at h1;exact h1
            have f0:FmV w' (b 140 V) (P) (r2) (c) (mulM P c M2 M):=by have h1:=ag.fact 13 _ _ rfl rfl (aP 13 (by kernel_rfl));rw[bW]at h1;exact h1
            have fM:∃y,b 127 V=ψ #[y,τ true]/\FmV w' y (P) (r2) (c) (mulM P c M2 M):=by have h1:=ag.fact 12 _ _ rfl rfl (aP 12 (by kernel_rfl));rw[bW]at h1;exact h1
            have fD:=ag.apart 11 _ 139 15 _ 10 rfl rfl rfl rfl (aP 11 (by kernel_rfl)) (aP 15 (by kernel_rfl)) rfl rfl (by decide);have fx:b 127 V=gTk 13 12 (b 139 V):=ag.copy (12,11) (by simp) (aP 12 (by kernel_rfl)) _ _ _ _ rfl rfl rfl rfl;have fO:b 140 V=gTk 13 13 (b 127 V):=ag.copy (13,12) (by simp) (aP 13 (by kernel_rfl)) _ _ _ _ rfl rfl rfl rfl;obtain⟨y,fM,_⟩:=fM;have eC:b 139 V=ψ #[y,τ true]:=fx.symm.trans fM;have e0:b 140 V=y:=by rw[fO,fM];rfl
            rw[e0]at f0;obtain⟨s,rfl,hs,hF⟩:=f0;obtain⟨so,sn,sc,rfl⟩:=qg hs;obtain⟨⟨q,eA,hq,q0,q1,q2,q3,hz⟩,q',iC,dA⟩:=fA;have iW:q'=q:=by rw[eA]at iC;injection iC with e;injection e with e;injection e with e;exact e.symm
            rw[iW]at dA;rw[eC,eA]at fD;have ah:∀ad n c,O so sn sc=O (Y ad) n c->ad.block≠q:=fun ad n c e h=>by
             injection e with e;subst e
             exact fD (by show Y ad.block=Y q;rw[h])
            have z0:=hz 0;have z1:=hz 1;have z2:=hz 2;have z3:=hz 3;obtain⟨t0,t1,t2,t3⟩:=q1f q0 q1 q2 q3;refine⟨rfl,ju _ _ _ rfl _ _ eA e0 (vx q0 q1 q2 q3 hz) ⟨rfl,?_,by simp,fun i oi di hi eI hl=>?_⟩⟩
            ·exact jj ag.below dA _ _ _ _
            ·have h1:=ag.fact i oi di hi eI hl;rw[bW]at h1
             match i,hi,hl,h1 with
             |12,hi,hl,⟨y,h1,_⟩=>exact⟨y,h1⟩
             |14,hi,hl,h1=>exact h1
             |15,hi,hl,h1 =>obtain rfl:=osi hi;obtain rfl:=osi eI;rw[eA];refine⟨q,rfl,⟨_,_,_,t0 _ _ _ _,t1 _ _ _ _,t2 _ _ _ _,t3 _ _ _ _,?_,hF⟩,dA⟩;exact y8 (y8 (y8 (y8 hs _ _ ah) _ _ ah) _ _ ah) _ _ ah
             |17,hi,hl,h1=>have h2:=ag.cl 17 hl 16 (by kernel_rfl);rw[bW]at h2;cases h2
             |0,hi,hl,h1=>trivial
             |1,hi,hl,h1=>trivial
             |2,hi,hl,h1=>trivial
             |3,hi,hl,h1=>trivial
             |4,hi,hl,h1=>trivial
             |5,hi,hl,h1=>trivial
             |6,hi,hl,h1=>trivial
             |7,hi,hl,h1=>trivial
             |8,hi,hl,h1=>trivial
             |9,hi,hl,h1=>trivial
             |10,hi,hl,h1=>trivial
             |11,hi,hl,h1=>trivial
             |13,hi,hl,h1=>trivial
             |16,hi,hl,h1=>trivial
             |i+18,hi,hl,h1=>trivial
           case done =>intro b w2 hsz aO hf ab hw;obtain⟨q,gA,gB,gq⟩:∃q,b 10 V=σ (Y ⟨q,0,Z⟩)/\BxV w2 q (P) (r2) (c) (mulM P c M2 M)/\vZ<=q:=hf 15 _ _ rfl rfl;have gL:b 11 V=τ true:=hf 17 _ _ rfl rfl;refine aQ _ _ (Met.intro (hJ _ _ ⟨b 10 V,b 11 V,b 127 V,b 128 V,b 129 V,b 130 V,b 131 V,b 132 V,b 133 V,b 134 V,b 135 V,b 136 V,b 137 V,b 138 V,b 139 V,b 140 V,b 141 V,⟨q,gA,gL,(lhd ⟨gB,gq,hw⟩)⟩,(q8z hsz aO ab).trans ?_⟩));kernel_rfl
          case rest =>
           obtain⟨q,rfl,rfl,H7⟩:=hcut;obtain⟨w7,Wa⟩:=x4 wc;subst Wa;clear a0 a1 a2 a3 b0 b1 b2 b3 hMul c2;obtain⟨za,zn,zk,g0,g1,g2,g3,hz,lH⟩:=H7.out.1;have xD:zn=(mulM P c M2 M).flatten.length:=by have:=hz.open.2.2.1;rw[xl]at this;omega
           have M9:zn<=160000:=by rw[xD,lH.q1d];exact gd (Nat.mul_le_mul vP nZ) (by decide)
           have HZ:=kg hz lH xD g3 ((btr HB.out H7.b2));clear hz lH xD g0 g1 g2 g3;go_wp2_with fail;go_loopw [12] (fun x wr=>∃j:Nat,x=j/\j<=zn/\Hid (∀i,i<j->(mulM P c M2 M).flatten.getD i 0=0)/\Hid (Below w7 w7 wr)) (fun x _=>zn-(vI x).toNat)
           case atStart=>exact⟨0,rfl,gm _,(lhd (fun j hj=>absurd hj (Nat.not_lt_zero j))),(lhd q9)⟩
           case round =>
            obtain⟨j,rfl,hj,HJ,Gp⟩:=hrel;have g3:=J Gp.out HZ.a3;have wX:IntKind.i64.wrap ((j:Int)+1)=((j+1:Nat):Int):=IntWalk.i64_in _ (by omega);obtain⟨j1,uu⟩:=x4 (j+1);rw[<-uu]at wX;have Ha:=lhd uu;clear uu;by_cases MS:j<zn
            ·have pk:(j:Int)<zn:=by omega
             obtain⟨XZ,rfl,f0⟩:=q6o (HZ.out.1.keep Gp.out) MS;obtain⟨nj,zI⟩:=x4 ((mulM P c M2 M).flatten.getD j 0);rw[<-zI]at f0;have QK:=lhd zI;clear zI;by_cases cY:(nj != 0)=true
             ·have sC:=lhd cY;go_wp2_with fail;go_ret;exact⟨by rw[qu2 (k:=k) (n:=nj) (by have:=HH.a4;omega) (by rw[vQ.out.1,QK.out,gb,gg (by rw[<-HZ.a2];exact MS)];exact List.getElem_mem _) (by simpa using sC.out)];rfl,H1.out.1.trans (((btr HZ.b4 Gp.out)).mono H1.out.1.size)⟩
             ·have cY:(nj != 0)=false:=by simpa using cY
              have sC:=lhd cY;go_wp2_with fail;go_roundw
              case measure=>simp[vI];have:=Ha.out;omega
              case rel=>exact⟨j+1,qh (by have:=Ha.out;omega),MS,(lhd (q6p HJ.out (by rw[<-QK.out];simpa using sC.out))),(lhd Gp.out)⟩
            ·have pk:¬(j:Int)<zn:=by omega
             have np:j=zn:=by omega
             have ao:∀n∈(q35 l k).flatten,n=0:=fun n hn=>by rw[vQ.out.1]at hn;obtain⟨i,hi,rfl⟩:=List.mem_iff_getElem.1 hn;have:=HJ.out i (by rw[np,HZ.a2];exact hi);rw[gb,gg hi]at this;exact this
             have Fz:=lhd ao;clear ao np;go_wp2_with fail;go_roundw
             case measure=>simp[vI];have:=vQ.b4;omega
             case rel=>exact⟨k+1,qh (by have:=vQ.b4;omega),cd,(lhd (q6p HP.out Fz.out)),(lhd ((btr HZ.b4 Gp.out)))⟩
         ·have vN:¬(k1:Int)<d1:=by omega
          have hex:exB P D l=true:=q6h.2 ⟨HS.out.1,fun i hi=>QJ.out.1 i (by have:=HH.a2;omega),fun i hi=>by
           rcases gG i k with h|h
           ·exact HP.out i h
           ·rw[qe6 (by have:=HH.a4;have:=lr.out;omega)];intro n hn;cases hn⟩
          have Wd:=lhd hex;clear hex cJ;go_wp2_with fail;go_ret;exact⟨by rw[Wd.out];rfl,(btr H1.out.1 HB.out)⟩
   ·have hp:prI P=false:=by simpa using hp
    have HX:=lhd (qhq (show kv P D l=false by
     cases hb:kv P D l with
     |false=>rfl
     |true=>have:=(yz.1 hb).2.2.1;rw[hp]at this;cases this))
    rw[hp];clear hp eD h2;go_wp2_with fail;go_ret;exact⟨by rw[HX.out];rfl,H1.out.1⟩
  ·have Md:((mn:Int) != (d1:Int))=true:=by simp;omega
   have Vf:¬(mn:Int)=(d1:Int):=by omega
   have HX:=lhd (qhq (show kv P D l=false by
    cases hb:kv P D l with
    |false=>rfl
    |true=>have:=(yz.1 hb).2.1;have:=HH.a2;have:=HH.a4;omega))
   clear eD h2;go_wp2_with fail;go_ret;exact⟨by rw[HX.out];rfl,H1.out.1⟩
