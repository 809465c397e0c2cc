/- Steps towards SequenceChecks. Conditions: none. -/
import Derived.Test.YtmkpbhaoalbhjaaGreatDoorXRv
set_option maxRecDepth 1000000
set_option maxHeartbeats 0
open Go.Value renaming slice→O,agg→I,pointer→σ,bool→τ,int→H,tuple→ψ
open Option renaming none→Z,some→Y
open Go renaming undef→V,World→δ,Value→ε
open Go.IntKind renaming i64→φ
open Go.Cx renaming keep→J
namespace Go.Proofs.YtmkpbhaoalbhjaaGreatDoor
open Go.RowKit Go.Cx
attribute [local go_sem ↓] Go.wp_at_zero Go.wp_at_succ
theorem q7z (x y:Operand)(a b:Int)(w:δ):(eqGuard .neq 3 x y a b).run Tryz.prog w=.ok () w:=by simp[go_sem,eqGuard]
theorem qfu {a b:Int}{c:Bool}(h:(a != b)=c)(w:δ):(Go.binOp .neq 3 a b).run Tryz.prog w=.ok (τ c) w:=by subst h;simp[go_sem]
theorem vw (w:δ)(q i:Nat)(hi:i<3):(Instr.fieldAt 27 (σ q) i).run Tryz.prog w=.ok (σ (Y ⟨q,i,Z⟩)) w:=by rcases (by omega:i=0\/i=1\/i=2)with rfl|rfl|rfl <;> simp[go_sem]
theorem q4k (w:δ)(p:Addr)(a:Option Addr)(n c:Nat)(h:w p=O a n c):(Instr.loadAt 25 (σ (Y p))).run Tryz.prog w=.ok (O a n c) w:=by simp[go_sem,h]
theorem q6o {w:δ}{a:Option Addr}{n c:Nat}{D:List Int}(h:Sl w 1 (O a n c) (ints D)){k:Nat}(hk:k<n):∃ad,a=Y ad/\w (ad.add k)=(D.getD k 0:Int):=by obtain⟨ad,x,h1,h2,h3⟩:=q00 h hk;refine⟨ad,h1,?_⟩;rw[gb,h2];exact h3
theorem qqe {P:Int}{D:List Int}{L:List Fc}{k:Nat}{y:Fc}(hy:L[k]? =Y y):q8q P D (L.map Fc.q) k=!((((!okM y.p y.r y.c y.E) || (y.p != P)) || (y.c != D.getD k 0)) || (y.r != D.getD (k+1) 0)):=by unfold q8q;rw[List.getElem?_map,hy];show (okM y.p y.r y.c y.E && (y.p == P && (y.c == D.getD k 0 && y.r == D.getD (k+1) 0)))=_;simp only [bne,Bool.not_or,Bool.not_not,Bool.and_assoc]
theorem qqf {w:δ}{v:ε}{P:Int}{D:List Int}{L:List Fc}(h:SqV w v P D L) :
  Calls Tryz.prog 14 #[v] w fun e w'=>e=.returned (τ (kv P D (L.map Fc.q)))/\Below w w w':=by
 obtain⟨sd,sm,rfl,hD,hM⟩:=h;obtain⟨da,dn,dc,rfl⟩:=qg hD;obtain⟨ma,mn,mc,rfl⟩:=qg hM.1;have kD:dn=D.length:=by have:=hD.open.2.2.1;rw[xl]at this;omega
 have pP:mn=L.length:=q7y hM.1;have Qp:dn<=9223372036854775807:=by have h1:=hD.open.1;have h2:=hD.open.2.1;unfold maxLen at h2;omega
 have dU:mn<=9223372036854775807:=by have h1:=hM.1.open.1;have h2:=hM.1.open.2.1;unfold maxLen at h2;omega
 by_cases h1:dn<1
 ·rw[show kv P D (L.map Fc.q)=false by
   cases hb:kv P D (L.map Fc.q)with
   |false=>rfl
   |true=>have:=(yz.1 hb).1;omega]
  have Mc:(dn:Int)<1:=by omega
  have hw:∀o,Below w w (w.alloc o):=fun o=>(q9).alloc (nlr _) _
  clear hD hM kD pP;go_enter Tryz.func14,Tryz.ntmps14;go_wp2_with fail;go_ret;exact⟨rfl,hw _⟩
 ·obtain⟨d1,eD⟩:∃d1:Nat,dn=d1+1:=⟨dn-1,by omega⟩
  have Mc:¬(dn:Int)<1:=by omega
  have fC:IntKind.i64.wrap ((dn:Int)-1)=(d1:Int):=by rw[IntWalk.i64_in _ (by omega)];omega
  have hw:∀o,Below w w (w.alloc o):=fun o=>(q9).alloc (nlr _) _
  by_cases h2:mn=d1
  ·have Md:((mn:Int) != (d1:Int))=false:=by rw[h2];simp
   have HH:=kp hD hM kD pP eD h2;clear hD hM kD pP eD h2;go_enter Tryz.func14,Tryz.ntmps14;go_wp2_with fail;refine(qax P _).mono ?_;rintro e w1 ⟨rfl,ae⟩;by_cases hp:prI P=true
   ·rw[hp];obtain⟨W,hW⟩:=x4 (w.alloc (.cells #[P,O da dn dc,O ma mn mc] 27));rw[<-hW]at ae;have tQ:Below w w W:=by rw[hW];exact hw _
    have Fp:Below w w w1:=(btr tQ ae);have c0:w1 w=P:=J ae (by rw[hW];exact xz w _ _ 0 rfl);have c1:w1 ⟨w,1,Z⟩=O da dn dc:=J ae (by rw[hW];exact xz w _ _ 1 rfl);have c2:w1 ⟨w,2,Z⟩=O ma mn mc:=J ae (by rw[hW];exact xz w _ _ 2 rfl);have H1:=yt Fp hp c0 c1;clear hW tQ Fp ae hp c0 c1 hw;go_wp2_with fail;go_loopw [3,4,28] (fun _ _ x wr=>∃k:Nat,x=k/\k<=mn/\Hid (∀i,i<k->q8q P D (L.map Fc.q) i=true)/\Hid (Below w1 w1 wr)) (fun _ _ x _=>mn-(vI x).toNat)
    case atStart=>exact⟨0,rfl,gm _,(lhd (fun i hi=>absurd hi (Nat.not_lt_zero i))),(lhd q9)⟩
    case round =>
     obtain⟨k,rfl,hk,HF,HB⟩:=hrel;by_cases cd:k<mn
     ·have cV:(k:Int)<mn:=by omega
      have bQ:Below w w wr:=(btr H1.out.1 HB.out);obtain⟨cN,y,rfl,hy,d0,d1,d2,d3⟩:=qhl (HH.a1.1.keep bQ) (k:=k) (by rw[<-HH.a3];exact cd);have sW:Sl wr 1 (O y.a y.n y.k) (ints y.E):=(HH.a1.2 y (gi hy)).keep bQ;obtain⟨iS,rfl,e0⟩:=q6o (HH.out.1.keep bQ) (k:=k) (by have:=HH.b5;have:=HH.a4;omega);obtain⟨sX,tH,e1⟩:=q6o (HH.out.1.keep bQ) (k:=k+1) (by have:=HH.b5;have:=HH.a4;omega);obtain rfl:iS=sX:=by injection tH
      have lT:IntKind.i64.wrap ((k:Int)+1)=((k+1:Nat):Int):=IntWalk.i64_in _ (by omega);have nt:k<dn:=by have:=HH.b5;have:=HH.a4;omega
      have sY:k+1<dn:=by have:=HH.b5;have:=HH.a4;omega
      obtain⟨k1,cJ⟩:=x4 (k+1);rw[<-cJ]at lT e1 sY;obtain⟨dk,bN⟩:=x4 (D.getD k 0);obtain⟨Fs,og⟩:=x4 (D.getD k1 0);rw[<-bN]at e0;rw[<-og]at e1;obtain⟨yp,hyp⟩:=x4 y.p;obtain⟨yr,kX⟩:=x4 y.r;obtain⟨yc,nz⟩:=x4 y.c;obtain⟨ya,sK⟩:=x4 y.a;obtain⟨yn,jZ⟩:=x4 y.n;obtain⟨yk,iz⟩:=x4 y.k;rw[<-hyp]at d0;rw[<-kX]at d1;rw[<-nz]at d2;rw[<-sK,<-jZ,<-iz]at d3 sW;obtain⟨q1,fN⟩:=x4 (okM yp yr yc y.E);obtain⟨b2,aj⟩:∃z,(yp != P)=z:=⟨_,rfl⟩
      obtain⟨b3,aw⟩:∃z,(yc != dk)=z:=⟨_,rfl⟩
      obtain⟨b4,aN⟩:∃z,(yr != Fs)=z:=⟨_,rfl⟩
      have c0:wr w=P:=J HB.out H1.a2;have c1:wr ⟨w,1,Z⟩=O (Y iS) dn dc:=J HB.out H1.b3;obtain⟨s4,lp⟩:=x4 wr.heap.size;obtain⟨W4,jN⟩:=x4 (wr.alloc (.cells #[yp,yr,yc,O ya yn yk] 30));have aA:Below wr wr W4:=by rw[jN];exact(q9).alloc (nlr _) _
      have t0:W4 s4=yp:=by rw[jN,lp];exact xz wr _ _ 0 rfl
      have t1:W4 ⟨s4,1,Z⟩=yr:=by rw[jN,lp];exact xz wr _ _ 1 rfl
      have t2:W4 ⟨s4,2,Z⟩=yc:=by rw[jN,lp];exact xz wr _ _ 2 rfl
      have t3:W4 ⟨s4,3,Z⟩=O ya yn yk:=by rw[jN,lp];exact xz wr _ _ 3 rfl
      replace c0:=J aA c0
      replace c1:=J aA c1
      replace e0:=J aA e0
      replace e1:=J aA e1
      have hR:∀w',Below W4 W4 w'->Calls Tryz.prog 35 #[I #[yp,yr,yc,O ya yn yk]] w' fun e w2=>e=.returned (τ q1)/\Below w' w' w2:=fun w' hb=>by rw[fN];exact q8x yp yr yc _ y.E w' ((sW.keep aA).keep hb)
      have HX:=q5h hy aA hyp kX nz fN bN og;have HN:=kp aj aw aN cJ jN lp;have HT:=yt t0 t1 t2 t3;have HE:=yt c0 c1 e0 e1;have Vd:=lhd hR;clear bQ sW tH aA fN bN og hyp kX nz sK jZ iz hy t0 t1 t2 t3 c0 c1 e0 e1 hR cJ;clear jN lp aj aw aN;go_wp2_with fail;rw[<-HN.a4,<-HN.b5];obtain⟨c0,c1,e0,e1⟩:=HE.out;obtain⟨t0,t1,t2,t3⟩:=HT.out;have hR:=Vd.out;obtain⟨aj,aw,aN,_⟩:=HN.out
      go_cut [63]from 33 to 62 (fun x wx=>x=τ (((!q1 || b2) || b3) || b4)/\Hid (Below W4 W4 wx))
      case first =>
       rename_i At K2 hJ aQ;refine q8t rfl (fun i v w'=>match i with
        |0=>v=I #[yp,yr,yc,O ya yn yk]
        |1=>v=τ q1
        |2=>v=τ (!q1)
        |3=>v=τ (!q1)
        |4=>(!q1)=false->v=σ s4
        |5=>(!q1)=false->v=yp
        |6=>(!q1)=false->v=σ w
        |7=>(!q1)=false->v=P
        |8=>(!q1)=false->v=τ b2
        |9=>v=τ ((!q1) || b2)
        |10=>v=τ ((!q1) || b2)
        |11=>((!q1) || b2)=false->v=σ (Y ⟨s4,2,Z⟩)
        |12=>((!q1) || b2)=false->v=yc
        |13=>((!q1) || b2)=false->v=σ (Y ⟨w,1,Z⟩)
        |14=>((!q1) || b2)=false->v=O (Y iS) dn dc
        |15=>((!q1) || b2)=false->v=(k:Int)
        |16=>((!q1) || b2)=false->v=σ (Y (iS.add k))
        |17=>((!q1) || b2)=false->v=dk
        |18=>((!q1) || b2)=false->v=τ b3
        |19=>v=τ (((!q1) || b2) || b3)
        |20=>v=τ (((!q1) || b2) || b3)
        |21=>(((!q1) || b2) || b3)=false->v=σ (Y ⟨s4,1,Z⟩)
        |22=>(((!q1) || b2) || b3)=false->v=yr
        |23=>(((!q1) || b2) || b3)=false->v=σ (Y ⟨w,1,Z⟩)
        |24=>(((!q1) || b2) || b3)=false->v=O (Y iS) dn dc
        |25=>(((!q1) || b2) || b3)=false->v=(k:Int)
        |26=>(((!q1) || b2) || b3)=false->v=(k1:Int)
        |27=>(((!q1) || b2) || b3)=false->v=σ (Y (iS.add k1))
        |28=>(((!q1) || b2) || b3)=false->v=Fs
        |29=>(((!q1) || b2) || b3)=false->v=τ b4
        |30=>v=τ ((((!q1) || b2) || b3) || b4)
        |_=>True) 65 rfl (by kernel_rfl) (by kernel_rfl) ?keep ?step ?done
       case keep =>
        intro i v w1 w2 h hb
        match i,h with
        |0,h=>exact h
        |1,h=>exact h
        |2,h=>exact h
        |3,h=>exact h
        |4,h=>exact h
        |5,h=>exact h
        |6,h=>exact h
        |7,h=>exact h
        |8,h=>exact h
        |9,h=>exact h
        |10,h=>exact h
        |11,h=>exact h
        |12,h=>exact h
        |13,h=>exact h
        |14,h=>exact h
        |15,h=>exact h
        |16,h=>exact h
        |17,h=>exact h
        |18,h=>exact h
        |19,h=>exact h
        |20,h=>exact h
        |21,h=>exact h
        |22,h=>exact h
        |23,h=>exact h
        |24,h=>exact h
        |25,h=>exact h
        |26,h=>exact h
        |27,h=>exact h
        |28,h=>exact h
        |29,h=>exact h
        |30,h=>exact h
        |i+31,h=>trivial
       case step =>
        intro i o ho b w' hw hd ab hsz
        match i,ho,hd with
        |0,rfl,_ =>exact .inl ⟨rfl,q8o _ _ rfl _ (zr qu ab 4) _ (qah (J hw t0) (J hw t1) (J hw t2) (J hw t3)) ⟨_,rfl,rfl,q9⟩⟩
        |1,rfl,hd =>
         have Ve:b 33 V=I #[yp,yr,yc,O ya yn yk]:=(zf hd 0)
         exact .inl ⟨rfl,qdj _ _ _ rfl (fun _ _=>rfl) #[I #[yp,yr,yc,O ya yn yk]] (by rw[<-Ve];simp[Act.eval]) ((hR w' hw).mono fun e w2 h=>⟨_,h.1,_,rfl,rfl,h.2⟩)⟩
        |2,rfl,hd =>exact .inl ⟨rfl,q3g _ _ _ rfl _ (zf hd 1) _ (by simp[go_sem]) ⟨_,rfl,rfl,q9⟩⟩
        |3,rfl,hd =>exact .inl ⟨rfl,q1b _ (.inl rfl) ⟨_,rfl,(zf hd 2),q9⟩⟩
        |4,rfl,hd =>exact gaw (!q1) 3 36 (zf hd 3) fun hb=>q8b _ _ _ rfl _ (zr qu ab 4) _ (jv _ _ _ (by decide)) ⟨_,rfl,fun _=>rfl,q9⟩
        |5,rfl,hd =>exact gaw (!q1) 3 36 (zf hd 3) fun hb=>q8o _ _ rfl _ ((zf hd 4) hb) _ (qe0 _ _ _ (J hw t0)) ⟨_,rfl,fun _=>rfl,q9⟩
        |6,rfl,hd =>exact gaw (!q1) 3 36 (zf hd 3) fun hb=>q8b _ _ _ rfl _ (zr qu ab 1) _ (vw _ _ _ (by decide)) ⟨_,rfl,fun _=>rfl,q9⟩
        |7,rfl,hd =>exact gaw (!q1) 3 36 (zf hd 3) fun hb=>q8o _ _ rfl _ ((zf hd 6) hb) _ (qe0 _ _ _ (J hw c0)) ⟨_,rfl,fun _=>rfl,q9⟩
        |8,rfl,hd =>exact gaw (!q1) 3 36 (zf hd 3) fun hb=>qnf _ _ _ _ _ rfl _ _ ((zf hd 5) hb) ((zf hd 7) hb) _ (q7z _ _ _ _ w') (qfu aj _) ⟨_,rfl,fun _=>rfl,q9⟩
        |9,rfl,hd =>
         have fc:b 36 V=τ (!q1):=(zf hd 3)
         cases hb:(!q1)with
         |true=>rw[hb]at fc;exact .inl ⟨rfl,qka _ _ _ rfl fc ⟨_,rfl,rfl,q9⟩⟩
         |false=>rw[hb]at fc;exact .inl ⟨rfl,q29 _ _ _ rfl fc ⟨_,rfl,((zf hd 8) hb),q9⟩⟩
        |10,rfl,hd =>exact .inl ⟨rfl,q1b _ (.inl rfl) ⟨_,rfl,(zf hd 9),q9⟩⟩
        |11,rfl,hd =>exact gaw ((!q1) || b2) 10 43 (zf hd 10) fun hb=>q8b _ _ _ rfl _ (zr qu ab 4) _ (jv _ _ _ (by decide)) ⟨_,rfl,fun _=>rfl,q9⟩
        |12,rfl,hd =>exact gaw ((!q1) || b2) 10 43 (zf hd 10) fun hb=>q8o _ _ rfl _ ((zf hd 11) hb) _ (qe0 _ _ _ (J hw t2)) ⟨_,rfl,fun _=>rfl,q9⟩
        |13,rfl,hd =>exact gaw ((!q1) || b2) 10 43 (zf hd 10) fun hb=>q8b _ _ _ rfl _ (zr qu ab 1) _ (vw _ _ _ (by decide)) ⟨_,rfl,fun _=>rfl,q9⟩
        |14,rfl,hd =>exact gaw ((!q1) || b2) 10 43 (zf hd 10) fun hb=>q8o _ _ rfl _ ((zf hd 13) hb) _ (yy _ _ _ _ _ (J hw c1)) ⟨_,rfl,fun _=>rfl,q9⟩
        |15,rfl,hd =>exact gaw ((!q1) || b2) 10 43 (zf hd 10) fun hb=>q1b _ (.inl rfl) ⟨_,rfl,fun _=>(zr qu ab 3),q9⟩
        |16,rfl,hd =>exact gaw ((!q1) || b2) 10 43 (zf hd 10) fun hb=>qc9 _ _ _ rfl _ _ ((zf hd 14) hb) ((zf hd 15) hb) _ (q0w _ _ _ _ _ nt) ⟨_,rfl,fun _=>rfl,q9⟩
        |17,rfl,hd =>exact gaw ((!q1) || b2) 10 43 (zf hd 10) fun hb=>q8o _ _ rfl _ ((zf hd 16) hb) _ (qe0 _ _ _ (J hw e0)) ⟨_,rfl,fun _=>rfl,q9⟩
        |18,rfl,hd =>exact gaw ((!q1) || b2) 10 43 (zf hd 10) fun hb=>qnf _ _ _ _ _ rfl _ _ ((zf hd 12) hb) ((zf hd 17) hb) _ (q7z _ _ _ _ w') (qfu aw _) ⟨_,rfl,fun _=>rfl,q9⟩
        |19,rfl,hd =>
         have fc:b 43 V=τ ((!q1) || b2):=(zf hd 10)
         cases hb:((!q1) || b2)with
         |true=>rw[hb]at fc;exact .inl ⟨rfl,qka _ _ _ rfl fc ⟨_,rfl,rfl,q9⟩⟩
         |false=>rw[hb]at fc;exact .inl ⟨rfl,q29 _ _ _ rfl fc ⟨_,rfl,((zf hd 18) hb),q9⟩⟩
        |20,rfl,hd =>exact .inl ⟨rfl,q1b _ (.inl rfl) ⟨_,rfl,(zf hd 19),q9⟩⟩
        |21,rfl,hd =>exact gaw (((!q1) || b2) || b3) 20 53 (zf hd 20) fun hb=>q8b _ _ _ rfl _ (zr qu ab 4) _ (jv _ _ _ (by decide)) ⟨_,rfl,fun _=>rfl,q9⟩
        |22,rfl,hd =>exact gaw (((!q1) || b2) || b3) 20 53 (zf hd 20) fun hb=>q8o _ _ rfl _ ((zf hd 21) hb) _ (qe0 _ _ _ (J hw t1)) ⟨_,rfl,fun _=>rfl,q9⟩
        |23,rfl,hd =>exact gaw (((!q1) || b2) || b3) 20 53 (zf hd 20) fun hb=>q8b _ _ _ rfl _ (zr qu ab 1) _ (vw _ _ _ (by decide)) ⟨_,rfl,fun _=>rfl,q9⟩
        |24,rfl,hd =>exact gaw (((!q1) || b2) || b3) 20 53 (zf hd 20) fun hb=>q8o _ _ rfl _ ((zf hd 23) hb) _ (yy _ _ _ _ _ (J hw c1)) ⟨_,rfl,fun _=>rfl,q9⟩
        |25,rfl,hd =>exact gaw (((!q1) || b2) || b3) 20 53 (zf hd 20) fun hb=>q1b _ (.inl rfl) ⟨_,rfl,fun _=>(zr qu ab 3),q9⟩
        |26,rfl,hd =>exact gaw (((!q1) || b2) || b3) 20 53 (zf hd 20) fun hb=>qnf _ _ _ _ _ rfl _ _ ((zf hd 25) hb) rfl _ rfl (q1u lT _) ⟨_,rfl,fun _=>rfl,q9⟩
        |27,rfl,hd =>exact gaw (((!q1) || b2) || b3) 20 53 (zf hd 20) fun hb=>qc9 _ _ _ rfl _ _ ((zf hd 24) hb) ((zf hd 26) hb) _ (q0w _ _ _ _ _ sY) ⟨_,rfl,fun _=>rfl,q9⟩
        |28,rfl,hd =>exact gaw (((!q1) || b2) || b3) 20 53 (zf hd 20) fun hb=>q8o _ _ rfl _ ((zf hd 27) hb) _ (qe0 _ _ _ (J hw e1)) ⟨_,rfl,fun _=>rfl,q9⟩
        |29,rfl,hd =>exact gaw (((!q1) || b2) || b3) 20 53 (zf hd 20) fun hb=>qnf _ _ _ _ _ rfl _ _ ((zf hd 22) hb) ((zf hd 28) hb) _ (q7z _ _ _ _ w') (qfu aN _) ⟨_,rfl,fun _=>rfl,q9⟩
        |30,rfl,hd =>
         have fc:b 53 V=τ (((!q1) || b2) || b3):=(zf hd 20)
         cases hb:(((!q1) || b2) || b3)with
         |true=>rw[hb]at fc;exact .inl ⟨rfl,qka _ _ _ rfl fc ⟨_,rfl,rfl,q9⟩⟩
         |false=>rw[hb]at fc;exact .inl ⟨rfl,q29 _ _ _ rfl fc ⟨_,rfl,((zf hd 29) hb),q9⟩⟩
        |i+31,ho,hd =>have:i+31<31:=(gh.1 ho).1;omega
       case done =>intro b w2 hsz aO hf ab hw;have Lq:b 63 V=τ (((!q1 || b2) || b3) || b4):=hf 30 _ _ rfl rfl;refine aQ _ _ (Met.intro (hJ _ _ ⟨b 33 V,b 34 V,b 35 V,b 36 V,b 37 V,b 38 V,b 39 V,b 40 V,b 41 V,b 42 V,b 43 V,b 44 V,b 45 V,b 46 V,b 47 V,b 48 V,b 49 V,b 50 V,b 51 V,b 52 V,b 53 V,b 54 V,b 55 V,b 56 V,b 57 V,b 58 V,b 59 V,b 60 V,b 61 V,b 62 V,b 63 V,⟨Lq,(lhd hw)⟩,(q8z hsz aO ab).trans ?_⟩));kernel_rfl
      case rest =>
       obtain⟨hx,jF⟩:=hcut;have ib:q8q P D (L.map Fc.q) k=!(((!q1 || b2) || b3) || b4):=by rw[qqe HX.out.1,<-HN.out.1,<-HN.a1,<-HN.a2,HX.a5,HX.a6,HX.b7,HN.a3,HX.a2,HX.a3,HX.a4]
       have Me:=lhd ib;clear ib t0 t1 t2 t3 c0 c1 e0 e1 hR aj aw aN;obtain⟨B,hB⟩:=x4 (((!q1 || b2) || b3) || b4);rw[<-hB]at hx Me;clear hB;subst hx;cases B with
       |true =>
        go_wp2_with fail;go_ret;refine⟨?_,?_⟩
        ·rw[show kv P D (L.map Fc.q)=false by
          cases hb:kv P D (L.map Fc.q)with
          |false=>rfl
          |true =>have h1:=(yz.1 hb).2.2.2 k (by rw[gp];exact(gk.1 HX.out.1).1);rw[Me.out]at h1;cases h1]
         rfl
        ·have h5:=HB.out.trans (((btr HX.a1 jF.out)).mono HB.out.size);exact (btr H1.out.1 h5)
       |false =>
        go_wp2_with fail;go_roundw
        case measure=>simp[vI];omega
        case rel =>
         refine⟨k+1,qh (by have:=HN.a3;omega),by omega,(lhd (fun i hi=>?_)),(lhd (HB.out.trans (((btr HX.a1 jF.out)).mono HB.out.size)))⟩;rcases gG i k with h|h
         ·exact HF.out i h
         ·obtain rfl:i=k:=by omega
          exact Me.out
     ·have aM:k=mn:=by omega
      have HK:=lhd aM;clear aM;go_wp2_with fail;go_ret;refine⟨?_,(btr H1.out.1 HB.out)⟩;rw[show kv P D (L.map Fc.q)=true from yz.2 ⟨by have:=HH.a2;have:=HH.a4;omega,by have:=HH.a2;have:=HH.a3;have:=HH.b4;rw[gp];omega,H1.a1,fun i hi=>HF.out i (by rw[gp]at hi;have:=HH.a3;have:=HK.out;omega)⟩];rfl
   ·have hp:prI P=false:=by simpa using hp
    have fk:kv P D (L.map Fc.q)=false:=by
     cases hb:kv P D (L.map Fc.q)with
     |false=>rfl
     |true=>have:=(yz.1 hb).2.2.1;rw[hp]at this;cases this
    rw[hp];have hB:Below w w w1:=(hw _).trans (ae.mono (by simp));have HB:=jg hB fk;clear ae hB hw fk;go_wp2_with fail;go_ret;exact⟨by rw[HB.out.2];rfl,HB.out.1⟩
  ·rw[show kv P D (L.map Fc.q)=false by
    cases hb:kv P D (L.map Fc.q)with
    |false=>rfl
    |true=>have:=(yz.1 hb).2.1;rw[gp]at this;omega]
   have Md:((mn:Int) != (d1:Int))=true:=by simp;omega
   have Vf:¬(mn:Int)=(d1:Int):=by omega
   clear hD hM kD pP eD;go_enter Tryz.func14,Tryz.ntmps14;go_wp2_with fail;go_ret;exact⟨rfl,hw _⟩
end Go.Proofs.YtmkpbhaoalbhjaaGreatDoor
namespace Go.Cx
open Go.RowKit Go.Proofs.YtmkpbhaoalbhjaaGreatDoor
theorem qfv {w:δ}{P:Int}{D:List Int}{L:List Fc}{ma:Option Addr}{mn mc:Nat}(hM:SlF w (O ma mn mc) L)(hS:kv P D (L.map Fc.q)=true){k:Nat}(hk:k<L.length) :
  ∃(cN:Addr) (r c:Nat) (a:Option Addr) (n kk:Nat) (M:List (List Int)),ma=Y cN/\w (cN.add (k*4))=P/\w ⟨(cN.add (k*4)).block,(cN.add (k*4)).off+1,Z⟩=r/\w ⟨(cN.add (k*4)).block,(cN.add (k*4)).off+2,Z⟩=c ∧
   w ⟨(cN.add (k*4)).block,(cN.add (k*4)).off+3,Z⟩=O a n kk/\Sl w 1 (O a n kk) (ints M.flatten)/\FM P r c M/\r<=400/\c<=400/\(c:Int)=D.getD k 0/\(r:Int)=D.getD (k+1) 0/\∃x:Fq,(L.map Fc.q)[k]? =Y x/\x.p=P/\x.c.toNat=c/\x.M=M:=by
 obtain⟨cN,y,rfl,hy,d0,d1,d2,d3⟩:=qhl hM.1 hk;have hq:(L.map Fc.q)[k]? =Y y.q:=by rw[List.getElem?_map,hy];rfl
 obtain⟨a1,a2,a3,a4⟩:=(qcx hq).1 ((yz.1 hS).2.2.2 k (by rw[gp];exact hk));obtain⟨h1,h2,h3,h4,h5,h6,h7⟩:=Fq.right a1;refine⟨cN,y.q.r.toNat,y.q.c.toNat,y.a,y.n,y.k,y.q.M,rfl,?_,?_,?_,d3,?_,a2 ▸ h6,h3,h4,h2 ▸ a3,h1 ▸ a4,y.q,hq,a2,rfl,rfl⟩
 ·rw[<-a2];exact d0
 ·rw[<-h1];exact d1
 ·rw[<-h2];exact d2
 ·rw[h7];exact hM.2 y (gi hy)
theorem qc2 {l:List Fq}{k:Nat}{x:Fq}(h:l[k]? =Y x):q34 l k=q2r x.p x.c.toNat x.M:=by unfold q34;rw[h];rfl
theorem qc3 {l:List Fq}{k:Nat}(h:l.length<=k):q34 l k=0:=by unfold q34;rw[List.getElem?_eq_none h]
theorem q84 {P:Int}{D:List Int}{l:List Fq}(hS:kv P D l=true)(k:Nat):q34 l k<=400:=by
 rcases gG k l.length with h|h
 ·have hx:=gg h;obtain⟨a1,_⟩:=(qcx hx).1 ((yz.1 hS).2.2.2 k h);obtain⟨_,_,h3,_,h5,h6,_⟩:=Fq.right a1;rw[qc2 hx];exact gd (q0s (vm h5).1 h6).2.1 h3
 ·rw[qc3 h];omega
theorem qtz {P:Int}{D:List Int}{l:List Fq}(hS:kv P D l=true)(k:Nat):inR l k<=400:=by
 cases k with
 |zero=>exact gm _
 |succ k=>exact q84 hS k
theorem qiz {l:List Fq}{k:Nat}{x y:Fq}(hx:l[k]? =Y x)(hy:l[k+1]? =Y y):q35 l k=mulM x.p x.c.toNat y.M x.M:=by unfold q35;rw[hx,hy]
theorem qe6 {l:List Fq}{k:Nat}(h:l.length<=k+1):q35 l k=[]:=by unfold q35;rw[List.getElem?_eq_none h]
end Go.Cx
namespace Go.Proofs.YtmkpbhaoalbhjaaGreatDoor
open Go.RowKit Go.Cx
attribute [local go_sem ↓] Go.wp_at_zero Go.wp_at_succ
theorem q4o (w:δ)(ad:Addr)(n c i:Nat)(hi:i<n):(Instr.indexAt 25 (O (Y ad) n c) i).run Tryz.prog w=.ok (σ (Y (ad.add (i*4)))) w:=by
 have h1:(0:Int)<=i:=by omega
 have h2:(i:Int)<n:=by omega
 simp[go_sem,h1,h2]
theorem qai {w:δ}{p:Addr}{n k:Nat}{q r c:Int}{so:Option Addr}(q0:w p=q)(q1:w ⟨p.block,p.off+1,Z⟩=r)(q2:w ⟨p.block,p.off+2,Z⟩=c)(q3:w ⟨p.block,p.off+3,Z⟩=O so n k) :
  (Instr.loadAt 30 (σ (Y p))).run Tryz.prog w=.ok (I #[q,r,c,O so n k]) w:=by
 simp[go_sem,q0,q1,q2,q3]
theorem qk4 {l:List Fq}{D:List Int}{k k1 dn o0:Nat}{w1 w5:δ}(cJ:k1=k+1)(jR:q34 l k=o0)(hk:k<dn)(hR:∀i,i<k->((inR l i+q34 l i:Nat):Int)=D.getD i 0)(n4:((inR l k+q34 l k:Nat):Int)=D.getD k 0)(hP:∀i,i<k->∀n∈(q35 l i).flatten,n=0)(Vg:∀n∈(q35 l k).flatten,n=0)(hB:Below w1 w1 w5) :
  ∃(j i0:Nat),H φ (k1:Int)=j/\H φ (o0:Int)=i0/\j<=dn/\Hid (i0=inR l j)/\Hid (∀i,i<j->((inR l i+q34 l i:Nat):Int)=D.getD i 0)/\Hid (∀i,i<j->∀n∈(q35 l i).flatten,n=0)/\Hid (Below w1 w1 w5):=by
 subst cJ;refine⟨k+1,o0,rfl,rfl,hk,(lhd jR.symm),(lhd (fun i hi=>?_)),(lhd (fun i hi=>?_)),(lhd hB)⟩
 ·rcases gG i k with h|h
  ·exact hR i h
  ·obtain rfl:i=k:=by omega
   exact n4
 ·rcases gG i k with h|h
  ·exact hP i h
  ·obtain rfl:i=k:=by omega
   exact Vg
theorem qlx {w:δ}{v:ε}{P:Int}{D:List Int}{L:List Fc}(h:SqV w v P D L) :
  Calls Tryz.prog 7 #[v] w fun e w'=>e=.returned (τ (exB P D (L.map Fc.q)))/\Below w w w':=by
 obtain⟨l,hl⟩:=x4 (L.map Fc.q);have BE:=fun (u:δ) (hb:Below w w u)=>qqf (h.keep hb)
 obtain⟨sd,sm,rfl,hD,hM⟩:=h;obtain⟨da,dn,dc,rfl⟩:=qg hD;obtain⟨ma,mn,mc,rfl⟩:=qg hM.1;have kD:dn=D.length:=by have:=hD.open.2.2.1;rw[xl]at this;omega
 have pP:mn=L.length:=q7y hM.1;have Qp:dn<=9223372036854775807:=by have h1:=hD.open.1;have h2:=hD.open.2.1;unfold maxLen at h2;omega
 have HH:=kp hD hM kD pP BE hl;clear hD hM kD pP BE;go_enter Tryz.func7,Tryz.ntmps7;go_wp2_with fail;obtain⟨W,hW⟩:=x4 (w.alloc (.cells #[P,O da dn dc,O ma mn mc] 27));have hw:Below w w W:=by rw[hW];exact(q9).alloc (nlr _) _
 have c1:W ⟨w,1,Z⟩=O da dn dc:=by rw[hW];exact xz w _ _ 1 rfl
 have c2:W ⟨w,2,Z⟩=O ma mn mc:=by rw[hW];exact xz w _ _ 2 rfl
 rw[<-hW];have HW:=yh hw c1 c2;clear hW hw c1 c2;refine(HH.a4 W HW.out.1).mono ?_;rintro e w1 ⟨rfl,ae⟩;rw[<-hl];by_cases hS:kv P D l=true
 ·rw[hS];have fC:Below w w w1:=(btr HW.out.1 ae);have c1:=J ae HW.a1;have c2:=J ae HW.b2;have aP:dn=mn+1:=by have h1:=(yz.1 hS).2.1;have h2:=HH.a2;have h3:=HH.a3;have h4:=congrArg List.length hl;rw[gp]at h4;omega
  have H1:=kg fC c1 c2 aP hS;clear fC c1 c2 ae aP hS;have c1:=H1.a1;go_wp2_with fail;clear c1;go_loopw [3,4,5,6,7,8,15] (fun xi _ _ _ _ _ x wr=>∃(k i0:Nat),x=k/\xi=i0/\k<=dn/\Hid (i0=inR l k)/\Hid (∀i,i<k->((inR l i+q34 l i:Nat):Int)=D.getD i 0)/\Hid (∀i,i<k->∀n∈(q35 l i).flatten,n=0)/\Hid (Below w1 w1 wr)) (fun _ _ _ _ _ _ x _=>dn-(vI x).toNat)
  case atStart=>exact⟨0,0,rfl,rfl,gm _,(lhd rfl),(lhd (fun i hi=>absurd hi (Nat.not_lt_zero i))),(lhd (fun i hi=>absurd hi (Nat.not_lt_zero i))),(lhd q9)⟩
  case round =>
   obtain⟨k,i0,rfl,rfl,hk,HI,HR,HP,HB⟩:=hrel;have bQ:Below w w wr:=(btr H1.out.1 HB.out);by_cases nt:k<dn
   ·have Fu:(k:Int)<dn:=by omega
    obtain⟨iS,rfl,e0⟩:=q6o (HH.out.1.keep bQ) nt;obtain⟨dk,bN⟩:=x4 (D.getD k 0);rw[<-bN]at e0;have c2:=J HB.out H1.a2;have XI:i0<=400:=by rw[HI.out];exact qtz H1.b4 k
    have lT:IntKind.i64.wrap ((k:Int)+1)=((k+1:Nat):Int):=IntWalk.i64_in _ (by omega);obtain⟨k1,cJ⟩:=x4 (k+1);rw[<-cJ]at lT;by_cases cd:k<mn
    ·have Ef:(k:Int)<mn:=by omega
     obtain⟨cN,r,c,xa,xn,xk,M,rfl,a0,a1,a2,a3,hX,oJ,kT,nZ,-,Fv,x,hx,kY,fs,sZ⟩:=qfv (HH.a1.keep bQ) (by rw[<-hl];exact H1.b4) (k:=k) (by rw[<-HH.a3];exact cd);rw[<-hl]at hx;obtain⟨o0,Mf⟩:=x4 (q2r P c M);have jR:q34 l k=o0:=by rw[qc2 hx,kY,fs,sZ,Mf]
     have Qq:o0<=400:=by rw[<-jR];exact q84 H1.b4 k
     have ws:IntKind.i64.wrap ((i0:Int)+(o0:Int))=((i0+o0:Nat):Int):=IntWalk.i64_in _ (by omega);obtain⟨s0,dg⟩:=x4 (i0+o0);rw[<-dg]at ws;have n4:Calls Tryz.prog 15 #[I #[P,r,c,O xa xn xk]] wr fun e w'=>e=.returned (o0:Nat)/\Below wr wr w':=by rw[Mf];exact qsy P r c _ M wr hX (yz.1 H1.b4).2.2.1 oJ kT nZ
     have HX:=qhs jR dg bN cJ bQ hX oJ kT nZ hx kY fs sZ Fv;have HA:=kp a0 a1 a2 a3 c2 n4;clear jR dg bN cJ bQ hX oJ hx kY fs sZ Mf n4 Fv;go_wp2_with fail;refine HA.b5.mono ?_;rintro e w5 ⟨rfl,aC⟩;by_cases dM:((s0:Int) != dk)=true
     ·have HS:=jg dM aC;clear aC;go_wp2_with fail;go_ret;refine⟨?_,H1.out.1.trans (((btr HB.out HS.out.2)).mono H1.out.1.size)⟩;rw[<-hl,show exB P D l=false by
       cases hb:exB P D l with
       |false=>rfl
       |true =>have h1:=(q6h.1 hb).2.1 k (by have:=HH.a2;omega);rw[<-HI.out,HX.out.1,<-HX.a1,<-HX.a2]at h1;exact absurd h1 (by simpa using HS.out.1)]
      rfl
     ·have dM:((s0:Int) != dk)=false:=by simpa using dM
      have tb:((inR l k+q34 l k:Nat):Int)=D.getD k 0:=by rw[<-HI.out,HX.out.1,<-HX.a1,<-HX.a2];simpa using dM
      have HS:=jg aC tb;have c2:=J aC c2;clear aC a0 a1 a2 a3 tb;by_cases te:k1<mn
      ·have vN:(k1:Int)<mn:=by omega
       obtain⟨AO,r2,iN,ya,yn,yk,M2,dU,b0,b1,b2,b3,hY,vO,vP,-,AP,-,y,hy,hyp,nz,Fw⟩:=qfv (HH.a1.keep HX.a4) (by rw[<-hl];exact H1.b4) (k:=k1) (by rw[<-HH.a3];exact te);obtain rfl:cN=AO:=by injection dU
       have tW:iN=r:=by have:=HX.b13;rw[<-HX.a3]at this;omega
       subst tW;rw[<-hl]at hy;have Qr:=HX.a5.keep HS.out.1;have Qs:=hY.keep HS.out.1
       replace b0:=J HS.out.1 b0
       replace b1:=J HS.out.1 b1
       replace b2:=J HS.out.1 b2
       replace b3:=J HS.out.1 b3
       have a0:=J HS.out.1 HA.out.1;have a1:=J HS.out.1 HA.a1;have a2:=J HS.out.1 HA.a2;have a3:=J HS.out.1 HA.a3;have hMul:∀w',Below w5 w5 w'->Calls Tryz.prog 16 #[I #[P,r2,iN,O ya yn yk],I #[P,iN,c,O xa xn xk]] w' fun e w2=>∃z,e=.returned (ψ #[z,τ true])/\FmV w2 z P r2 c (mulM P c M2 M)/\Below w' w' w2/\∃q,bkT (ψ #[z,τ true])=Y q/\w'<=q/\q<w2:=fun w' hb=>by have hp:=(yz.1 H1.b4).2.2.1;refine(qom P r2 iN c _ _ M2 M w' (Qs.keep hb) (Qr.keep hb) hp vO HX.a6 vP kT nZ).mono ?_;rintro e w2 ⟨E,rfl,h1,h2,h3,h4⟩;exact⟨_,rfl,qbh h3 (q4t (vm hp).1 vO) (by omega) (by omega),h4,E,rfl,h1,h2⟩
       have Fx:q35 l k=mulM P c M2 M:=by rw[qiz HX.a9 (by rw[<-HX.a3];exact hy),HX.a10,HX.a11,HX.a12,Fw]
       have vQ:=yt Fx hMul vO HX.a6;have Mg:=q5h a0 a1 a2 a3 b0 b1 b2 b3;clear dU hY vO AP hy hyp nz Fw Qr Qs a0 a1 a2 a3 b0 b1 b2 b3 hMul Fx;go_wp2_with fail;obtain⟨a0,a1,a2,a3,b0,b1,b2,b3⟩:=Mg.out;have hMul:=vQ.a1
       go_cut [7,8]from 43 to 57 (fun x y wx=>∃q:Nat,x=σ q/\y=τ true/\Hid (BxV wx q (P) (r2) (c) (mulM P c M2 M)/\w5<=q/\Below w5 w5 wx))
       case first =>
        rename_i At K2 hJ aQ;refine vf rfl (fun b i v w'=>match b,i with
         |false,0=>v=σ (Y ⟨w,2,Z⟩)
         |false,1=>v=O (Y cN) mn mc
         |false,2=>v=(k:Int)
         |false,3=>v=(k1:Int)
         |false,4=>v=σ (Y (cN.add (k1*4)))
         |false,5=>v=I #[P,r2,iN,O ya yn yk]
         |false,6=>v=σ (Y ⟨w,2,Z⟩)
         |false,7=>v=O (Y cN) mn mc
         |false,8=>v=(k:Int)
         |false,9=>v=σ (Y (cN.add (k*4)))
         |false,10=>v=I #[P,iN,c,O xa xn xk]
         |false,11=>∃y,v=ψ #[y,τ true]/\FmV w' y (P) (r2) (c) (mulM P c M2 M)
         |false,12=>∃y,v=ψ #[y,τ true]/\FmV w' y (P) (r2) (c) (mulM P c M2 M)
         |false,13=>FmV w' v (P) (r2) (c) (mulM P c M2 M)
         |false,14=>v=τ true
         |false,15=>q6r v w'/\∃q,v=σ (Y ⟨q,0,Z⟩)/\w5<=q
         |true,12=>∃y,v=ψ #[y,τ true]
         |true,14=>v=τ true
         |true,15=>∃q,v=σ (Y ⟨q,0,Z⟩)/\BxV w' q (P) (r2) (c) (mulM P c M2 M)/\w5<=q
         |true,17=>v=τ true
         |_,_=>True) (fun i=>i == 11 || i == 15) bkT [(12,11),(13,12)] (gTk 13) (by kernel_rfl) 16 62 rfl (by kernel_rfl) (by kernel_rfl) (by decide) rfl ?keep ?step ?store ?done
        case keep =>
         intro b i v w1 w2 h hb
         match b,i,h with
         |false,0,h=>exact h
         |false,1,h=>exact h
         |false,2,h=>exact h
         |false,3,h=>exact h
         |false,4,h=>exact h
         |false,5,h=>exact h
         |false,6,h=>exact h
         |false,7,h=>exact h
         |false,8,h=>exact h
         |false,9,h=>exact h
         |false,10,h=>exact h
         |false,11,⟨y,h1,h2⟩=>exact⟨y,h1,h2.keep hb⟩
         |false,12,⟨y,h1,h2⟩=>exact⟨y,h1,h2.keep hb⟩
         |false,13,h=>exact h.keep hb
         |false,14,h=>exact h
         |false,15,⟨h1,h2⟩=>exact⟨h1.keep hb,h2⟩
         |false,i+16,h=>trivial
         |true,0,h=>trivial
         |true,1,h=>trivial
         |true,2,h=>trivial
         |true,3,h=>trivial
         |true,4,h=>trivial
         |true,5,h=>trivial
         |true,6,h=>trivial
         |true,7,h=>trivial
         |true,8,h=>trivial
         |true,9,h=>trivial
         |true,10,h=>trivial
         |true,11,h=>trivial
         |true,12,h=>exact h
         |true,13,h=>trivial
         |true,14,h=>exact h
         |true,15,⟨q,h1,h2,h3⟩=>exact⟨q,h1,h2.keep hb,h3⟩
         |true,16,h=>trivial
         |true,17,h=>exact h
         |true,i+18,h=>trivial
        case step =>
         intro i o ho aD ph b w' bU hbf hw hd ab hsz
         match i,ho,aD,bU,hbf,hd with
         |0,rfl,_,_,hbf,_ =>obtain rfl:=jb hbf;exact yb rfl (zr qu ab 1) (vw _ _ _ (by decide)) ⟨_,rfl,rfl,j7 q9 rfl rfl⟩
         |1,rfl,_,_,hbf,hd =>obtain rfl:=jb hbf;exact jm rfl (zf hd 0) (q4k _ _ _ _ _ (J hw c2)) ⟨_,rfl,rfl,j7 q9 rfl rfl⟩
         |2,rfl,_,_,hbf,_ =>obtain rfl:=jb hbf;exact jo (.inl rfl) ⟨_,rfl,(zr qu ab 4),j7 q9 rfl rfl⟩
         |3,rfl,_,_,hbf,hd =>obtain rfl:=jb hbf;exact q0n rfl (zf hd 2) rfl rfl (q1u lT _) ⟨_,rfl,rfl,j7 q9 rfl rfl⟩
         |4,rfl,_,_,hbf,hd =>obtain rfl:=jb hbf;exact q4r rfl (zf hd 1) (zf hd 3) (q4o _ _ _ _ _ te) ⟨_,rfl,rfl,j7 q9 rfl rfl⟩
         |5,rfl,_,_,hbf,hd =>obtain rfl:=jb hbf;exact jm rfl (zf hd 4) (qai (J hw b0) (J hw b1) (J hw b2) (J hw b3)) ⟨_,rfl,rfl,j7 q9 rfl rfl⟩
         |6,rfl,_,_,hbf,_ =>obtain rfl:=jb hbf;exact yb rfl (zr qu ab 1) (vw _ _ _ (by decide)) ⟨_,rfl,rfl,j7 q9 rfl rfl⟩
         |7,rfl,_,_,hbf,hd =>obtain rfl:=jb hbf;exact jm rfl (zf hd 6) (q4k _ _ _ _ _ (J hw c2)) ⟨_,rfl,rfl,j7 q9 rfl rfl⟩
         |8,rfl,_,_,hbf,_ =>obtain rfl:=jb hbf;exact jo (.inl rfl) ⟨_,rfl,(zr qu ab 4),j7 q9 rfl rfl⟩
         |9,rfl,_,_,hbf,hd =>obtain rfl:=jb hbf;exact q4r rfl (zf hd 7) (zf hd 8) (q4o _ _ _ _ _ cd) ⟨_,rfl,rfl,j7 q9 rfl rfl⟩
         |10,rfl,_,_,hbf,hd =>obtain rfl:=jb hbf;exact jm rfl (zf hd 9) (qai (J hw a0) (J hw a1) (J hw a2) (J hw a3)) ⟨_,rfl,rfl,j7 q9 rfl rfl⟩
         |11,rfl,_,_,hbf,hd =>
          obtain rfl:=jb hbf;have Fy:b 49 V=I #[P,r2,iN,O ya yn yk]:=(zf hd 5)
          have Mh:b 54 V=I #[P,iN,c,O xa xn xk]:=(zf hd 10)
          exact q0e rfl #[I #[P,r2,iN,O ya yn yk],I #[P,iN,c,O xa xn xk]] (by rw[<-Fy,<-Mh];simp[Act.eval]) ((hMul w' hw).mono fun e w2 ⟨y,h1,h2,h3,h4⟩=>⟨_,h1,_,rfl,⟨y,rfl,h2⟩,h3,fun _=>h4,fun c hc h=>absurd h ((by decide:∀c∈([(12,11),(13,12)] : List (Nat×Nat)),c.1≠11) c hc)⟩)
         |12,rfl,_,_,hbf,hd =>obtain rfl:=jb hbf;exact jo (.inl rfl) ⟨_,rfl,(zf hd 11),q9,fun h=>absurd h (by decide),fun c hc h=>by obtain rfl:c=(12,11):=(by decide:∀c∈([(12,11),(13,12)] : List (Nat×Nat)),c.1=12->c=(12,11)) c hc h;intro o' d' ik eT;obtain rfl:=osi ik;obtain rfl:=osi eT;rfl⟩
         |13,rfl,_,_,hbf,hd =>obtain rfl:=jb hbf;obtain⟨y,fM,fy⟩:∃y,b 43 V=ψ #[y,τ true]/\FmV w' y (P) (r2) (c) (mulM P c M2 M):=zf hd 12;exact q85 rfl fM rfl ⟨_,rfl,fy,q9,fun h=>absurd h (by decide),fun c hc h=>by obtain rfl:c=(13,12):=(by decide:∀c∈([(12,11),(13,12)] : List (Nat×Nat)),c.1=13->c=(13,12)) c hc h;intro o' d' ik eT;obtain rfl:=osi ik;obtain rfl:=osi eT;(show _=gTk 13 13 (b 43 V));rw[fM];rfl⟩
         |14,rfl,_,_,_,hd =>
          have fM:∃y,b 43 V=ψ #[y,τ true]:=by
           cases ph with
           |false=>obtain⟨y,h1,h2⟩:∃y,b 43 V=ψ #[y,τ true]/\FmV w' y (P) (r2) (c) (mulM P c M2 M):=zf hd 12;exact⟨y,h1⟩
           |true=>exact zf hd 12
          obtain⟨y,fM⟩:=fM;exact q85 rfl fM rfl ⟨_,rfl,(by cases ph <;> rfl),q9,(by simp),fun c hc h=>absurd h ((by decide:∀c∈([(12,11),(13,12)] : List (Nat×Nat)),c.1≠14) c hc)⟩
         |15,rfl,_,_,hbf,_ =>obtain rfl:=jb hbf;exact⟨rfl,gu _,vt _ rfl _ _ (q07 _) ⟨_,rfl,⟨q4h _,_,rfl,hw.size⟩,(q9).alloc (nlr _) _,(fun _=>⟨_,rfl,nlr _,by simp⟩),fun c hc h=>absurd h ((by decide:∀c∈([(12,11),(13,12)] : List (Nat×Nat)),c.1≠15) c hc)⟩⟩
         |16,ho,aD,bU,hbf,hd=>exact absurd rfl aD
         |17,rfl,_,bU,_,hd =>obtain rfl:=jb bU;have fL:b 57 V=τ true:=zf hd 14;exact jo (.inr rfl) ⟨_,rfl,fL,q9,(by simp),fun c hc h=>absurd h ((by decide:∀c∈([(12,11),(13,12)] : List (Nat×Nat)),c.1≠17) c hc)⟩
         |i+18,ho,aD,bU,hbf,hd =>have:i+18<18:=(gh.1 ho).1;omega
        case store =>
         intro o ho l b w' aP bW ag;obtain rfl:=osi ho;have fA:q6r (b 7 V) w'/\∃q,b 7 V=σ (Y ⟨q,0,Z⟩)/\w5<=q:=by have h1:=ag.fact 15 _ _ rfl rfl (aP 15 (by kernel_rfl));rw[bW]at h1;exact h1
         have f0:FmV w' (b 56 V) (P) (r2) (c) (mulM P c M2 M):=by have h1:=ag.fact 13 _ _ rfl rfl (aP 13 (by kernel_rfl));rw[bW]at h1;exact h1
         have fM:∃y,b 43 V=ψ #[y,τ true]/\FmV w' y (P) (r2) (c) (mulM P c M2 M):=by have h1:=ag.fact 12 _ _ rfl rfl (aP 12 (by kernel_rfl));rw[bW]at h1;exact h1
         have fD:=ag.apart 11 _ 55 15 _ 7 rfl rfl rfl rfl (aP 11 (by kernel_rfl)) (aP 15 (by kernel_rfl)) rfl rfl (by decide);have fx:b 43 V=gTk 13 12 (b 55 V):=ag.copy (12,11) (by simp) (aP 12 (by kernel_rfl)) _ _ _ _ rfl rfl rfl rfl;have fO:b 56 V=gTk 13 13 (b 43 V):=ag.copy (13,12) (by simp) (aP 13 (by kernel_rfl)) _ _ _ _ rfl rfl rfl rfl;obtain⟨y,fM,_⟩:=fM;have eC:b 55 V=ψ #[y,τ true]:=fx.symm.trans fM;have e0:b 56 V=y:=by rw[fO,fM];rfl
         rw[e0]at f0;obtain⟨s,rfl,hs,hF⟩:=f0;obtain⟨so,sn,sc,rfl⟩:=qg hs;obtain⟨⟨q,eA,hq,q0,q1,q2,q3,hz⟩,q',iC,dA⟩:=fA;have iW:q'=q:=by rw[eA]at iC;injection iC with e;injection e with e;injection e with e;exact e.symm
         rw[iW]at dA;rw[eC,eA]at fD;have ah:∀ad n c,O so sn sc=O (Y ad) n c->ad.block≠q:=fun ad n c e h=>by
          injection e with e;subst e
          exact fD (by show Y ad.block=Y q;rw[h])
         have z0:=hz 0;have z1:=hz 1;have z2:=hz 2;have z3:=hz 3;obtain⟨t0,t1,t2,t3⟩:=q1f q0 q1 q2 q3;refine⟨rfl,ju _ _ _ rfl _ _ eA e0 (vx q0 q1 q2 q3 hz) ⟨rfl,?_,by simp,fun i oi di hi eI hl=>?_⟩⟩
         ·exact jj ag.below dA _ _ _ _
         ·have h1:=ag.fact i oi di hi eI hl;rw[bW]at h1
          match i,hi,hl,h1 with
          |12,hi,hl,⟨y,h1,_⟩=>exact⟨y,h1⟩
          |14,hi,hl,h1=>exact h1
          |15,hi,hl,h1 =>obtain rfl:=osi hi;obtain rfl:=osi eI;rw[eA];refine⟨q,rfl,⟨_,_,_,t0 _ _ _ _,t1 _ _ _ _,t2 _ _ _ _,t3 _ _ _ _,?_,hF⟩,dA⟩;exact y8 (y8 (y8 (y8 hs _ _ ah) _ _ ah) _ _ ah) _ _ ah
          |17,hi,hl,h1=>have h2:=ag.cl 17 hl 16 (by kernel_rfl);rw[bW]at h2;cases h2
          |0,hi,hl,h1=>trivial
          |1,hi,hl,h1=>trivial
          |2,hi,hl,h1=>trivial
          |3,hi,hl,h1=>trivial
          |4,hi,hl,h1=>trivial
          |5,hi,hl,h1=>trivial
          |6,hi,hl,h1=>trivial
          |7,hi,hl,h1=>trivial
          |8,hi,hl,h1=>trivial
          |9,hi,hl,h1=>trivial
          |10,hi,hl,h1=>trivial
          |11,hi,hl,h1=>trivial
          |13,hi,hl,h1=>trivial
          |16,hi,hl,h1=>trivial
          |i+18,hi,hl,h1=>trivial
        case done =>intro b w2 hsz aO hf ab hw;obtain⟨q,gA,gB,gq⟩:∃q,b 7 V=σ (Y ⟨q,0,Z⟩)/\BxV w2 q (P) (r2) (c) (mulM P c M2 M)/\w5<=q:=hf 15 _ _ rfl rfl;have gL:b 8 V=τ true:=hf 17 _ _ rfl rfl;refine aQ _ _ (Met.intro (hJ _ _ ⟨b 7 V,b 8 V,b 43 V,b 44 V,b 45 V,b 46 V,b 47 V,b 48 V,b 49 V,b 50 V,b 51 V,b 52 V,b 53 V,b 54 V,b 55 V,b 56 V,b 57 V,⟨q,gA,gL,(lhd ⟨gB,gq,hw⟩)⟩,(q8z hsz aO ab).trans ?_⟩));kernel_rfl
       case rest =>
        obtain⟨q,rfl,rfl,H7⟩:=hcut;clear a0 a1 a2 a3 b0 b1 b2 b3 hMul;obtain⟨za,zn,zk,g0,g1,g2,g3,hz,lH⟩:=H7.out.1;have HZ:=jg hz lH;clear hz lH;go_wp2_with fail;refine(qpd ⟨_,rfl,HZ.out.1,HZ.out.2⟩ (yz.1 H1.b4).2.2.1 (by omega) nZ).mono ?_;rintro e w7 ⟨rfl,cq⟩;obtain⟨o2,oh⟩:=x4 (q2r P c (mulM P c M2 M));rw[<-oh];have Qt:Below w1 w1 w7:=HB.out.trans ((HS.out.1.trans (((btr H7.b2 cq)).mono HS.out.1.size)).mono HB.out.size);have H8:=jg oh Qt;clear oh Qt cq g0 g1 g2 g3;by_cases de:o2=0
        ·subst de;have ao:∀n∈(q35 l k).flatten,n=0:=by rw[vQ.out.1];exact(qap HZ.out.2).1 H8.out.1.symm
         have Fz:=lhd ao;clear ao;go_wp2_with fail;go_roundw
         case measure=>simp[vI];have:=HX.a3;omega
         case rel=>exact qk4 HX.a3 HX.out.1 nt HR.out HS.out.2 HP.out Fz.out H8.out.2
        ·have Kt:(0:Int)<(o2:Int):=by omega
         have HN:=lhd de;clear de;go_wp2_with fail;go_ret;refine⟨?_,(btr H1.out.1 H8.out.2)⟩;rw[<-hl,show exB P D l=false by
          cases hb:exB P D l with
          |false=>rfl
          |true =>have h1:=(q6h.1 hb).2.2 k (gk.1 HX.a9).1;rw[vQ.out.1]at h1;exact absurd (H8.out.1.trans ((qap HZ.out.2).2 h1)) HN.out]
         rfl
      ·have vN:¬(k1:Int)<mn:=by omega
       have ao:∀n∈(q35 l k).flatten,n=0:=by rw[qe6 (by have h1:=congrArg List.length hl;rw[gp]at h1;have:=HH.a3;have:=HX.a3;omega)];intro n hn;cases hn
       have Fz:=lhd ao;clear ao;go_wp2_with fail;go_roundw
       case measure=>simp[vI];have:=HX.a3;omega
       case rel=>exact qk4 HX.a3 HX.out.1 nt HR.out HS.out.2 HP.out Fz.out ((btr HB.out HS.out.1))
    ·have Ef:¬(k:Int)<mn:=by omega
     have aW:l.length<=k:=by have h1:=congrArg List.length hl;rw[gp]at h1;have:=HH.a3;omega
     have jR:q34 l k=0:=qc3 aW;have ws:IntKind.i64.wrap ((i0:Int))=(i0:Int):=IntWalk.i64_in _ (by omega);have vN:¬(k1:Int)<mn:=by omega
     by_cases dM:((i0:Int) != dk)=true
     ·have HS:=yt jR bN cJ dM;clear jR bN cJ aW bQ;go_wp2_with fail;go_ret;refine⟨?_,(btr H1.out.1 HB.out)⟩;rw[<-hl,show exB P D l=false by
       cases hb:exB P D l with
       |false=>rfl
       |true =>have h1:=(q6h.1 hb).2.1 k (by have:=HH.a2;omega);rw[<-HI.out,HS.out.1,<-HS.a1,Nat.add_zero]at h1;exact absurd h1 (by simpa using HS.b3)]
      rfl
     ·have dM:((i0:Int) != dk)=false:=by simpa using dM
      have tb:((inR l k+q34 l k:Nat):Int)=D.getD k 0:=by rw[<-HI.out,jR,<-bN,Nat.add_zero];simpa using dM
      have ao:∀n∈(q35 l k).flatten,n=0:=by rw[qe6 (by omega)];intro n hn;cases hn
      have HS:=yt jR tb cJ ao;clear jR bN cJ aW bQ tb ao;go_wp2_with fail;go_roundw
      case measure=>simp[vI];have:=HS.a2;omega
      case rel=>exact qk4 HS.a2 HS.out.1 nt HR.out HS.a1 HP.out HS.b3 HB.out
   ·have aM:k=dn:=by omega
    have HK:=lhd aM;clear aM bQ;go_wp2_with fail;go_ret;refine⟨?_,(btr H1.out.1 HB.out)⟩;rw[<-hl,show exB P D l=true from q6h.2 ⟨H1.b4,fun i hi=>HR.out i (by have:=HH.a2;have:=HK.out;omega),fun i hi=>HP.out i (by have h1:=congrArg List.length hl;rw[gp]at h1;have:=HH.a3;have:=HK.out;have:=H1.a3;omega)⟩];rfl
 ·have hS:kv P D l=false:=by simpa using hS
  have fk:exB P D l=false:=by unfold exB;rw[hS];rfl
  rw[hS];have hB:Below w w w1:=(btr HW.out.1 ae);have HB:=jg hB fk;clear hB ae fk;go_wp2_with fail;go_ret;exact⟨by rw[<-hl,HB.out.2];rfl,HB.out.1⟩
theorem Tryz.qqg:(Tryz.prog.info? 30).map (fun i=>(i.zero,i.size,i.bytes))=Y (Y (I #[H φ 0,H φ 0,H φ 0,O Z 0 0]),4,48):=by kernel_rfl
def Apx (x:Fc)(g:Nat):Prop:=x.E≠[]->∀ad,x.a=Y ad->ad.block≠g
theorem qv9 {w:δ}{x:Fc}(h:Sl w 1 (O x.a x.n x.k) (ints x.E))(hE:x.E≠[]){ad:Addr}(ha:x.a=Y ad):ad.block<w:=by
 obtain⟨_,_,_,_,h6⟩:=h.open;cases hx:x.E with
 |nil=>exact absurd hx hE
 |cons e t=>exact World.block_lt_of_cell? w (ad.add 0) (h6 ad ha 0 e (by rw[hx];rfl))
theorem qhm {w w':δ}{x:Fc}(h:Sl w 1 (O x.a x.n x.k) (ints x.E))(hk:∀ad,x.a=Y ad->x.E≠[]->∀p u,p.block=ad.block->w p=Y u->w' p=Y u):Sl w' 1 (O x.a x.n x.k) (ints x.E):=by
 obtain⟨a,n,c,he,h2,h3,h4,h5,h6⟩:=h;refine⟨a,n,c,he,h2,h3,h4,h5,fun ad bR j u hj=>?_⟩;have ha:x.a=a:=by injection he
 have hb:(ad.add j).block=ad.block:=by unfold Addr.add;split <;> rfl
 refine hk ad (ha.trans bR) (fun e=>?_) _ _ hb (h6 ad bR j u hj);rw[e]at hj;simp[ints]at hj
structure kf (w:δ)(q b:Nat)(p:Int)(D:List Int)(L:List Fc)(da:Option Addr)(dc:Nat)(ma:Option Addr)(mc:Nat):Prop where
 c0:w q=p
 c1:w ⟨q,1,Z⟩=O da D.length dc
 c2:w ⟨q,2,Z⟩=O ma L.length mc
 z:∀i,w.frozen? ⟨q,i,Z⟩=false
 rd:w.ownsRow b 3 1 (O da D.length dc) D.length (ints D)
 rm:w.ownsRow b 30 4 (O ma L.length mc) L.length (cat Fc.enc L)
 ap:Apr (O da D.length dc) (O ma L.length mc)
 lt:q<b
 bs:b<=w
 mx:∀x∈L,Sl w 1 (O x.a x.n x.k) (ints x.E)
 mq:∀x∈L,Apx x q
 md:∀x∈L,∀g,(O da D.length dc).ownBlock=Y g->Apx x g
 mm:∀x∈L,∀g,(O ma L.length mc).ownBlock=Y g->Apx x g
theorem kf.keep {w w':δ}{q b:Nat}{p:Int}{D:List Int}{L:List Fc}{da ma:Option Addr}{dc mc:Nat}(h:kf w q b p D L da dc ma mc)(hb:Below w w w'):kf w' q b p D L da dc ma mc :=
 ⟨J hb h.c0,J hb h.c1,J hb h.c2,fun i=>xf hb (gz h.lt h.bs) (h.z i),qa h.rd hb,qa h.rm hb,h.ap,h.lt,gd h.bs hb.size,fun x hx=>(h.mx x hx).keep hb,h.mq,h.md,h.mm⟩
theorem qhn {w:δ}{x:Fc}(h:Sl w 1 (O x.a x.n x.k) (ints x.E)){g:Nat}(hg:w<=g):Apx x g:=fun hE ad ha e=>by have:=qv9 h hE ha;omega
theorem kf.space {w w':δ}{q b:Nat}{p n:Int}{D:List Int}{L:List Fc}{da ma:Option Addr}{dc mc:Nat}(h:kf w q b p D L da dc ma mc){g cap:Nat}{o:Obj}
  (hr:w'.ownsRow b 3 1 (O (Y ⟨g,0,Z⟩) (D.length+1) cap) (D.length+1) (ints D++[H φ n])) (hg:(w.alloc o).grownBy w' (O da D.length dc).ownBlock) (hl:(O da D.length dc).ownBlock=Y g\/g=w.heap.size+1) (hB:Below b w w') :
  kf (w'.setCell ⟨q,1,Z⟩ (O g (D.length+1) cap)) q b p (D++[n]) L (Y ⟨g,0,Z⟩) cap ma mc:=by
 have e:(D++[n]).length=D.length+1:=by simp
 have eQ:=h.lt;have XJ:g≠q:=fun e=>by have:=(hr.lt g rfl).1;omega
 refine⟨x8 ((hB.cell (by exact eQ)).trans h.c0) (by simp),?_,x8 ((hB.cell (by exact eQ)).trans h.c2) (by simp),fun i=>?_,?_,?_,fun x hx=>?_,eQ,?_,fun x hx=>?_,h.mq,fun x hx g' tf=>?_,h.mm⟩
 ·rw[e];exact World.cell?_setCell_same' _ _ _ (by rw[(hB.cell (by exact eQ)).trans h.c1];rfl)
 ·rw[World.frozen?_setCell];exact(hB.frozen (by exact eQ)).trans (h.z i)
 ·rw[e,vk];exact qji hr (fun x hx=>by have:=(hr.lt x hx).1;show x≠q;omega) _
 ·refine qji ((h.rm.alloc o).kept hg ?_) (fun x hx=>by have:=(h.rm.lt x hx).1;show x≠q;omega) _;cases hm:(O ma L.length mc).ownBlock with
  |none=>exact .inl rfl
  |some k=>exact .inr fun e=>h.ap k e.symm hm
 ·have hx:g=x:=by injection hx
  subst hx;rcases hl with hl|hl
  ·exact h.ap g hl
  ·intro e2;have:=(h.rm.lt g e2).2;omega
 ·have h1:=hg.size;have h2:=h.bs;simp only [World.size_alloc]at h1;simp only [World.size_setCell];omega
 ·refine qhm (h.mx x hx) fun ad ha hE p u hp hc=>?_
  refine xe (hg.cell (qk hc o) fun e2=>?_) (by rw[hp];exact h.mq x hx hE ad ha);exact h.md x hx p.block e2.symm hE ad ha hp.symm
 ·have tf:g=g':=by injection tf
  subst tf;rcases hl with hl|hl
  ·exact h.md x hx g hl
  ·exact qhn (h.mx x hx) (by omega)
theorem kf.arrow {w w':δ}{q b:Nat}{p:Int}{D:List Int}{L:List Fc}{y:Fc}{da ma:Option Addr}{dc mc:Nat}(h:kf w q b p D L da dc ma mc){g cap:Nat}{o o2:Obj}(hy:Sl w 1 (O y.a y.n y.k) (ints y.E))(yq:Apx y q)(yd:∀g,(O da D.length dc).ownBlock=Y g->Apx y g)(ym:∀g,(O ma L.length mc).ownBlock=Y g->Apx y g)
  (hr:w'.ownsRow b 30 4 (O (Y ⟨g,0,Z⟩) (L.length+1) cap) (L.length+1) (cat Fc.enc L++y.enc)) (hg:((w.alloc o2).alloc o).grownBy w' (O ma L.length mc).ownBlock) (hl:(O ma L.length mc).ownBlock=Y g\/g=(w.alloc o2).heap.size+1) (hB:Below b w w') :
  kf (w'.setCell ⟨q,2,Z⟩ (O (Y ⟨g,0,Z⟩) (L.length+1) cap)) q b p D (L++[y]) da dc (Y ⟨g,0,Z⟩) cap:=by
 have e:(L++[y]).length=L.length+1:=by simp
 have eQ:=h.lt;have ao:∀x∈L++[y],Sl w 1 (O x.a x.n x.k) (ints x.E)/\Apx x q/\(∀g,(O da D.length dc).ownBlock=Y g->Apx x g)/\∀g,(O ma L.length mc).ownBlock=Y g->Apx x g:=fun x hx=>by
  rcases gO.1 hx with hx|hx
  ·exact⟨h.mx x hx,h.mq x hx,h.md x hx,h.mm x hx⟩
  ·rw[List.mem_singleton]at hx;subst hx;exact⟨hy,yq,yd,ym⟩
 refine⟨x8 ((hB.cell (by exact eQ)).trans h.c0) (by simp),x8 ((hB.cell (by exact eQ)).trans h.c1) (by simp),?_,fun i=>?_,?_,?_,fun x hx=>?_,eQ,?_,fun x hx=>?_,fun x hx=>(ao x hx).2.1,fun x hx=>(ao x hx).2.2.1,fun x hx g' tf=>?_⟩
 ·rw[e];exact World.cell?_setCell_same' _ _ _ (by rw[(hB.cell (by exact eQ)).trans h.c2];rfl)
 ·rw[World.frozen?_setCell];exact(hB.frozen (by exact eQ)).trans (h.z i)
 ·refine qji (((h.rd.alloc o2).alloc o).kept hg ?_) (fun x hx=>by have:=(h.rd.lt x hx).1;show x≠q;omega) _;cases hm:(O da D.length dc).ownBlock with
  |none=>exact .inl rfl
  |some k=>exact .inr fun e=>h.ap k hm e.symm
 ·rw[e,q2e,q99];exact qji hr (fun x hx=>by have:=(hr.lt x hx).1;show x≠q;omega) _
 ·intro e2;have e2:g=x:=by injection e2
  subst e2;rcases hl with hl|hl
  ·exact h.ap g hx hl
  ·have:=(h.rd.lt g hx).2;rw[World.size_alloc]at hl;omega
 ·have h1:=hg.size;have h2:=h.bs;simp only [World.size_alloc]at h1;simp only [World.size_setCell];omega
 ·refine qhm (ao x hx).1 fun ad ha hE p u hp hc=>?_
  refine xe (hg.cell (qk (qk hc o2) o) fun e2=>?_) (by rw[hp];exact(ao x hx).2.1 hE ad ha);exact(ao x hx).2.2.2 p.block e2.symm hE ad ha hp.symm
 ·have tf:g=g':=by injection tf
  subst tf;rcases hl with hl|hl
  ·exact(ao x hx).2.2.2 g hl
  ·exact qhn (ao x hx).1 (by rw[hl,World.size_alloc];omega)
theorem qho {w:δ}{q b:Nat}{p n:Int}{D:List Int}{L:List Fc}{da ma:Option Addr}{dc mc:Nat}(h:kf w q b p D L da dc ma mc)(hD:D.length<=10000) :
  Calls Tryz.prog 22 #[n,σ q] w fun e w'=>e=.returned (ψ #[])/\(∃Vh Vi,kf w' q b p (D++[n]) L Vh Vi ma mc)/\Below q w w':=by
 have HH:=lhd h;have c1:=h.c1;obtain⟨dl,aP⟩:=x4 D.length;have kZ:=h.rd;have oG:=h.bs;rw[<-aP]at c1 kZ hD;have HR:=jg kZ aP;clear h kZ aP;go_enter Tryz.func22,Tryz.ntmps22;go_wp2_with (at_builtin;refine q0p (W:=w) rfl _ _ 23 rfl b 3 Tryz.xg Tryz.underlying23 rfl (by decide) (by decide) _ dl (ints D) rfl HR.out.1 [n] rfl rfl (q5v _) (by omega) q9 oG ?_);intro g cap w' hr hg hl hB;have eQ:=HH.out.lt;have XK:w'.cell? ⟨q,1,Z⟩=Y (O da dl dc):=(hB.cell (by exact eQ)).trans c1;have z1:w'.frozen? ⟨q,1,Z⟩=false:=(hB.frozen (by exact eQ)).trans (HH.out.z 1);have HX:=yt hr hg hl hB;clear hr hg hl hB c1;go_wp2_with fail
 go_end0
 have h1:=HX.out.1;have h2:=HX.a1;have h3:=HX.a2;rw[HR.out.2]at h1 h2 h3 ⊢;exact⟨rfl,⟨_,_,HH.out.space h1 h2 h3 HX.b3⟩,(HX.b3.mono (Nat.le_of_lt eQ)).setCell (nlr _) _⟩
theorem qsb {w:δ}{q b:Nat}{p:Int}{D:List Int}{L:List Fc}{da ma:Option Addr}{dc mc:Nat}{y:Fc}(h:kf w q b p D L da dc ma mc)(hL:L.length<=10000)(hy:Sl w 1 (O y.a y.n y.k) (ints y.E))(yq:Apx y q)(yd:∀g,(O da D.length dc).ownBlock=Y g->Apx y g)(ym:∀g,(O ma L.length mc).ownBlock=Y g->Apx y g) :
  Calls Tryz.prog 23 #[y.v,σ q] w fun e w'=>e=.returned (ψ #[])/\(∃tg Mi,kf w' q b p D (L++[y]) da dc tg Mi)/\Below q w w':=by
 have HH:=kg h hy yq yd ym;have c2:=h.c2;obtain⟨ll,aW⟩:=x4 L.length;have l7:=h.rm;have oG:=h.bs;rw[<-aW]at c2 l7 hL;obtain⟨yp,yr,yc,ya,yn,yk,yE⟩:=y;have HR:=jg l7 aW;have hv:(⟨yp,yr,yc,ya,yn,yk,yE⟩ : Fc).v=I #[yp,yr,yc,O ya yn yk]:=rfl;rw[hv];have th:∀u∈[H φ yp,yr,yc,O ya yn yk],u.oneCell'=true:=fun u hu=>by simp only [List.mem_cons,List.not_mem_nil,or_false]at hu;rcases hu with rfl|rfl|rfl|rfl <;> rfl
 have HO:=lhd th;clear h hy yq yd ym l7 aW hv th;go_enter Tryz.func23,Tryz.ntmps23;go_upto_region 1 with fail;obtain⟨W,hW⟩:=x4 (w.alloc (.cells #[yp,yr,yc,O ya yn yk] 30));have hw:Below w w W:=by rw[hW];exact(q9).alloc (nlr _) _
 have y0:W w=yp:=by rw[hW];exact xz w _ _ 0 rfl
 have y1:W ⟨w,1,Z⟩=yr:=by rw[hW];exact xz w _ _ 1 rfl
 have y2:W ⟨w,2,Z⟩=yc:=by rw[hW];exact xz w _ _ 2 rfl
 have y3:W ⟨w,3,Z⟩=O ya yn yk:=by rw[hW];exact xz w _ _ 3 rfl
 rw[<-hW];have Qu:=J hw c2;have HW:=jg hW hw;have dx:b<=W:=gd oG hw.size;clear hW hw c2;go_wp2_with (at_builtin;refine q0p (W:=W) rfl _ _ 25 rfl b 30 Tryz.qqg Tryz.underlying25 rfl (by decide) (by decide) _ ll (cat Fc.enc L) rfl (qa HR.out.1 HW.out.2) [yp,yr,yc,O ya yn yk] rfl rfl HO.out (by omega) q9 dx ?_);intro g cap w' hr hg hl hB;have eQ:=HH.out.1.lt;have iN:w' ⟨q,2,Z⟩=O ma ll mc:=(hB.cell (by exact eQ)).trans Qu;have z2:w'.frozen? ⟨q,2,Z⟩=false:=(hB.frozen (by exact eQ)).trans (xf HW.out.2 (gz eQ oG) (HH.out.1.z 2));have HX:=yt hr hg hl hB;clear hr hg hl hB Qu y0 y1 y2 y3;go_wp2_with fail
 go_end0
 have h1:=HX.out.1;have h2:=HX.a1;have h3:=HX.a2;have h4:Below b w w':=(HW.out.2.mono oG).trans HX.b3;rw[HW.out.1]at h2 h3;rw[HR.out.2]at h1 h2 h3 ⊢;exact⟨rfl,⟨_,_,HH.out.1.arrow HH.a1 HH.a2 HH.a3 HH.b4 h1 h2 h3 h4⟩,(h4.mono (Nat.le_of_lt eQ)).setCell (nlr _) _⟩
theorem qsc {w:δ}{x v:ε}{y:Fc}{p:Int}{r s m:Nat}{X As:List (List Int)}(h:FmV w x p r m X)(hv:Sl w 4 v (cat Fc.enc [y]))(hy:FmV w y.v p s m As)(hp:prI p=true)(xA:r+s<=400)(hm:m<=400) :
  Calls Tryz.prog 26 #[x,v] w fun e w'=>∃z,e=.returned z/\FmF w w' z p (r+s) m (X++As)/\Below w w w':=by
 obtain⟨s1,rfl,hE,hF⟩:=h;obtain⟨ea,en,ec,rfl⟩:=qg hE;obtain⟨va,vn,vc,rfl⟩:=qg hv;have mR:vn=1:=q7y hv;subst mR;obtain⟨ad,y',rfl,Qv,d0,d1,d2,d3⟩:=qhl hv (k:=0) (by simp);obtain rfl:y=y':=by simpa using Qv
 rw[show ad.add (0*4)=ad by simp[Addr.add]]at d0 d1 d2 d3;obtain⟨s2,fQ,sW,Qw⟩:=hy;have e0:y.p=p:=by injection fQ with h;simp at h;exact h.1
 have e1:y.r=s:=by injection fQ with h;simp at h;exact h.2.1
 have e2:y.c=m:=by injection fQ with h;simp at h;exact h.2.2.1
 have e3:s2=O y.a y.n y.k:=by injection fQ with h;simp at h;exact h.2.2.2.symm
 subst e3;obtain⟨ya,sK⟩:=x4 y.a;obtain⟨yn,jZ⟩:=x4 y.n;obtain⟨yk,iz⟩:=x4 y.k;rw[e0]at d0;rw[e1]at d1;rw[e2]at d2;rw[<-sK,<-jZ,<-iz]at d3 sW;have HH:=kg hE hF sW Qw hp;clear hE hF hv sW Qw hp fQ Qv e0 e1 e2 sK jZ iz;go_enter Tryz.func26,Tryz.ntmps26;go_wp2_with fail;obtain⟨W,hW⟩:=x4 ((w.alloc (.cells #[p,r,m,O ea en ec] 30)).alloc (.cells #[H φ 0,H φ 0,H φ 0,O Z 0 0] 30));rw[<-hW];have hw:Below w w W:=by rw[hW];exact((q9).alloc (nlr _) _).alloc (by simp) _
 have aG:W.heap.size=w+2:=by rw[hW];simp
 have q0:W (w+1:Nat)=H φ 0:=by rw[hW];exact zx w _ _ _ 0 rfl
 have q1:W ⟨w+1,1,Z⟩=H φ 0:=by rw[hW];exact zx w _ _ _ 1 rfl
 have q2:W ⟨w+1,2,Z⟩=H φ 0:=by rw[hW];exact zx w _ _ _ 2 rfl
 have q3:W ⟨w+1,3,Z⟩=O Z 0 0:=by rw[hW];exact zx w _ _ _ 3 rfl
 have qz:∀i,W.frozen? ⟨w+1,i,Z⟩=false:=fun i=>by rw[hW];exact vo w _ _ _ i
 have HC:=q4q q0 q1 q2 q3 qz hw aG;clear hW hw aG q0 q1 q2 q3 qz;refine(qb9 ⟨_,rfl,HH.out.1.keep HC.a5,HH.a1⟩ HH.b4 (by omega) hm).mono ?_;rintro e w1 ⟨z1,rfl,dB,ae⟩;obtain⟨t1,rfl,hT,Qx⟩:=dB;obtain⟨ta,tn,tc,rfl⟩:=qg hT;obtain⟨W2,aY⟩:=x4 (w1.alloc (.cells #[p,m,r,O ta tn tc] 30));have aA:Below w1 w1 W2:=by rw[aY];exact(q9).alloc (nlr _) _
 have aj:Below W W W2:=(btr ae aA);have iQ:Below w w W2:=(btr HC.a5 aj);obtain⟨s5,iB⟩:=x4 w1.heap.size;have a0:W2 s5=p:=by rw[aY,iB];exact xz w1 _ _ 0 rfl
 have a1:W2 ⟨s5,1,Z⟩=m:=by rw[aY,iB];exact xz w1 _ _ 1 rfl
 have a2:W2 ⟨s5,2,Z⟩=r:=by rw[aY,iB];exact xz w1 _ _ 2 rfl
 have a3:W2 ⟨s5,3,Z⟩=O ta tn tc:=by rw[aY,iB];exact xz w1 _ _ 3 rfl
 have az:∀i,W2.frozen? ⟨s5,i,Z⟩=false:=fun i=>by rw[aY,iB];exact q6w w1 _ _ i
 have F0:W2=s5+1:=by rw[aY,iB];simp
 have F1:W<=s5:=by rw[iB];exact ae.size
 have H2:=qsr (hT.keep aA) Qx aj iQ a0 a1 a2 a3 az F0 F1 aY iB;clear hT Qx aj iQ a0 a1 a2 a3 az F0 F1 aY aA ae;go_wp2_with fail;rw[<-H2.a11,<-H2.b12];clear iB;go_loopw [7,12] (fun _ x wr=>(x=H φ 0/\wr=W2)\/(x=H φ 1/\Hid (BxV wr s5 p m (r+s) (jl (trM r m X) (trM s m As))/\Below W W wr))) (fun _ x _=>1-(vI x).toNat)
 case atStart=>exact .inl ⟨rfl,rfl⟩
 case round =>
  rcases hrel with ⟨rfl,rfl⟩|⟨rfl,HR⟩
  ·have XL:=J H2.a3 d0;have XM:=J H2.a3 d1;have XN:=J H2.a3 d2;have XO:=J H2.a3 d3;have iz:∀u,Below wr wr u->FmV u (I #[p,s,m,O ya yn yk]) p s m As:=fun u hb=>⟨_,rfl,HH.a2.keep ((btr H2.a3 hb)),HH.a3⟩
   have dH:∀u,Below wr wr u->FmV u (I #[p,m,r,O ta tn tc]) p m r (trM r m X):=fun u hb=>⟨_,rfl,H2.out.1.keep hb,H2.a1⟩
   obtain⟨W3,cH⟩:=x4 (wr.alloc (.cells #[p,s,m,O ya yn yk] 30));have aw:Below wr wr W3:=by rw[cH];exact(q9).alloc (nlr _) _
   obtain⟨s7,lD⟩:=x4 wr.heap.size;have b0:W3 s7=p:=by rw[cH,lD];exact xz wr _ _ 0 rfl
   have b1:W3 ⟨s7,1,Z⟩=s:=by rw[cH,lD];exact xz wr _ _ 1 rfl
   have b2:W3 ⟨s7,2,Z⟩=m:=by rw[cH,lD];exact xz wr _ _ 2 rfl
   have b3:W3 ⟨s7,3,Z⟩=O ya yn yk:=by rw[cH,lD];exact xz wr _ _ 3 rfl
   have a0:=J aw H2.a4;have a1:=J aw H2.a5;have a2:=J aw H2.a6;have a3:=J aw H2.a7;have HK:=kg iz dH aw cH lD;have lE:=yt b0 b1 b2 b3;have Vj:=yt a0 a1 a2 a3;clear iz dH aw cH lD b0 b1 b2 b3 a0 a1 a2 a3;go_wp2_with fail;rw[<-HK.a3,<-HK.b4];obtain⟨b0,b1,b2,b3⟩:=lE.out;obtain⟨a0,a1,a2,a3⟩:=Vj.out
   go_region_with (first
    |(go_at_call 50;refine(qb9 (HK.out.1 W3.drew (HK.a2.trans ((qb q9 1).mono HK.a2.size))) HH.b4 (by omega) hm).mono ?_;rintro e w4 ⟨z4,rfl,tG,aN⟩;have iD:Below W3 W3 w4:=xt (aN.mono (by simp));replace a0:=J iD a0;replace a1:=J iD a1;replace a2:=J iD a2;replace a3:=J iD a3;obtain⟨s8,rfl,Cr,Ey⟩:=tG;obtain⟨ga,gn,gc,rfl⟩:=qg Cr;have Cu:=yh Cr iD Ey;clear Cr Ey iD aN)
    |(go_at_call 28;refine(qop p m r s _ _ (trM r m X) (trM s m As) w4 (H2.out.1.keep ((btr HK.a2 Cu.a1))) Cu.out.1 HH.b4 H2.a1 Cu.b2 hm xA).mono ?_;rintro e w5 ⟨sj,rfl,IH,aC⟩;obtain⟨ja,jc,rfl⟩:=qj IH;obtain⟨jn,ly⟩:=x4 (m*(r+s));rw[<-ly]at IH ⊢;have aS:Below W3.heap.size W3 w5:=(btr Cu.a1 aC);replace a0:=J aC a0;replace a1:=J aC a1;replace a2:=J aC a2;replace a3:=J aC a3;have pQ:Below wr.heap.size wr w5:=(btr HK.a2 aS);have z0:=xf pQ (by have:=H2.a9;show s5<_;omega) (H2.a8 0);have z1:=xf pQ (by have:=H2.a9;show s5<_;omega) (H2.a8 1);have z2:=xf pQ (by have:=H2.a9;show s5<_;omega) (H2.a8 2);have z3:=xf pQ (by have:=H2.a9;show s5<_;omega) (H2.a8 3);have II:=yt IH ly pQ (gd HK.a2.size Cu.a1.size);clear IH ly aS aC pQ))
   all_goals
    go_wp2;go_roundw
    case measure=>simp[vI]
    case rel =>
     obtain⟨t0,t1,t2,t3⟩:=q1f a0 a1 a2 a3;have hs:=H2.a9;have ak:∀b,(O ja jn jc).ownBlock=Y b->b≠s5:=fun b hb=>by have:=(II.out.1.lt b hb).1;have:=II.b3;omega
     refine .inr ⟨rfl,(lhd ⟨⟨ja,jn,jc,t0 _ _ _ _,t1 _ _ _ _,(by rw[Int.natCast_add];exact t2 _ _ _ _),t3 _ _ _ _,Sl.qc (vl II.out.1 ak _ _ _ _),?_⟩,?_⟩)⟩
     ·exact q0u H2.a1 (q8j HH.a3)
     ·exact jj ((btr H2.a2 II.a2)) H2.a10 _ _ _ _
  ·obtain⟨ja,jn,jc,j0,j1,j2,j3,hJ,Mj⟩:=HR.out.1;have hb:=HR.out.2;obtain⟨rs,pR⟩:=x4 (r+s);rw[<-pR]at j2 Mj;have r0:=J hb HC.out.1;have r1:=J hb HC.a1;have r2:=J hb HC.a2;have r3:=J hb HC.a3;have cU:w.heap.size+1<W:=by have:=HC.b6;omega
   have z0:=xf hb cU (HC.a4 0);have z1:=xf hb cU (HC.a4 1);have z2:=xf hb cU (HC.a4 2);have z3:=xf hb cU (HC.a4 3);have HQ:=qsr hb hJ Mj r0 r1 r2 r3 z0 z1 z2 z3 cU pR;clear hb hJ Mj r0 r1 r2 r3 z0 z1 z2 z3 cU pR;go_wp2_with fail;refine(qdn p m rs _ _ wr HQ.a1 HH.b4 HQ.a2 hm (by rw[HQ.b12];exact xA)).mono ?_;rintro e w6 ⟨E,rfl,dr,dN,l8,cQ⟩;obtain⟨_,_,_,r0,r1,r2,r3,z0,z1,z2,z3,cU,pR⟩:=HQ.out
   replace r0:=J cQ r0
   replace r1:=J cQ r1
   replace r2:=J cQ r2
   replace r3:=J cQ r3
   have pT:w.heap.size+1<wr:=by have:=HQ.out.1.size;omega
   replace z0:=xf cQ (by exact pT) z0
   replace z1:=xf cQ (by exact pT) z1
   replace z2:=xf cQ (by exact pT) z2
   replace z3:=xf cQ (by exact pT) z3
   obtain⟨em,lx⟩:=x4 (rs*m);rw[<-lx];have HE:=q5h dr dN l8 cQ cU pR lx pT;clear dr dN l8 cQ cU pR lx pT;go_wp2_with fail;obtain⟨e0,e1,e2,e3⟩:=q1f r0 r1 r2 r3;have fC:=HC.a5;have aG:=HC.b6;have oG:=HQ.out.1.size;have dr:=HE.out.1;refine bodyPost_ret (v:=I #[p,rs,m,O E em em]) (by simp[results,Tryz.results26,go_sem,e0,e1,e2,e3]) rfl ⟨_,by rw[HE.a5],?_,?_⟩
   ·have Vk:FM p (r+s) m (X++As):=HH.a1.app HH.a3;have hI:=HE.a2;rw[HE.a5,qo9 HH.a1 HH.a3]at hI;have lx:em=(r+s)*m:=by rw[HE.a6,HE.a5]
    have Hh:=(((hI.set (w+1:Nat) p (by show w+1≠E;omega)).set ⟨w+1,1,Z⟩ rs (by show w+1≠E;omega)).set ⟨w+1,2,Z⟩ m (by show w+1≠E;omega)).set ⟨w+1,3,Z⟩ (O E em em) (by show w+1≠E;omega);obtain⟨sv,k1,k2,k3⟩:=qbh Hh Vk (by omega) (by omega);refine⟨sv,?_,k2,k3,fun ad n k e=>?_⟩
    ·rw[lx];exact k1
    ·injection k1 with k1;injection k1 with k1
     simp at k1;rw[<-k1]at e;injection e with e;injection e with e
     rw[<-e];show w<=E;omega
   ·exact jj (((btr fC HQ.out.1)).trans (HE.a3.mono (by have:=fC.size;omega))) (by omega) _ _ _ _
