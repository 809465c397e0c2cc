/- Steps towards SequenceChecks. Conditions: none. -/
import Derived.Test.YtmkpbhaoalbhjaaGreatDoorXTb
set_option maxRecDepth 1000000
set_option maxHeartbeats 0
open Go.Value renaming slice→O,agg→I,pointer→σ,bool→τ,int→H
open Option renaming none→Z,some→Y
open Go renaming undef→V,World→δ,Value→ε
open Go.IntKind renaming i64→φ
open Go.Cx renaming keep→J
namespace Go.Cx
open Go.RowKit Go.Proofs.YtmkpbhaoalbhjaaGreatDoor
def qej (l:List Int):List Value:=l.map fun x=>H .u8 x
theorem q7a (l:List Int):(qej l).length=l.length:=by simp[qej]
theorem qu7 {w:δ}{a:Option Addr}{n c:Nat}{l:List Int}(h:Sl w 1 (O a n c) (qej l)){k:Nat}(hk:k<n):∃ad x,a=Y ad/\l[k]? =Y x/\w (ad.add k)=H .u8 x:=by
 obtain⟨h1,h2,h3,h4,h5⟩:=h.open;rw[q7a]at h3;cases a with
 |none=>have:=h4 rfl;omega
 |some ad =>
  obtain⟨x,hx⟩:∃x,l[k]? =Y x:=⟨_,gg (by omega)⟩
  exact⟨ad,x,rfl,hx,h5 ad rfl k _ (by simp[qej,hx])⟩
end Go.Cx
namespace Go.Proofs.YtmkpbhaoalbhjaaGreatDoor
open Go.RowKit Go.Cx
attribute [local go_sem ↓] Go.wp_at_zero Go.wp_at_succ
theorem q92 {w:δ}{q b:Nat}{p:Int}{D:List Int}{da:Option Addr}{dc:Nat}(c0:w q=p)(c1:w ⟨q,1,Z⟩=O da D.length dc)(c2:w ⟨q,2,Z⟩=O Z 0 0)(z:∀i,w.frozen? ⟨q,i,Z⟩=false)(hr:w.ownsRow b 3 1 (O da D.length dc) D.length (ints D))(hq:q<b)(hb:b<=w):kf w q b p D [] da dc Z 0 :=
 ⟨c0,c1,c2,z,hr,World.ownsRow_nil _ _ _ _,(fun b _ e=>by cases e),hq,hb,(fun x hx=>by cases hx),(fun x hx=>by cases hx),(fun x hx=>by cases hx),(fun x hx=>by cases hx)⟩
theorem qso {P:Program}{Q:Exit->Act->δ->Prop}{o:Oper}{a:Act}{w:δ}{K:Act->δ->Prop}(s d:TypeId)(x:Operand)(aX:o.op=.convert s d x)(v1:ε)(h1:a.eval x=v1)(v:ε)(bP:(Go.convert s d v1).run P w=.ok v w)(h:K (a.put o.dst v) w):Oper.wp P o a w K Q:=by subst h1;unfold Oper.wp;simp[execOp,aX,bP,Result.andThen];exact h
theorem qvf {y:Int}(h:0<=y/\y<5)(U:δ):(Go.convert 5 3 (H .u8 y)).run Tryz.prog U=.ok y U:=by have hw:IntKind.i64.wrap y=y:=IntWalk.i64_in _ (by omega);simp[go_sem,hw]
theorem qsp (w:δ)(p:Addr)(x:Int)(h:w p=H .u8 x):(Instr.loadAt 5 (σ (Y p))).run Tryz.prog w=.ok (H .u8 x) w:=by simp[go_sem,h]
theorem qqv (w:δ)(ad:Addr)(n c i:Nat)(hi:i<n):(Instr.indexAt 22 (O (Y ad) n c) i).run Tryz.prog w=.ok (σ (Y (ad.add i))) w:=by
 have h1:(0:Int)<=i:=by omega
 have h2:(i:Int)<n:=by omega
 simp[go_sem,h1,h2]
theorem qj4 {w:δ}{q:Nat}{p:Int}{a b:Option Addr}{n k m d:Nat}(q0:w q=p)(q1:w ⟨q,1,Z⟩=O a n k)(q2:w ⟨q,2,Z⟩=O b m d):(Instr.loadAt 27 (σ q)).run Tryz.prog w=.ok (I #[p,O a n k,O b m d]) w:=by simp[go_sem,q0,q1,q2]
theorem qvx (x y:Operand)(q:Bool)(w:δ):(eqGuard .eql 4 x y (τ q) (τ q)).run Tryz.prog w=.ok () w:=by simp[go_sem,eqGuard]
theorem qvy (q:Bool)(w:δ):(Go.binOp .eql 4 (τ q) (τ q)).run Tryz.prog w=.ok (τ true) w:=by cases q <;> simp[go_sem]
theorem qqw (p:Int):(0<=p->0<=p.tdiv 3/\p.tdiv 3<=p)/\(p<=0->p<=p.tdiv 3/\p.tdiv 3<=0):=by
 constructor
 ·intro h;rw[Int.tdiv_eq_ediv_of_nonneg h];omega
 ·intro h;have h1:p.tdiv 3=-((-p).tdiv 3):=by rw[Int.neg_tdiv,Int.neg_neg]
  rw[h1,Int.tdiv_eq_ediv_of_nonneg (by omega)];omega
def BxR (b:Nat)(w:δ)(q:Nat)(p:Int)(r c n:Nat)(E:List Int):Prop:=∃a k,w q=p/\w ⟨q,1,Z⟩=r/\w ⟨q,2,Z⟩=c/\w ⟨q,3,Z⟩=O a n k/\w.ownsRow b 3 1 (O a n k) n (ints E)/\∀g,(O a n k).ownBlock=Y g->g≠q
theorem BxR.keep {b:Nat}{w w':δ}{q:Nat}{p:Int}{r c n:Nat}{E:List Int}(h:BxR b w q p r c n E)(hb:Below w w w'):BxR b w' q p r c n E:=by obtain⟨a,k,h0,h1,h2,h3,h4,h5⟩:=h;exact⟨a,k,J hb h0,J hb h1,J hb h2,J hb h3,qa h4 hb,h5⟩
theorem qsq {b:Nat}{w w7:δ}{q:Nat}{p:Int}{r c n:Nat}{E:List Int}{ud:Addr}{k Eb j:Nat}{x:Int}(sV:ud=Eb)(g0:w q=p)(g1:w ⟨q,1,Z⟩=r)(g2:w ⟨q,2,Z⟩=c)(g3:w ⟨q,3,Z⟩=O (Y ud) n k)(fi:w.ownsRow b 3 1 (O (Y ud) n k) n (ints E))(tZ:∀g,(O (Y ud) n k).ownBlock=Y g->g≠q)(hb:Below w w w7) :
  BxR b (w7.setCell (ud.add j) x) q p r c n (E.set j x):=by
 subst sV;have ah:q≠Eb:=fun e=>tZ Eb rfl e.symm
 rw[Addr.add_lit,Nat.zero_add];have h5:=((qa fi hb).stored j x).1;rw[show (ints E).set j x=ints (E.set j x) by simp[ints,List.map_set]]at h5;exact⟨_,k,xe (J hb g0) ah,xe (J hb g1) ah,xe (J hb g2) ah,xe (J hb g3) ah,h5,tZ⟩
theorem kf.qu8 {w w0 w':δ}{q b:Nat}{p:Int}{D:List Int}{L:List Fc}{y:Fc}{da ma:Option Addr}{dc mc:Nat}(h:kf w q b p D L da dc ma mc){g cap:Nat}(hk:Below w w w0)(hy:Sl w 1 (O y.a y.n y.k) (ints y.E))(yq:Apx y q)(yd:∀g,(O da D.length dc).ownBlock=Y g->Apx y g)(ym:∀g,(O ma L.length mc).ownBlock=Y g->Apx y g)
  (hr:w'.ownsRow b 30 4 (O (Y ⟨g,0,Z⟩) (L.length+1) cap) (L.length+1) (cat Fc.enc L++y.enc)) (hg:w0.grownBy w' (O ma L.length mc).ownBlock) (hl:(O ma L.length mc).ownBlock=Y g\/w<=g) (hB:Below b w w') :
  kf (w'.setCell ⟨q,2,Z⟩ (O (Y ⟨g,0,Z⟩) (L.length+1) cap)) q b p D (L++[y]) da dc (Y ⟨g,0,Z⟩) cap:=by
 have e:(L++[y]).length=L.length+1:=by simp
 have eQ:=h.lt;have ao:∀x∈L++[y],Sl w 1 (O x.a x.n x.k) (ints x.E)/\Apx x q/\(∀g,(O da D.length dc).ownBlock=Y g->Apx x g)/\∀g,(O ma L.length mc).ownBlock=Y g->Apx x g:=fun x hx=>by
  rcases gO.1 hx with hx|hx
  ·exact⟨h.mx x hx,h.mq x hx,h.md x hx,h.mm x hx⟩
  ·rw[List.mem_singleton]at hx;subst hx;exact⟨hy,yq,yd,ym⟩
 refine⟨x8 ((hB.cell (by exact eQ)).trans h.c0) (by simp),x8 ((hB.cell (by exact eQ)).trans h.c1) (by simp),?_,fun i=>?_,?_,?_,fun x hx=>?_,eQ,?_,fun x hx=>?_,fun x hx=>(ao x hx).2.1,fun x hx=>(ao x hx).2.2.1,fun x hx g' tf=>?_⟩
 ·rw[e];exact World.cell?_setCell_same' _ _ _ (by rw[(hB.cell (by exact eQ)).trans h.c2];rfl)
 ·rw[World.frozen?_setCell];exact(hB.frozen (by exact eQ)).trans (h.z i)
 ·refine qji ((qa h.rd hk).kept hg ?_) (fun x hx=>by have:=(h.rd.lt x hx).1;show x≠q;omega) _;cases hm:(O da D.length dc).ownBlock with
  |none=>exact .inl rfl
  |some k=>exact .inr fun e=>h.ap k hm e.symm
 ·rw[e,q2e,q99];exact qji hr (fun x hx=>by have:=(hr.lt x hx).1;show x≠q;omega) _
 ·intro e2;have e2:g=x:=by injection e2
  subst e2;rcases hl with hl|hl
  ·exact h.ap g hx hl
  ·have:=(h.rd.lt g hx).2;omega
 ·have h1:=hg.size;have h2:=h.bs;have h3:=hk.size;simp only [World.size_setCell];omega
 ·refine qhm (ao x hx).1 fun ad ha hE p u hp hc=>?_
  refine xe (hg.cell (J hk hc) fun e2=>?_) (by rw[hp];exact(ao x hx).2.1 hE ad ha);exact(ao x hx).2.2.2 p.block e2.symm hE ad ha hp.symm
 ·have tf:g=g':=by injection tf
  subst tf;rcases hl with hl|hl
  ·exact(ao x hx).2.2.2 g hl
  ·exact qhn (ao x hx).1 hl
theorem qqx {w:δ}{b n:Nat}(hb:b<=w)(hn:n<=maxLen):(w.alloc (.cells (madeCells #[H φ 0] n) 3)).ownsRow b 3 1 (O w n n) n (ints (List.replicate n 0)):=by have h:=(Rw.made (heap_alloc_new w (.cells (madeCells #[H φ 0] n) 3))).own (n:=n) (b:=b) (by rw[List.length_replicate];exact nlr _) hb (by rw[List.length_replicate];exact hn);rw[List.length_replicate,gr (by rw[List.length_replicate];exact nlr _)]at h;exact h
theorem qu9 {P:Program}{Q:Exit->Act->δ->Prop}{o:Oper}{a:Act}{w:δ}{K:Act->δ->Prop}(t:TypeId)(x y:Operand)(aX:o.op=.makeSlice t x y)(v1 v2:ε)(h1:a.eval x=v1)(h2:a.eval y=v2)(v:ε)(w':δ)(bP:(Instr.makeSlice t v1 v2).run P w=.ok v w')(h:K (a.put o.dst v) w'):Oper.wp P o a w K Q:=by subst h1 h2;unfold Oper.wp;simp[execOp,aX,bP,Result.andThen];exact h
theorem qj5 (p:Int):(0<=p->0<=p.tdiv 2/\p.tdiv 2<=p)/\(p<=0->p<=p.tdiv 2/\p.tdiv 2<=0):=by
 constructor
 ·intro h;rw[Int.tdiv_eq_ediv_of_nonneg h];omega
 ·intro h;have h1:p.tdiv 2=-((-p).tdiv 2):=by rw[Int.neg_tdiv,Int.neg_neg]
  rw[h1,Int.tdiv_eq_ediv_of_nonneg (by omega)];omega
theorem qj6 (p:Int)(v u:ε)(ds ss:List Int)(w:δ)(ip:I64 p)(hd:Sl w 1 v (qej ds))(eG:∀x∈ds,0<=x/\x<=255)(hs:Sl w 1 u (ints ss))(nG:∀x∈ss,I64 x) :
  Calls Tryz.prog 3 #[p,v,u] w fun e w'=>e=.returned (τ true)/\Below w w w':=by
 obtain⟨va,vn,vc,rfl⟩:=qg hd;obtain⟨ua,un,uc,rfl⟩:=qg hs;have mR:vn=ds.length:=by have:=hd.open.2.2.1;rw[q7a]at this;omega
 have tP:un=ss.length:=by have:=hs.open.2.2.1;rw[xl]at this;omega
 have Ya:vn<=9223372036854775807:=by have h1:=hd.open.1;have h2:=hd.open.2.1;unfold maxLen at h2;omega
 have Yb:un<=9223372036854775807:=by have h1:=hs.open.1;have h2:=hs.open.2.1;unfold maxLen at h2;omega
 have HH:=q4q ip hd eG hs nG mR tP;clear ip hd eG hs nG mR tP;go_enter Tryz.func3,Tryz.ntmps3;go_wp2_with fail;refine(qkm w).mono ?_;rintro e w1 ⟨rfl,ae⟩;obtain⟨q8,fU⟩:=x4 w1.heap.size;obtain⟨W,hW⟩:=x4 (w1.alloc (.cells #[p,O Z 0 0,O Z 0 0] 27));have c0:W q8=p:=by rw[hW,fU];exact xz w1 _ _ 0 rfl
 have c1:W ⟨q8,1,Z⟩=O Z 0 0:=by rw[hW,fU];exact xz w1 _ _ 1 rfl
 have c2:W ⟨q8,2,Z⟩=O Z 0 0:=by rw[hW,fU];exact xz w1 _ _ 2 rfl
 have cz:∀i,W.frozen? ⟨q8,i,Z⟩=false:=fun i=>by rw[hW,fU];exact q6w w1 _ _ i
 have dx:Below q8 w1 W:=by rw[hW,fU];exact(q9).alloc (nlr _) _
 have aG:q8+1=W:=by rw[hW,fU];simp
 have HW:=qan c0 c1 c2 cz dx aG hW fU ae;clear c0 c1 c2 cz dx aG hW fU ae;obtain⟨r2,cE⟩:∃r,p.tmod 2=r:=⟨_,rfl⟩
 obtain⟨b2,aj⟩:∃b,(r2 == 0)=b:=⟨_,rfl⟩
 go_upto_if 20 with fail
 rw[<-HW.a6,<-HW.a7]
 go_cut []from 21 to 24 (fun wx=>∃P:Int,Hid (kf wx q8 (q8+1) P [] [] Z 0 Z 0/\Below q8 W wx))
 case first =>
  rename_i At K2 hJ aQ;cases b2 with
  |true =>
   have nV:∀U:δ,(Go.binOp .quo 3 p (H φ 2)).run Tryz.prog U=.ok (p.tdiv 2:Int) U:=fun U=>qjm (by decide) (IntWalk.i64_in _ (by have h1:=HH.out.1;unfold I64 at h1;have h2:=qj5 p;omega)) U
   obtain⟨p2,jL⟩:=x4 (p.tdiv 2);rw[<-jL]at nV;have fB:IntKind.i64.wrap (p.tdiv 2)=p2:=by rw[jL];exact IntWalk.i64_in _ (by have h1:=HH.out.1;unfold I64 at h1;have h2:=qj5 p;omega)
   clear jL;go_wp2_with fail;refine(qsn p2 W).mono ?_;rintro e w2 ⟨P,rfl,wg⟩;have c0:=J wg HW.out.1;have z0:=xf wg (by have:=HW.a5;show q8<_;omega) (HW.a3 0);have H2:=lhd wg;clear wg;go_wp2_with fail
   go_meet
   have h1:=J H2.out HW.a1;have h2:=J H2.out HW.a2;have hz:=fun i=>xf H2.out (show (⟨q8,i,Z⟩ : Addr).block<W by have:=HW.a5;show q8<_;omega) (HW.a3 i)
   have hs:=H2.out.size;have cU:=HW.a5;have hm:kf (w2.setCell q8 P) q8 (q8+1) P [] [] Z 0 Z 0:=q92 (D:=[]) (World.cell?_setCell_same' _ _ _ (by rw[c0];rfl)) (x8 h1 (by simp)) (x8 h2 (by simp)) (fun i=>by rw[World.frozen?_setCell];exact hz i) (World.ownsRow_nil _ _ _ _) (Nat.lt_succ_self _) (by simp only [World.size_setCell];omega);have hb:Below q8 W (w2.setCell q8 P):=(H2.out.mono (show q8<=W by omega)).setCell (p:=q8) (nlr _) _;exact⟨P,(lhd ⟨hm,hb⟩)⟩
  |false =>
   go_wp2_with fail
   go_meet
   have hm:kf W q8 (q8+1) p [] [] Z 0 Z 0:=q92 (D:=[]) HW.out.1 HW.a1 HW.a2 HW.a3 (World.ownsRow_nil _ _ _ _) (Nat.lt_succ_self _) (by have:=HW.a5;omega);exact⟨p,(lhd ⟨hm,q9⟩)⟩
 case rest =>
  obtain⟨P,H3⟩:=hcut;obtain⟨w3,IB⟩:=x4 wc;subst IB;have G1:Below w w w3:=by have h1:=HW.b8;have h2:Below q8 w1 w3:=HW.a4.trans H3.out.2;exact h1.trans (h2.mono (by rw[HW.a7];exact h1.size))
  have pI:w<=q8:=by rw[HW.a7];exact HW.b8.size
  have G3:=jg G1 pI;clear G1 pI aj cE;go_wp2_with fail;go_loopw [9] (fun x wr=>∃(k:Nat) (D:List Int) (da:Option Addr) (dc:Nat),x=k/\k<=vn/\k<=8/\Hid (D.length=k)/\Hid (∀x∈D,0<=x/\x<5)/\Hid (kf wr q8 (q8+1) P D [] da dc Z 0)/\Hid (Below q8 w3 wr)) (fun x _=>8-(vI x).toNat)
  case atStart=>exact⟨0,[],Z,0,rfl,gm _,by omega,(lhd rfl),(lhd (fun x hx=>by cases hx)),(lhd H3.out.1),(lhd q9)⟩
  case round =>
   obtain⟨k,D,da,dc,rfl,BO,Wg,HL,HD,HS,HB⟩:=hrel;have lT:IntKind.i64.wrap ((k:Int)+1)=((k+1:Nat):Int):=IntWalk.i64_in _ (by omega);by_cases tk:k<vn/\k<8
   ·have dy:=tk.1;have Yc:=tk.2;have cV:(k:Int)<vn:=by omega
    have MT:(k:Int)<8:=by omega
    clear tk;have bQ:Below w w wr:=G3.out.1.trans (HB.out.mono G3.out.2);obtain⟨vd,x,rfl,hx,Ih⟩:=qu7 HH.a1 dy;have Wh:(vd.add k).block<q8+1:=by have:=World.block_lt_of_cell? _ _ Ih;have:=G3.out.2;omega
    have d0:=J bQ Ih;clear Ih;obtain⟨lS,Wi⟩:=HH.a2 x (gi hx);obtain⟨y,hy⟩:=x4 (x%5);have DB:0<=y/\y<5:=by omega
    have kX:x.tmod 5=y:=by rw[Int.tmod_eq_emod_of_nonneg lS,hy]
    have MU:∀U:δ,(Go.binOp .rem 5 (H .u8 x) (H .u8 5)).run Tryz.prog U=.ok (H .u8 y) U:=fun U=>by simp[go_sem,kX]
    have c1:=HS.out.c1;have z1:=HS.out.z 1;have al:=HS.out.rd;obtain⟨dl,aP⟩:=x4 D.length;rw[<-aP]at c1 al;have HX:=kg al HS.out.bs aP DB z1;clear hx lS Wi hy kX al aP DB z1 bQ;have nC:∀U:δ,(Go.convert 5 3 (H .u8 y)).run Tryz.prog U=.ok y U:=fun U=>qvf (by have:=HX.a3;omega) U
    go_wp2_with fail;refine qp4 fun KO cD=>?_
    go_cut []from 35 to 45 (fun wx=>∃(w2:δ) (fa:Option Addr) (fc:Nat),Hid (w2.ownsRow (q8+1) 3 1 (O fa (dl+1) fc) (dl+1) (ints D++ints [y])/\Below (q8+1) wr w2)/\wx=w2.setCell ⟨q8,1,Z⟩ (O fa (dl+1) fc))
    case first =>
     rename_i At K2 hJ aQ;refine yg (by kernel_rfl) (VF [Y (σ (Y ⟨q8,1,Z⟩)),Y (O da dl dc),Y (O (Y vd) vn vc),Y (k:Int),Y (σ (Y (vd.add k))),Y (H .u8 x),Y (H .u8 y),Y y,Z,Z,Y (σ (Y ⟨q8,1,Z⟩)),Z]) [8,9] (fun vs w2=>Below (q8+1) wr w2/\match vs with|[]=>w2.ownsRow (q8+1) 3 1 (O da dl dc) dl (ints D)|[v]=>Sl w2 1 v (ints [y])/\w2.ownsRow (q8+1) 3 1 (O da dl dc) dl (ints D)|[_,v]=>w2.ownsRow (q8+1) 3 1 v (dl+1) (ints D++ints [y])|_=>False) 11 20 124 rfl (by kernel_rfl) (by kernel_rfl) (by decide) (by kernel_rfl) (by kernel_rfl) (by kernel_rfl) (by decide) (by decide) (fun a w2=>K2 a w2) ?start8 ?pure8 ?eff8 ?last8 ?done8
     case start8=>exact⟨qb (Below.refl _ wr) 1,HX.out.1.drew⟩
     case pure8 =>
      intro i o ho hL hE a w' vs hT ai hd ab hsz;have Wj:=(hT.1.cell (p:=⟨q8,1,Z⟩) (Nat.lt_succ_self _)).trans c1;have Wk:=(hT.1.cell (p:=vd.add k) Wh).trans d0
      match i,ho,hL,hE,ai,hd with
      |0,rfl,_,_,_,_ =>exact yb rfl (zr qu ab 8) (vw _ _ _ (by decide)) (gone rfl)
      |1,rfl,_,_,_,hd =>exact jm rfl (j8 hd 0) (yy _ _ _ _ _ (Wj)) (gone rfl)
      |2,rfl,_,_,_,_ =>exact jo (.inl rfl) ⟨_,rfl,fun _ h=>(zr qu ab 1).trans (osi h),rfl⟩
      |3,rfl,_,_,_,_ =>exact jo (.inl rfl) ⟨_,rfl,fun _ h=>(zr qu ab 9).trans (osi h),rfl⟩
      |4,rfl,_,_,_,hd =>exact q4r rfl (j8 hd 2) (j8 hd 3) (qqv _ _ _ _ _ dy) (gone rfl)
      |5,rfl,_,_,_,hd =>exact jm rfl (j8 hd 4) (qsp _ _ _ (Wk)) (gone rfl)
      |6,rfl,_,_,_,hd =>exact q0n rfl (j8 hd 5) rfl rfl (MU _) (gone rfl)
      |7,rfl,_,_,_,hd =>exact⟨rfl,gu _,qso _ _ _ rfl _ (j8 hd 6) _ (nC _) (gone rfl)⟩
      |8,ho,hL,hE,ai,hd =>exact absurd (by decide) hE
      |9,ho,hL,hE,ai,hd =>exact absurd (by decide) hE
      |10,rfl,_,_,_,_ =>exact yb rfl (zr qu ab 8) (vw _ _ _ (by decide)) (gone rfl)
      |11,ho,hL,hE,ai,hd =>exact absurd rfl hL
      |i+12,ho,hL,hE,ai,hd =>have:i+12<12:=(gh.1 ho).1;omega
     case eff8 =>
      intro s i o hs ho a w' vs hl hT hd hr ab hsz
      match s,hs,hr,hl with
      |0,hs,hr,hl =>obtain rfl:=osi hs;obtain rfl:=osi ho;obtain rfl:=gl hl;have f7:a 42 V=y:=j8 hd 7;have hle:=gd HX.a1 hT.1.size;exact⟨rfl,q5z _ _ _ rfl #[(0,y)] (by rw[<-f7];simp[Act.eval]) _ _ (qv2 y w') ⟨_,rfl,hT.1.alloc hle _,qla y w',hT.2.alloc _⟩⟩
      |1,hs,hr,hl =>obtain rfl:=osi hs;obtain rfl:=osi ho;obtain⟨v1,rfl⟩:=List.length_eq_one_iff.1 hl;have f1:a 36 V=O da dl dc:=j8 hd 1;have f8:a 43 V=v1:=hr 0 8 _ _ rfl rfl rfl (by decide);exact⟨rfl,qfe _ _ 23 rfl (q8+1) 3 Tryz.xg Tryz.underlying23 rfl (by decide) (by decide) _ dl _ f1 hT.2.2 v1 1 (ints [y]) f8 hT.2.1 rfl (q65 _) (by have:=HX.a2;have:=HL.out;omega) (gd HX.a1 hT.1.size) fun v' w2 h1 h2=>⟨v',rfl,hT.1.trans h2,h1⟩⟩
      |s+2,hs,hr,hl=>cases hs
     case last8 =>intro o ho a w' vs hsz aO hl hT hf hr ab;obtain rfl:=osi ho;obtain⟨v1,v2,rfl⟩:=q51 hl;obtain⟨fa,fc,iI⟩:=qj hT.2;have g0:a 45 V=σ (Y ⟨q8,1,Z⟩):=hf 10 _ _ rfl rfl (by kernel_rfl) (by decide) _ rfl;have g1:a 44 V=O fa (dl+1) fc:=(hr 1 9 _ _ rfl rfl rfl).trans iI;have DX:=hT.2;rw[iI]at DX;refine⟨rfl,ju _ _ _ rfl _ _ g0 g1 (qbs _ _ _ _ _ _ ((hT.1.cell (p:=⟨q8,1,Z⟩) (Nat.lt_succ_self _)).trans c1) ((hT.1.frozen (p:=⟨q8,1,Z⟩) (Nat.lt_succ_self _)).trans HX.b4)) ?_⟩;refine aQ _ _ (Met.intro (hJ _ _ ⟨a 35 V,a 36 V,a 37 V,a 38 V,a 39 V,a 40 V,a 41 V,a 42 V,a 43 V,a 44 V,a 45 V,⟨w',fa,fc,(lhd ⟨DX,hT.1⟩),rfl⟩,(q8z hsz aO ab).trans ?_⟩));kernel_rfl
     case done8=>exact fun _ _ h=>h
    case rest =>
     obtain⟨w2,fa,fc,H5,rfl⟩:=hcut;refine cD _ _ ?_;go_wp2;go_roundw
     case measure=>simp[vI];omega
     case rel =>
      have aF:=H5.out.2;have cU:=aF.size;have hq:=HX.a1;have hz:=fun i=>(aF.frozen (p:=⟨q8,i,Z⟩) (Nat.lt_succ_self _)).trans (HS.out.z i)
      have hc:=fun (i:Nat) (x:ε) (hx:wr ⟨q8,i,Z⟩=Y x)=>(aF.cell (p:=⟨q8,i,Z⟩) (Nat.lt_succ_self _)).trans hx
      have hlen:(D++[y]).length=dl+1:=by rw[gw,<-HX.a2];rfl
      have hm:kf (w2.setCell ⟨q8,1,Z⟩ (O fa (dl+1) fc)) q8 (q8+1) P (D++[y]) [] fa fc Z 0:=by
       refine q92 (x8 (hc 0 _ HS.out.c0) (by simp)) ?_ (x8 (hc 2 _ HS.out.c2) (by simp)) (fun i=>by rw[World.frozen?_setCell];exact hz i) ?_ (Nat.lt_succ_self _) (by simp only [World.size_setCell];omega)
       ·rw[hlen];exact World.cell?_setCell_same' _ _ _ (by rw[hc 1 _ HS.out.c1];rfl)
       ·rw[hlen,vk];exact qji H5.out.1 (fun b hb=>by have:=(H5.out.1.lt b hb).1;show b≠q8;omega) _
      have Wl:Below q8 w3 (w2.setCell ⟨q8,1,Z⟩ (O fa (dl+1) fc)):=(HB.out.trans (aF.mono (Nat.le_succ _))).setCell (p:=⟨q8,1,Z⟩) (nlr _) _;exact⟨k+1,D++[y],fa,fc,qh (by omega),by omega,by omega,(lhd (show (D++[y]).length=k+1 by rw[hlen];have h1:=HX.a2;have h2:=HL.out;omega)),(lhd (fun x hx=>by
       rcases gO.1 hx with hx|hx
       ·exact HD.out x hx
       ·rw[List.mem_singleton]at hx;rw[hx];exact HX.a3)),(lhd hm),(lhd Wl)⟩
   ·obtain⟨w4,oA⟩:=x4 wr;subst oA;have Wm:=lhd tk;clear tk;go_upto_region 6 with fail
    go_cut [32]from 25 to 31 (fun x wx=>x=τ false/\wx=w4)
    case first =>
     by_cases dy:k<vn
     ·have cV:(k:Int)<vn:=by omega
      have MT:¬(k:Int)<8:=by have:=Wm.out;omega
      go_wp2_with fail
      go_meet
      exact⟨rfl,rfl⟩
     ·have cV:¬(k:Int)<vn:=by omega
      go_wp2_with fail
      go_meet
      exact⟨rfl,rfl⟩
    case rest =>
     obtain⟨rfl,rfl⟩:=hcut;obtain⟨w4,oA⟩:=x4 wc;subst oA;obtain⟨dl,aP⟩:=x4 D.length;have Wn:dl<=8:=by rw[aP,HL.out];exact Wg
     have H4:=yt HS.out HB.out HD.out aP;clear aP HL HD HS HB lT;go_wp2_with fail;go_loopw [10,11,12,13,14,84] (fun x y _ _ _ _ wr=>∃(at0 kn:Nat) (L:List Fc) (la:Option Addr) (lc:Nat),x=at0/\y=kn/\at0<=16*kn/\kn<=8/\Hid (kf wr q8 (q8+1) P D L da dc la lc)/\Hid (L.length=kn)/\Hid (Below q8 w4 wr)) (fun _ y _ _ _ _ _=>8-(vI y).toNat)
     case atStart=>exact⟨0,0,[],Z,0,rfl,rfl,by omega,by omega,(lhd H4.out.1),(lhd rfl),(lhd q9)⟩
     case round =>
      obtain⟨at0,kn,L,la,lc,rfl,rfl,bY,MV,HS,QM,HB⟩:=hrel;have lT:IntKind.i64.wrap ((kn:Int)+1)=((kn+1:Nat):Int):=IntWalk.i64_in _ (by omega);obtain⟨k1,cJ⟩:=x4 (kn+1);rw[<-cJ]at lT;have c1:=HS.out.c1;have wh:Below w w wr:=G3.out.1.trans ((H4.a1.trans HB.out).mono G3.out.2);rw[<-H4.b3]at c1;by_cases nt:k1<dl
      ·have Fu:(k1:Int)<dl:=by omega
       have hg:∀i,i<dl->∃m:Nat,m<=4/\D.getD i 0=(m:Int):=fun i hi=>by
        have pY:i<D.length:=by rw[<-H4.b3];exact hi
        have h1:=H4.a2 (D.getD i 0) (by rw[gb,gg pY];exact List.getElem_mem pY);exact⟨(D.getD i 0).toNat,by omega,by omega⟩
       obtain⟨r,kT,hr⟩:=hg k1 nt;have wi:kn<dl:=by omega
       obtain⟨c,nZ,hc⟩:=hg kn wi;have kZ:=HS.out.rd;rw[<-H4.b3]at kZ;obtain⟨iS,QN,e0⟩:=q6o (Sl.qc kZ) wi;obtain⟨sX,Bb,e1⟩:=q6o (Sl.qc kZ) nt;obtain rfl:iS=sX:=by rw[QN]at Bb;injection Bb
       subst QN;rw[hc]at e0;rw[hr]at e1;obtain⟨cr,tW⟩:=x4 (c*r);have Wo:cr<=16:=by rw[tW];exact gd (Nat.mul_le_mul nZ kT) (by decide)
       have Wp:IntKind.i64.wrap ((c:Int)*(r:Int))=(cr:Int):=by rw[tW];exact kd (by omega) (by omega)
       have c0:=HS.out.c0;have jM:=fun U=>qjh cr (by omega) U
       have H5:=yt wh cJ hc hr;have Wq:=yt c0 c1 e0 e1;clear hg kZ Bb hc hr wh cJ c0 c1 e0 e1 tW;obtain⟨c0,c1,e0,e1⟩:=Wq.out;go_wp2_with fail
       go_cut [12]from 54 to 80 (fun x wx=>∃q:Nat,x=σ q/\Hid (BxR wr wx q P r c cr (List.replicate cr 0)/\wr<=q/\Below wr wr wx))
       case first =>
        rename_i At K2 hJ aQ;refine vf rfl (fun b i v w'=>match b,i with
         |false,0=>v=σ q8
         |false,1=>v=P
         |false,2=>v=σ (Y ⟨q8,1,Z⟩)
         |false,3=>v=O (Y iS) dl dc
         |false,4=>v=(kn:Int)
         |false,5=>v=(k1:Int)
         |false,6=>v=σ (Y (iS.add k1))
         |false,7=>v=(r:Int)
         |false,8=>v=σ (Y ⟨q8,1,Z⟩)
         |false,9=>v=O (Y iS) dl dc
         |false,10=>v=(kn:Int)
         |false,11=>v=σ (Y (iS.add kn))
         |false,12=>v=(c:Int)
         |false,13=>v=σ (Y ⟨q8,1,Z⟩)
         |false,14=>v=O (Y iS) dl dc
         |false,15=>v=(kn:Int)
         |false,16=>v=σ (Y (iS.add kn))
         |false,17=>v=(c:Int)
         |false,18=>v=σ (Y ⟨q8,1,Z⟩)
         |false,19=>v=O (Y iS) dl dc
         |false,20=>v=(kn:Int)
         |false,21=>v=(k1:Int)
         |false,22=>v=σ (Y (iS.add k1))
         |false,23=>v=(r:Int)
         |false,24=>v=(cr:Int)
         |false,25=>w'.ownsRow wr 3 1 v cr (ints (List.replicate cr 0))
         |false,26=>∃s,v=I #[P,r,c,s]/\w'.ownsRow wr 3 1 s cr (ints (List.replicate cr 0))
         |false,27=>q6q v w'/\∃q,v=σ (Y ⟨q,0,Z⟩)/\wr<=q
         |true,27=>∃q,v=σ (Y ⟨q,0,Z⟩)/\BxR wr w' q P r c cr (List.replicate cr 0)/\wr<=q
         |_,_=>True) (fun _=>false) bkT [] (fun _ v=>v) (by kernel_rfl) 28 124 rfl (by kernel_rfl) (by kernel_rfl) (by decide) rfl ?keep13 ?step13 ?store13 ?done13
        case keep13 =>
         intro b i v w1 w2 h hb
         match b,i,h with
         |false,0,h=>exact h
         |false,1,h=>exact h
         |false,2,h=>exact h
         |false,3,h=>exact h
         |false,4,h=>exact h
         |false,5,h=>exact h
         |false,6,h=>exact h
         |false,7,h=>exact h
         |false,8,h=>exact h
         |false,9,h=>exact h
         |false,10,h=>exact h
         |false,11,h=>exact h
         |false,12,h=>exact h
         |false,13,h=>exact h
         |false,14,h=>exact h
         |false,15,h=>exact h
         |false,16,h=>exact h
         |false,17,h=>exact h
         |false,18,h=>exact h
         |false,19,h=>exact h
         |false,20,h=>exact h
         |false,21,h=>exact h
         |false,22,h=>exact h
         |false,23,h=>exact h
         |false,24,h=>exact h
         |false,25,h=>exact qa h hb
         |false,26,⟨s,h1,h2⟩=>exact⟨s,h1,qa h2 hb⟩
         |false,27,⟨h1,h2⟩=>exact⟨h1.keep hb,h2⟩
         |false,i+28,h=>trivial
         |true,0,h=>trivial
         |true,1,h=>trivial
         |true,2,h=>trivial
         |true,3,h=>trivial
         |true,4,h=>trivial
         |true,5,h=>trivial
         |true,6,h=>trivial
         |true,7,h=>trivial
         |true,8,h=>trivial
         |true,9,h=>trivial
         |true,10,h=>trivial
         |true,11,h=>trivial
         |true,12,h=>trivial
         |true,13,h=>trivial
         |true,14,h=>trivial
         |true,15,h=>trivial
         |true,16,h=>trivial
         |true,17,h=>trivial
         |true,18,h=>trivial
         |true,19,h=>trivial
         |true,20,h=>trivial
         |true,21,h=>trivial
         |true,22,h=>trivial
         |true,23,h=>trivial
         |true,24,h=>trivial
         |true,25,h=>trivial
         |true,26,h=>trivial
         |true,27,⟨q,h1,h2,h3⟩=>exact⟨q,h1,h2.keep hb,h3⟩
         |true,28,h=>trivial
         |true,i+29,h=>trivial
        case step13 =>
         intro i o ho aD ph b w' bU hbf hw hd ab hsz
         match i,ho,aD,bU,hbf,hd with
         |0,rfl,_,_,hbf,_ =>obtain rfl:=jb hbf;exact yb rfl (zr qu ab 8) (vw _ _ _ (by decide)) ⟨_,rfl,rfl,j7 q9 rfl rfl⟩
         |1,rfl,_,_,hbf,hd =>obtain rfl:=jb hbf;exact jm rfl (zf hd 0) (qe0 _ _ _ (J hw c0)) ⟨_,rfl,rfl,j7 q9 rfl rfl⟩
         |2,rfl,_,_,hbf,_ =>obtain rfl:=jb hbf;exact yb rfl (zr qu ab 8) (vw _ _ _ (by decide)) ⟨_,rfl,rfl,j7 q9 rfl rfl⟩
         |3,rfl,_,_,hbf,hd =>obtain rfl:=jb hbf;exact jm rfl (zf hd 2) (yy _ _ _ _ _ (J hw c1)) ⟨_,rfl,rfl,j7 q9 rfl rfl⟩
         |4,rfl,_,_,hbf,_ =>obtain rfl:=jb hbf;exact jo (.inl rfl) ⟨_,rfl,(zr qu ab 11),j7 q9 rfl rfl⟩
         |5,rfl,_,_,hbf,hd =>obtain rfl:=jb hbf;exact q0n rfl (zf hd 4) rfl rfl (q1u lT _) ⟨_,rfl,rfl,j7 q9 rfl rfl⟩
         |6,rfl,_,_,hbf,hd =>obtain rfl:=jb hbf;exact q4r rfl (zf hd 3) (zf hd 5) (q0w _ _ _ _ _ nt) ⟨_,rfl,rfl,j7 q9 rfl rfl⟩
         |7,rfl,_,_,hbf,hd =>obtain rfl:=jb hbf;exact jm rfl (zf hd 6) (qe0 _ _ _ (J hw e1)) ⟨_,rfl,rfl,j7 q9 rfl rfl⟩
         |8,rfl,_,_,hbf,_ =>obtain rfl:=jb hbf;exact yb rfl (zr qu ab 8) (vw _ _ _ (by decide)) ⟨_,rfl,rfl,j7 q9 rfl rfl⟩
         |9,rfl,_,_,hbf,hd =>obtain rfl:=jb hbf;exact jm rfl (zf hd 8) (yy _ _ _ _ _ (J hw c1)) ⟨_,rfl,rfl,j7 q9 rfl rfl⟩
         |10,rfl,_,_,hbf,_ =>obtain rfl:=jb hbf;exact jo (.inl rfl) ⟨_,rfl,(zr qu ab 11),j7 q9 rfl rfl⟩
         |11,rfl,_,_,hbf,hd =>obtain rfl:=jb hbf;exact q4r rfl (zf hd 9) (zf hd 10) (q0w _ _ _ _ _ wi) ⟨_,rfl,rfl,j7 q9 rfl rfl⟩
         |12,rfl,_,_,hbf,hd =>obtain rfl:=jb hbf;exact jm rfl (zf hd 11) (qe0 _ _ _ (J hw e0)) ⟨_,rfl,rfl,j7 q9 rfl rfl⟩
         |13,rfl,_,_,hbf,_ =>obtain rfl:=jb hbf;exact yb rfl (zr qu ab 8) (vw _ _ _ (by decide)) ⟨_,rfl,rfl,j7 q9 rfl rfl⟩
         |14,rfl,_,_,hbf,hd =>obtain rfl:=jb hbf;exact jm rfl (zf hd 13) (yy _ _ _ _ _ (J hw c1)) ⟨_,rfl,rfl,j7 q9 rfl rfl⟩
         |15,rfl,_,_,hbf,_ =>obtain rfl:=jb hbf;exact jo (.inl rfl) ⟨_,rfl,(zr qu ab 11),j7 q9 rfl rfl⟩
         |16,rfl,_,_,hbf,hd =>obtain rfl:=jb hbf;exact q4r rfl (zf hd 14) (zf hd 15) (q0w _ _ _ _ _ wi) ⟨_,rfl,rfl,j7 q9 rfl rfl⟩
         |17,rfl,_,_,hbf,hd =>obtain rfl:=jb hbf;exact jm rfl (zf hd 16) (qe0 _ _ _ (J hw e0)) ⟨_,rfl,rfl,j7 q9 rfl rfl⟩
         |18,rfl,_,_,hbf,_ =>obtain rfl:=jb hbf;exact yb rfl (zr qu ab 8) (vw _ _ _ (by decide)) ⟨_,rfl,rfl,j7 q9 rfl rfl⟩
         |19,rfl,_,_,hbf,hd =>obtain rfl:=jb hbf;exact jm rfl (zf hd 18) (yy _ _ _ _ _ (J hw c1)) ⟨_,rfl,rfl,j7 q9 rfl rfl⟩
         |20,rfl,_,_,hbf,_ =>obtain rfl:=jb hbf;exact jo (.inl rfl) ⟨_,rfl,(zr qu ab 11),j7 q9 rfl rfl⟩
         |21,rfl,_,_,hbf,hd =>obtain rfl:=jb hbf;exact q0n rfl (zf hd 20) rfl rfl (q1u lT _) ⟨_,rfl,rfl,j7 q9 rfl rfl⟩
         |22,rfl,_,_,hbf,hd =>obtain rfl:=jb hbf;exact q4r rfl (zf hd 19) (zf hd 21) (q0w _ _ _ _ _ nt) ⟨_,rfl,rfl,j7 q9 rfl rfl⟩
         |23,rfl,_,_,hbf,hd =>obtain rfl:=jb hbf;exact jm rfl (zf hd 22) (qe0 _ _ _ (J hw e1)) ⟨_,rfl,rfl,j7 q9 rfl rfl⟩
         |24,rfl,_,_,hbf,hd =>obtain rfl:=jb hbf;exact q0n rfl (zf hd 17) (zf hd 23) rfl (q2d Wp _) ⟨_,rfl,rfl,j7 q9 rfl rfl⟩
         |25,rfl,aD,bU,hbf,hd =>obtain rfl:=jb hbf;exact⟨rfl,gu _,qu9 _ _ _ rfl _ _ (zf hd 24) (zf hd 24) _ _ (jM w') ⟨_,rfl,qqx hw.size (by unfold maxLen;omega),(q9).alloc (nlr _) _,fun h=>absurd h (by decide),fun c hc=>absurd hc gP⟩⟩
         |26,rfl,_,_,hbf,hd =>obtain rfl:=jb hbf;have f79:w'.ownsRow wr 3 1 (b 79 V) cr (ints (List.replicate cr 0)):=zf hd 25;obtain⟨sa,sc,QO⟩:=qj f79;have Ks:b 55 V=P:=zf hd 1;have Ws:b 61 V=(r:Int):=zf hd 7;have Wt:b 66 V=(c:Int):=zf hd 12;rw[QO]at f79;exact⟨rfl,gu _,qh5 _ _ rfl #[(0,P),(1,r),(2,c),(3,O sa cr sc)] (by rw[<-Ks,<-Ws,<-Wt,<-QO];simp[Act.eval]) _ (run_build _ _ _ _ (qj3 _ _ _ _ _ _)) ⟨_,rfl,⟨_,rfl,f79⟩,j7 q9 rfl rfl⟩⟩
         |27,rfl,_,_,hbf,_ =>obtain rfl:=jb hbf;exact⟨rfl,gu _,vt _ rfl _ _ (q07 _) ⟨_,rfl,⟨q7x _,_,rfl,hw.size⟩,(q9).alloc (nlr _) _,fun h=>absurd h (by decide),fun c hc=>absurd hc gP⟩⟩
         |28,ho,aD,bU,hbf,hd=>exact absurd rfl aD
         |i+29,ho,aD,bU,hbf,hd =>have:i+29<29:=(gh.1 ho).1;omega
        case store13 =>
         intro o ho l b w' aP bW ag;obtain rfl:=osi ho;have fA:q6q (b 12 V) w'/\∃q,b 12 V=σ (Y ⟨q,0,Z⟩)/\wr<=q:=by have h1:=ag.fact 27 _ _ rfl rfl (aP 27 (by kernel_rfl));rw[bW]at h1;exact h1
         have f0:∃s,b 80 V=I #[P,r,c,s]/\w'.ownsRow wr 3 1 s cr (ints (List.replicate cr 0)):=by have h1:=ag.fact 26 _ _ rfl rfl (aP 26 (by kernel_rfl));rw[bW]at h1;exact h1
         obtain⟨s,Wu,hs⟩:=f0;obtain⟨so,sc,rfl⟩:=qj hs;obtain⟨⟨q,eA,hq⟩,q',iC,dA⟩:=fA;have iW:q'=q:=by rw[eA]at iC;injection iC with e;injection e with e;injection e with e;exact e.symm
         rw[iW]at dA;have ah:=qlw hq hs;obtain⟨q0,q1,q2,q3,hz⟩:=q68 hq;obtain⟨t0,t1,t2,t3⟩:=q1f q0 q1 q2 q3;refine⟨rfl,ju _ _ _ rfl _ _ eA Wu (vx q0 q1 q2 q3 hz) ⟨rfl,?_,by simp,fun i oi di hi eI hl=>?_⟩⟩
         ·exact jj ag.below dA _ _ _ _
         ·have h1:=ag.fact i oi di hi eI hl;rw[bW]at h1
          match i,hi,hl,h1 with
          |27,hi,hl,h1 =>obtain rfl:=osi hi;obtain rfl:=osi eI;rw[eA];exact⟨q,rfl,⟨_,_,t0 _ _ _ _,t1 _ _ _ _,t2 _ _ _ _,t3 _ _ _ _,vl hs ah _ _ _ _,ah⟩,dA⟩
          |0,hi,hl,h1=>trivial
          |1,hi,hl,h1=>trivial
          |2,hi,hl,h1=>trivial
          |3,hi,hl,h1=>trivial
          |4,hi,hl,h1=>trivial
          |5,hi,hl,h1=>trivial
          |6,hi,hl,h1=>trivial
          |7,hi,hl,h1=>trivial
          |8,hi,hl,h1=>trivial
          |9,hi,hl,h1=>trivial
          |10,hi,hl,h1=>trivial
          |11,hi,hl,h1=>trivial
          |12,hi,hl,h1=>trivial
          |13,hi,hl,h1=>trivial
          |14,hi,hl,h1=>trivial
          |15,hi,hl,h1=>trivial
          |16,hi,hl,h1=>trivial
          |17,hi,hl,h1=>trivial
          |18,hi,hl,h1=>trivial
          |19,hi,hl,h1=>trivial
          |20,hi,hl,h1=>trivial
          |21,hi,hl,h1=>trivial
          |22,hi,hl,h1=>trivial
          |23,hi,hl,h1=>trivial
          |24,hi,hl,h1=>trivial
          |25,hi,hl,h1=>trivial
          |26,hi,hl,h1=>trivial
          |28,hi,hl,h1=>trivial
          |i+29,hi,hl,h1=>trivial
        case done13 =>intro b w2 hsz aO hf ab hw;obtain⟨q,gA,gB,gq⟩:∃q,b 12 V=σ (Y ⟨q,0,Z⟩)/\BxR wr w2 q P r c cr (List.replicate cr 0)/\wr<=q:=hf 27 _ _ rfl rfl;refine aQ _ _ (Met.intro (hJ _ _ ⟨b 12 V,b 54 V,b 55 V,b 56 V,b 57 V,b 58 V,b 59 V,b 60 V,b 61 V,b 62 V,b 63 V,b 64 V,b 65 V,b 66 V,b 67 V,b 68 V,b 69 V,b 70 V,b 71 V,b 72 V,b 73 V,b 74 V,b 75 V,b 76 V,b 77 V,b 78 V,b 79 V,b 80 V,⟨q,gA,(lhd ⟨gB,gq,hw⟩)⟩,(q8z hsz aO ab).trans ?_⟩));kernel_rfl
       case rest =>
        obtain⟨QP,rfl,H6⟩:=hcut;obtain⟨w6,sw⟩:=x4 wc;subst sw;clear c0 c1 e0 e1 jM;obtain⟨ma,mk,g0,g1,g2,g3,fi,tZ⟩:=H6.out.1;have Yd:=kg g0 g1 g2 fi tZ;clear g0 g1 g2 fi tZ;obtain⟨wo,eE⟩:=x4 wr;subst eE;go_wp2_with fail;clear g3;go_loopw [10,13,14,84] (fun x _ _ y wr=>∃(mL j:Nat) (E:List Int),x=mL/\y=j/\mL<=at0+j/\j<=cr/\Hid (BxR wo wr QP P r c cr E)/\Hid (E.length=cr)/\Hid (Below wo wo wr)) (fun _ _ _ y _=>cr-(vI y).toNat)
        case atStart=>exact⟨at0,0,List.replicate cr 0,rfl,rfl,by omega,gm _,(lhd H6.out.1),(lhd List.length_replicate),(lhd H6.b2)⟩
        case round =>
         obtain⟨mL,j,E,rfl,rfl,rS,hj,HX,IW,cX⟩:=hrel;have bQ:Below w w wr:=(btr H5.out.1 cX.out);have wX:IntKind.i64.wrap ((j:Int)+1)=((j+1:Nat):Int):=IntWalk.i64_in _ (by omega);have D4:IntKind.i64.wrap ((mL:Int)+1)=((mL+1:Nat):Int):=IntWalk.i64_in _ (by omega);obtain⟨j1,uu⟩:=x4 (j+1);obtain⟨a1,oW⟩:=x4 (mL+1);rw[<-uu]at wX;rw[<-oW]at D4;have HJ:=jg uu oW;clear uu oW;by_cases QQ:j<cr
         ·have pk:(j:Int)<cr:=by omega
          by_cases uT:0<un
          ·have Wv:(0:Int)<(un:Int):=by omega
           have Ww:(un:Int)≠0:=by omega
           obtain⟨m,hm⟩:=x4 (mL%un:Nat);have I3:m<un:=by rw[hm];exact Nat.mod_lt _ uT
           have wm:((mL:Int)).tmod (un:Int)=(m:Int):=by rw[Int.tmod_eq_emod_of_nonneg (by omega),hm];simp
           have TG:(m:Int)<un:=by omega
           obtain⟨Ye,n,Wx,hn,d0⟩:=q00 (HH.a3.keep bQ) I3;subst Wx;have uH:=HH.a4 n (gi hn);obtain⟨n3,JQ⟩:∃z,n.tmod 3=z:=⟨_,rfl⟩
           have HN:=lhd uH;clear hm hn uH;by_cases hz:n3=0
           ·have Wy:n.tmod 3=0:=JQ.trans hz;clear JQ hz;have mZ:IntKind.i64.wrap (n.tdiv 3)=n.tdiv 3:=IntWalk.i64_in _ (by have h1:=HN.out;unfold I64 at h1;have h2:=qqw n;omega);obtain⟨nd,oR⟩:=x4 (n.tdiv 3);rw[<-oR]at mZ;obtain⟨tg,mk',g0,g1,g2,g3,fi,tZ⟩:=HX.out;obtain⟨Eb,ec,hv,dr,dN,Ca,LZ,l8⟩:=qgm fi (by omega);have Fj:tg=Eb:=by injection hv
            obtain⟨ud,sV⟩:=x4 (Eb:Addr);rw[<-sV]at Fj;subst Fj;obtain⟨oj,QR⟩:∃o,E[j]? =Y o:=⟨_,gg (by rw[IW.out];exact QQ)⟩
            obtain⟨x0,x1⟩:=l8 j oj QR;rw[show (⟨Eb,j,Z⟩ : Addr)=ud.add j by rw[sV,Addr.add_lit,Nat.zero_add]]at x0 x1;have HR:=qan fi tZ sV g0 g1 g2 dr oR g3;clear fi tZ hv dr dN Ca LZ l8 sV QR oR g0 g1 g2 bQ;have hqn:∀U:δ,(Go.binOp .quo 3 n (H φ 3)).run Tryz.prog U=.ok nd U:=fun U=>qjm (by decide) (by rw[<-HR.a7];exact mZ) U
            go_wp2_with fail;refine qp4 fun KO cD=>?_
            go_cut []from 100 to 106 (fun wx=>∃w2:δ,Hid (Below wr wr w2)/\wx=w2.setCell (ud.add j) (nd%3:Int))
            case first =>
             rename_i At K2 hJ aQ;refine q01 rfl (fun i v w'=>match i with
              |0=>v=σ (Y ⟨QP,3,Z⟩)
              |1=>v=O (Y ud) cr mk'
              |2=>v=(j:Int)
              |3=>v=n
              |4=>v=nd
              |5=>v=(nd%3:Int)
              |6=>v=σ (Y (ud.add j))
              |_=>True) (fun _=>false) bkT [] (fun _ v=>v) (by kernel_rfl) 7 20 124 rfl (by kernel_rfl) (by kernel_rfl) (by kernel_rfl) ?keep20 ?step20 ?mid20
             case keep20 =>
              intro i v w1 w2 h hb
              match i,h with
              |0,h=>exact h
              |1,h=>exact h
              |2,h=>exact h
              |3,h=>exact h
              |4,h=>exact h
              |5,h=>exact h
              |6,h=>exact h
              |i+7,h=>trivial
             case step20 =>
              intro i o ho aD b w' hw hd ab hsz
              match i,ho,hd with
              |0,rfl,_ =>exact yb rfl (zr je ab 12) (jv _ _ _ (by decide)) ⟨_,rfl,rfl,j7 q9 rfl rfl⟩
              |1,rfl,hd =>exact jm rfl (zf hd 0) (yy _ _ _ _ _ (J hw g3)) ⟨_,rfl,rfl,j7 q9 rfl rfl⟩
              |2,rfl,_ =>exact jo (.inl rfl) ⟨_,rfl,(zr je ab 13),j7 q9 rfl rfl⟩
              |3,rfl,_ =>exact jo (.inl rfl) ⟨_,rfl,(zr je ab 14),j7 q9 rfl rfl⟩
              |4,rfl,hd =>exact q0n rfl (zf hd 3) rfl rfl (hqn _) ⟨_,rfl,rfl,j7 q9 rfl rfl⟩
              |5,rfl,hd =>
               have MW:b 104 V=nd:=(zf hd 4)
               exact q0e rfl #[nd,H φ 3] (by rw[<-MW];simp[Act.eval]) ((qub nd 3 w' (by decide) (by decide)).mono fun e w2 h=>⟨_,h.1,_,rfl,rfl,h.2,fun h=>absurd h (by decide),fun c hc h=>absurd h ((by decide:∀c∈([] : List (Nat×Nat)),c.1≠5) c hc)⟩)
              |6,rfl,hd =>exact q4r rfl (zf hd 1) (zf hd 2) (q0w _ _ _ _ _ QQ) ⟨_,rfl,rfl,j7 q9 rfl rfl⟩
              |i+7,ho,hd =>omega
             case mid20 =>
              intro b9 w2 hsz aO hf ab hw fD _;have f6:b9 106 V=σ (Y (ud.add j)):=hf 6 _ _ rfl rfl (by decide);have f5:b9 105 V=(nd%3:Int):=hf 5 _ _ rfl rfl (by decide);have y0:=J hw x0;have y1:=xf hw (World.block_lt_of_cell? _ _ x0) x1;refine⟨fun k a1 u1=>match k with|0=>a1=b9/\u1=w2|_=>a1=b9/\u1=w2.setCell (ud.add j) (nd%3:Int),⟨rfl,rfl⟩,fun k o ho a1 u1 h1=>?_,fun a1 u1 h1=>?_⟩
              ·match k,ho,h1 with
               |0,ho,⟨h1,h2⟩ =>subst h1 h2;obtain rfl:=osi ho;exact⟨rfl,ju _ _ _ rfl _ _ f6 f5 (q6j _ _ _ _ y0 y1) ⟨rfl,rfl⟩⟩
               |k+1,ho,h1 =>have:7+(k+1)<8:=(gh.1 ho).1;omega
              ·obtain⟨rfl,rfl⟩ : a1=b9/\u1=w2.setCell (ud.add j) (nd%3:Int):=h1;refine aQ _ _ (Met.intro (hJ _ _ ⟨a1 100 V,a1 101 V,a1 102 V,a1 103 V,a1 104 V,a1 105 V,a1 106 V,⟨w2,(lhd hw),rfl⟩,(q8z hsz aO fun s hs=>ab s fun i o _ ho=>hs i o ho).trans ?_⟩));kernel_rfl
            case rest =>
             obtain⟨w7,H7,rfl⟩:=hcut;refine cD _ _ ?_;clear x0 x1 g3 d0;go_wp2_with fail;go_roundw
             case measure=>simp[vI];have:=HJ.out.1;omega
             case rel =>
              refine⟨mL+1,j+1,E.set j (nd%3),qh (by have:=HJ.out.2;omega),qh (by have:=HJ.out.1;omega),by omega,by omega,(show Hid _ from ?_),(lhd (by rw[List.length_set];exact IW.out)),(lhd (((btr cX.out H7.out)).setCell ?_ _))⟩
              ·exact qsq HR.a2 HR.a3 HR.a4 HR.a5 HR.b8 HR.out.1 HR.a1 H7.out
              ·rw[HR.a2,Addr.add_lit];exact HR.a6
           ·have HZ:=lhd hz;have de:(n3 == 0)=false:=by simpa using hz
            clear bQ;go_wp2_with fail;go_roundw
            case measure=>simp[vI];have:=HJ.out.1;omega
            case rel=>exact⟨mL+1,j+1,E,qh (by have:=HJ.out.2;omega),qh (by have:=HJ.out.1;omega),by omega,by omega,HX,IW,cX⟩
          ·have Wv:¬(0:Int)<(un:Int):=by omega
           clear bQ;go_wp2_with fail;go_roundw
           case measure=>simp[vI];have:=HJ.out.1;omega
           case rel=>exact⟨mL,j+1,E,rfl,qh (by have:=HJ.out.1;omega),by omega,by omega,HX,IW,cX⟩
         ·have pk:¬(j:Int)<cr:=by omega
          obtain⟨tg,mk',g0,g1,g2,g3,fi,tZ⟩:=HX.out;have pX:=HS.out.keep cX.out;have c2:=pX.c2;obtain⟨ll,aW⟩:=x4 L.length;rw[<-aW]at c2;have l7:=pX.rm;rw[<-aW]at l7;have oG:=pX.bs;have z2:=pX.z 2;have th:∀u∈[H φ P,r,c,O tg cr mk'],u.oneCell'=true:=fun u hu=>by simp only [List.mem_cons,List.not_mem_nil,or_false]at hu;rcases hu with rfl|rfl|rfl|rfl <;> rfl
          have Wz:ll<=8:=by rw[aW,QM.out];exact MV
          have nQ:mL<=16*(kn+1):=by omega
          have HM:=kp pX l7 th fi aW nQ;have W8:=lhd z2;clear pX l7 th fi tZ aW z2 bQ;go_wp2_with (at_builtin;refine q0p (W:=wr) rfl _ _ 25 rfl (q8+1) 30 Tryz.qqg Tryz.underlying25 rfl (by decide) (by decide) _ ll (cat Fc.enc L) rfl HM.a1 [P,r,c,O tg cr mk'] rfl rfl HM.a2 (by omega) q9 oG ?_);intro g cap w' hr hg hl hB;have iN:w' ⟨q8,2,Z⟩=O la ll lc:=(hB.cell (p:=⟨q8,2,Z⟩) (Nat.lt_succ_self _)).trans c2;have Yf:w'.frozen? ⟨q8,2,Z⟩=false:=(hB.frozen (p:=⟨q8,2,Z⟩) (Nat.lt_succ_self _)).trans W8.out;have HA:=yt hr hg hl hB;clear hr hg hl hB c2 g0 g1 g2 g3 oG;go_wp2_with fail;go_roundw
          case measure=>simp[vI];have:=H5.a1;omega
          case rel =>
           have hr:=HA.out.1;have hg:=HA.a1;have hl:=HA.a2;have hB:=HA.b3;have aW:=HM.a4;have D8:=HM.out.1;have hsz:=cX.out.size;have G9:∀ad,tg=Y ad->wo<=ad.block:=fun ad e=>(HM.a3.lt ad.block (by rw[e];rfl)).1
           have WA:q8<wo:=by have:=HS.out.bs;omega
           have Bc:=D8.qu8 (y:=⟨P,r,c,tg,cr,mk',E⟩) (w':=w') (g:=g) (cap:=cap) ((Below.refl wr wr).alloc (nlr _) _) (Sl.qc HM.a3) (fun _ ad e=>by have:=G9 ad e;omega) (fun g hg _ ad e=>by have:=G9 ad e;have:=(HS.out.rd.lt g hg).2;omega) (fun g hg _ ad e=>by have:=G9 ad e;have:=(HS.out.rm.lt g hg).2;omega) (by rw[<-aW];exact hr) (by rw[<-aW];exact hg) (by rw[<-aW];exact hl.imp_right fun e=>by rw[e];simp) hB;rw[<-aW]at Bc;have Ap:Below q8 w4 (w'.setCell ⟨q8,2,Z⟩ (O g (ll+1) cap)):=((HB.out.trans (cX.out.mono (Nat.le_of_lt WA))).trans (hB.mono (Nat.le_succ _))).setCell (p:=⟨q8,2,Z⟩) (nlr _) _;obtain⟨y9,WB⟩:=x4 (⟨P,r,c,tg,cr,mk',E⟩ : Fc);rw[<-WB]at Bc;have WC:(L++[y9]).length=kn+1:=by rw[gw,QM.out];rfl
           exact⟨mL,kn+1,L++[y9],Y ⟨g,0,Z⟩,cap,rfl,qh (by have:=H5.a1;omega),nQ,by omega,(lhd Bc),(lhd WC),(lhd Ap)⟩
      ·have Fu:¬(k1:Int)<dl:=by omega
       have HF:=jg wh cJ;clear wh cJ;have c0:=HS.out.c0;have c2:=HS.out.c2;obtain⟨ll,aW⟩:=x4 L.length;rw[<-aW]at c2;obtain⟨ex,hex⟩:=x4 (exB P D (L.map Fc.q));have MX:∀u,Below wr wr u->SqV u (I #[P,O da dl dc,O la ll lc]) P D L:=fun u hb=>by
        have h1:=(HS.out.keep hb)
        have h2:=h1.rd;have h3:=h1.rm;rw[<-H4.b3]at h2;rw[<-aW]at h3;exact⟨_,_,rfl,Sl.qc h2,Sl.qc h3,h1.mx⟩
       have dr:∀u,Below wr wr u->Calls Tryz.prog 7 #[I #[P,O da dl dc,O la ll lc]] u fun e w'=>e=.returned (τ ex)/\Below u.heap.size u w':=fun u hb=>by rw[hex];exact qlx (MX u hb)
       have dN:∀u,Below wr wr u->Calls Tryz.prog 8 #[I #[P,O da dl dc,O la ll lc]] u fun e w'=>e=.returned (τ ex)/\Below u.heap.size u w':=fun u hb=>by rw[hex];exact qu3 (MX u hb)
       have HE:=jg dr dN;have WD:=yh c0 c1 c2;clear aW hex MX dr dN c0 c1 c2;obtain⟨c0,c1,c2⟩:=WD.out;go_wp2_with fail
       go_cut [6]from 116 to 123 (fun x wx=>x=τ true/\Hid (Below wr wr wx))
       case first =>
        rename_i At K2 hJ aQ;refine q0m rfl (fun i v w'=>match i with
         |0=>v=τ true
         |1=>v=τ true
         |2=>v=I #[P,O da dl dc,O la ll lc]
         |3=>v=τ ex
         |4=>v=I #[P,O da dl dc,O la ll lc]
         |5=>v=τ ex
         |6=>v=τ true
         |7=>v=τ true
         |8=>v=τ true
         |_=>True) 124 rfl (by kernel_rfl) (by kernel_rfl) ?keep ?step ?done
        case keep =>
         intro i v w1 w2 h hb
         match i,h with
         |0,h=>exact h
         |1,h=>exact h
         |2,h=>exact h
         |3,h=>exact h
         |4,h=>exact h
         |5,h=>exact h
         |6,h=>exact h
         |7,h=>exact h
         |8,h=>exact h
         |i+9,h=>trivial
        case step =>
         intro i o ho b w' hw hd ab hsz
         match i,ho,hd with
         |0,rfl,_ =>exact⟨rfl,q1b _ (.inl rfl) ⟨_,rfl,(zr qu ab 7),q9⟩⟩
         |1,rfl,hd =>exact⟨rfl,q1b _ (.inl rfl) ⟨_,rfl,(zf hd 0),q9⟩⟩
         |2,rfl,hd =>exact⟨gwt 1 117 (zf hd 1),q8o _ _ rfl _ (zr qu ab 8) _ (qj4 (J hw c0) (J hw c1) (J hw c2)) ⟨_,rfl,rfl,q9⟩⟩
         |3,rfl,hd =>
          have AU:b 118 V=I #[P,O da dl dc,O la ll lc]:=(zf hd 2)
          exact⟨gwt 1 117 (zf hd 1),qdj _ _ _ rfl (fun _ _=>rfl) #[I #[P,O da dl dc,O la ll lc]] (by rw[<-AU];simp[Act.eval]) ((HE.out.1 w' hw).mono fun e w2 h=>⟨_,h.1,_,rfl,rfl,h.2⟩)⟩
         |4,rfl,hd =>exact⟨gwt 1 117 (zf hd 1),q8o _ _ rfl _ (zr qu ab 8) _ (qj4 (J hw c0) (J hw c1) (J hw c2)) ⟨_,rfl,rfl,q9⟩⟩
         |5,rfl,hd =>
          have AV:b 120 V=I #[P,O da dl dc,O la ll lc]:=(zf hd 4)
          exact⟨gwt 1 117 (zf hd 1),qdj _ _ _ rfl (fun _ _=>rfl) #[I #[P,O da dl dc,O la ll lc]] (by rw[<-AV];simp[Act.eval]) ((HE.out.2 w' hw).mono fun e w2 h=>⟨_,h.1,_,rfl,rfl,h.2⟩)⟩
         |6,rfl,hd =>exact⟨gwt 1 117 (zf hd 1),qnf _ _ _ _ _ rfl _ _ (zf hd 3) (zf hd 5) _ (qvx _ _ _ _) (qvy _ _) ⟨_,rfl,rfl,q9⟩⟩
         |7,rfl,hd =>exact⟨rfl,qka _ _ _ rfl (zf hd 1) ⟨_,rfl,(zf hd 6),q9⟩⟩
         |8,rfl,hd =>exact⟨rfl,q1b _ (.inr rfl) ⟨_,rfl,(zf hd 7),q9⟩⟩
         |i+9,ho,hd =>have:i+9<9:=(gh.1 ho).1;omega
        case done =>intro b w2 hsz aO hf ab hw;have g6:b 6 V=τ true:=hf 8 _ _ rfl rfl;refine aQ _ _ (Met.intro (hJ _ _ ⟨b 6 V,b 116 V,b 117 V,b 118 V,b 119 V,b 120 V,b 121 V,b 122 V,b 123 V,⟨g6,(lhd hw)⟩,(q8z hsz aO ab).trans ?_⟩));kernel_rfl
       case rest =>obtain⟨rfl,H9⟩:=hcut;go_wp2_with fail;go_ret;exact⟨rfl,(btr HF.out.1 H9.out)⟩
open Go.ChangeShapes Go.WideShapes
theorem wfB {n:Int}(h:(Lit.int .u8 n).wf=true):0<=n/\n<=255:=by have h1:IntKind.u8.min=0:=rfl;have h2:IntKind.u8.max=255:=rfl;simp only [Lit.wf,Bool.and_eq_true,decide_eq_true_eq]at h;omega
theorem q7a (l:List Int):(qej l).length=l.length:=by unfold qej;exact gp ..
theorem qqy (l:List Int)(i:Nat)(h:i<l.length):(qej l)[i]? =H .u8 (l.getD i 0):=by unfold qej;rw[List.getElem?_map,gg h];simp[List.getD_eq_getElem?_getD,h]
theorem qns {Eq:Type}{enc:TypeId×ε->Eq}{W:δ}{t e:TypeId}{fuel:Nat}{v:ε}{x:DataW Eq×List MemPlace}(ht:Tryz.prog.underlying t=Y (.slice e))(he:Tryz.prog.underlying e=Y (.int .u8))(ce:Tryz.prog.cellsOf e=1)(h:DataW.trod enc Tryz.prog W 0 (fun _=>true) true fuel t [v]=Y x):∃l:List Int,Sl W 1 v (qej l)/\∀x∈l,0<=x/\x<=255:=by
 rcases open_ints ht he ce h with ⟨h1,_⟩|⟨a,len,cap,zs,h1,_,hl,hm,hz,_,hc,hw⟩
 ·simp only [List.cons.injEq,and_true]at h1;subst h1;exact⟨[],Sl.nil _ _,fun x hx=>by cases hx⟩
 ·simp only [List.cons.injEq,and_true]at h1;subst h1;simp only [if_true]at hz;refine⟨zs.take len,⟨Y a,len,cap,rfl,hl,by omega,by rw[q7a,gD];omega,(fun e=>by cases e),fun ad ha j u hj=>?_⟩,fun x hx=>wfB (hw x (gX hx))⟩;cases ha
  have eV:j<(zs.take len).length:=by
   have:=(gk.1 hj).1
   rwa [q7a]at this
  rw[qqy _ _ eV]at hj;cases hj
  rw[gD]at eV;rw[hc j (by omega)];simp[List.getD_eq_getElem?_getD,show j<len by omega]
