/- Steps towards SequenceChecks. Conditions: none. -/
import Derived.Test.YtmkpbhaoalbhjaaGreatDoorXRt
set_option maxRecDepth 1000000
set_option maxHeartbeats 0
open Go.Value renaming slice→O,agg→I,pointer→σ,int→H,tuple→ψ
open Option renaming none→Z,some→Y
open Go renaming undef→V,World→δ,Value→ε
open Go.IntKind renaming i64→φ
open Go.Cx renaming keep→J
namespace Go.Proofs.YtmkpbhaoalbhjaaGreatDoor
open Go.RowKit Go.Cx
attribute [local go_sem ↓] Go.wp_at_zero Go.wp_at_succ
def Zl (u:ε):Prop:=u=O Z 0 0\/u=H φ 0
theorem qls {w w':δ}{st q:Nat}{v:ε}{xs:List ε}(h:Sl w st v xs)(hq:∀p u,p.block=q->w p=Y u->Zl u)(hw:∀p u,p.block≠q->w p=Y u->w' p=Y u)(h0:∀u,xs[0]? =Y u->¬Zl u):Sl w' st v xs:=by
 obtain⟨a,n,c,rfl,h2,h3,h4,h5,h6⟩:=h;refine⟨a,n,c,rfl,h2,h3,h4,h5,fun ad bR j u hj=>hw _ _ (fun e=>?_) (h6 ad bR j u hj)⟩;have hb:∀j,(ad.add j).block=ad.block:=fun j=>by unfold Addr.add;split <;> rfl
 have ak:=(gk.1 hj).1;obtain⟨u0,uT⟩:∃u0,xs[0]? =Y u0:=⟨_,gg (by omega)⟩
 exact h0 u0 uT (hq _ u0 (by rw[hb,<-hb j];exact e) (h6 ad bR 0 u0 uT))
theorem Kx.zero {w w':δ}{v:ε}{K:List Cl}{q:Nat}(h:Kx w v K)(hq:∀p u,p.block=q->w p=Y u->Zl u)(hw:∀p u,p.block≠q->w p=Y u->w' p=Y u):Kx w' v K:=by
 have G:=h.q1v;obtain⟨l,s,h1,h2,h3,h4,h5,h6⟩:=h;have hid:∀y∈l,y.id≠0/\∀z∈y.s,z.c≠0:=fun y hy=>by
  have hc:(Cl.canon y.cl)∈canon (l.map Ce.cl):=by unfold canon;exact gj.2 ⟨y.cl,(q2m _ _).2 (gj.2 ⟨y,hy,rfl⟩),rfl⟩
  rw[h6]at hc;refine⟨fun e=>?_,fun z hz e=>?_⟩
  ·have:0<y.id:=G.pos _ hc;omega
  ·obtain⟨x,hx,dW,_⟩:=G.sub _ hc z ((q2m _ _).2 hz);have:=G.pos x hx;omega
 refine⟨l,s,h1,⟨qls h2.1 hq hw fun u hu=>?_,fun y hy=>qls (h2.2 y hy) hq hw fun u hu=>?_⟩,h3,h4,h5,h6⟩
 ·cases l with
  |nil=>simp[cat]at hu
  |cons y l =>rw[q22]at hu;simp[Ce.enc]at hu;subst hu;have:=(hid y (by simp)).1;simp[Zl,this]
 ·cases hs:y.s with
  |nil=>rw[hs]at hu;simp[cat]at hu
  |cons z t =>rw[hs,q22]at hu;simp[Sd.enc]at hu;subst hu;have:=(hid y hy).2 z (by rw[hs];simp);simp[Zl,this]
def CvV (w:δ)(v:ε)(p:Int)(A B M U:List Cl):Prop:=∃aa an ac ba bn bc ma mn mc ua un uc,v=I #[O aa an ac,O ba bn bc,O ma mn mc,O ua un uc,p]/\Kx w (I #[O aa an ac]) A/\Kx w (I #[O ba bn bc]) B/\Kx w (I #[O ma mn mc]) M/\Kx w (I #[O ua un uc]) U
structure Ops (A B M U:List Cl):Prop where
 un:qcs A B=Y U
 me:qky A B=M
 cu:Cx.chk U=(0,0)
 cm:Cx.chk M=(0,0)
 ku:canon U=U
 km:canon M=M
 few:∀d,nId U d<=100
def q76 (w:δ)(q:Nat)(a b c d e:ε):World:=((((w.setCell q a).setCell ⟨q,1,Z⟩ b).setCell ⟨q,2,Z⟩ c).setCell ⟨q,3,Z⟩ d).setCell ⟨q,4,Z⟩ e
theorem qe2 {w:δ}{q:Nat}(hq:w.heap[q]? =Y (.cells #[O Z 0 0,O Z 0 0,O Z 0 0,O Z 0 0,H φ 0] 57 (0,0))) :
  w q=O Z 0 0/\w ⟨q,1,Z⟩=O Z 0 0/\w ⟨q,2,Z⟩=O Z 0 0/\w ⟨q,3,Z⟩=O Z 0 0/\w ⟨q,4,Z⟩=H φ 0:=by
 refine⟨?_,?_,?_,?_,?_⟩ <;> simp[World.cell?,hq]
theorem qiy {w:δ}{q:Nat}{p:Int}{a b m u:Option Addr}{an ac bn bc mn mc un uc:Nat}(hq:w.heap[q]? =Y (.cells #[O Z 0 0,O Z 0 0,O Z 0 0,O Z 0 0,H φ 0] 57 (0,0))) :
  (Instr.storeAt 57 (σ q) (I #[O a an ac,O b bn bc,O m mn mc,O u un uc,p])).run Tryz.prog w=.ok () (q76 w q (O a an ac) (O b bn bc) (O m mn mc) (O u un uc) p):=by
 obtain⟨q0,q1,q2,q3,q4⟩:=qe2 hq;have f:=jz hq;have f0:=f 0;have f1:=f 1;have f2:=f 2;have f3:=f 3;have f4:=f 4;unfold q76;simp[go_sem,q0,q1,q2,q3,q4,f0,f1,f2,f3,f4]
theorem qe4 {w:δ}{q:Nat}(hq:w.heap[q]? =Y (.cells #[O Z 0 0,O Z 0 0,O Z 0 0,O Z 0 0,H φ 0] 57 (0,0)))(a b c d e:ε) :
  (q76 w q a b c d e) q=Y a/\(q76 w q a b c d e) ⟨q,1,Z⟩=Y b/\(q76 w q a b c d e) ⟨q,2,Z⟩=Y c/\(q76 w q a b c d e) ⟨q,3,Z⟩=Y d/\(q76 w q a b c d e) ⟨q,4,Z⟩=Y e:=by
 obtain⟨q0,q1,q2,q3,q4⟩:=qe2 hq;unfold q76;refine⟨?_,?_,?_,?_,?_⟩
 ·exact x8 (x8 (x8 (x8 (World.cell?_setCell_same' _ _ _ (by rw[q0];rfl)) (by simp)) (by simp)) (by simp)) (by simp)
 ·exact x8 (x8 (x8 (World.cell?_setCell_same' _ _ _ (by rw[x8 q1 (by simp)];rfl)) (by simp)) (by simp)) (by simp)
 ·exact x8 (x8 (World.cell?_setCell_same' _ _ _ (by rw[x8 (x8 q2 (by simp)) (by simp)];rfl)) (by simp)) (by simp)
 ·exact x8 (World.cell?_setCell_same' _ _ _ (by rw[x8 (x8 (x8 q3 (by simp)) (by simp)) (by simp)];rfl)) (by simp)
 ·exact World.cell?_setCell_same' _ _ _ (by rw[x8 (x8 (x8 (x8 q4 (by simp)) (by simp)) (by simp)) (by simp)];rfl)
theorem qjx {w:δ}{q:Nat}{a b c d e:ε}{p:Addr}{u:ε}(hp:p.block≠q)(h:w p=Y u):(q76 w q a b c d e) p=Y u:=by unfold q76;exact xe (xe (xe (xe (xe h hp) hp) hp) hp) hp
theorem qe5 {B q:Nat}{w w':δ}(h:Below B w w')(hq:B<=q)(a b c d e:ε):Below B w (q76 w' q a b c d e):=by unfold q76;exact((((h.setCell (p:=q) hq _).setCell (p:=⟨q,1,Z⟩) hq _).setCell (p:=⟨q,2,Z⟩) hq _).setCell (p:=⟨q,3,Z⟩) hq _).setCell (p:=⟨q,4,Z⟩) hq _
theorem qq9 (a b m u:Option Addr)(an ac bn bc mn mc un uc:Nat)(p:Int):Tryz.prog.built 57 [(0,I #[O a an ac]),(1,I #[O b bn bc]),(2,I #[O m mn mc]),(3,I #[O u un uc]),(4,H φ p)]=Y #[O a an ac,O b bn bc,O m mn mc,O u un uc,H φ p]:=by kernel_rfl
theorem qv8 {w:δ}{q:Nat}(hq:w.heap[q]? =Y (.cells #[O Z 0 0,O Z 0 0,O Z 0 0,O Z 0 0,H φ 0] 57 (0,0))):∀p u,p.block=q->w p=Y u->Zl u:=fun p u e h=>by
 obtain⟨b,o,s⟩:=p;have e:b=q:=e;subst e;unfold World.cell? at h;simp only [hq]at h;cases s with
 |some s=>simp at h
 |none =>
  unfold Zl
  match o,h with
  |0,h=>simp at h;exact .inl h.symm
  |1,h=>simp at h;exact .inl h.symm
  |2,h=>simp at h;exact .inl h.symm
  |3,h=>simp at h;exact .inl h.symm
  |4,h=>simp at h;exact .inr h.symm
  |n+5,h=>simp at h
theorem qqa {w:δ}{v u:ε}{A B M U:List Cl}{p:Int}(h:Kx w v A)(k:Kx w u B)(Eq:Ops A B M U)(hp:prI p=true) :
  Calls Tryz.prog 21 #[v,u,p] w fun e w'=>∃y,e=.returned (ψ #[y,H φ 0])/\CvV w' y p A B M U/\Below w w w':=by
 obtain⟨a,an,ac,rfl⟩:=h.shape;obtain⟨c,cn,cc,rfl⟩:=k.shape;have HH:=yt h k Eq hp;clear h k Eq hp;go_enter Tryz.func21,Tryz.ntmps21;go_wp2_with fail;obtain⟨W,hW⟩:=x4 (((w.alloc (.cells #[O a an ac] 36)).alloc (.cells #[O c cn cc] 36)).alloc (.cells #[O Z 0 0,O Z 0 0,O Z 0 0,O Z 0 0,H φ 0] 57));rw[<-hW];have hw:Below w w W:=by rw[hW];exact(((q9).alloc (nlr _) _).alloc (by simp) _).alloc (by simp;omega) _
 have aG:W.heap.size=w+3:=by rw[hW];simp
 have b3:W w=O a an ac:=by rw[hW];exact qk (qk (xz w _ _ 0 rfl) _) _
 have b4:W (w+1:Nat)=O c cn cc:=by rw[hW];exact qk (zx w _ _ _ 0 rfl) _
 obtain⟨q,hq⟩:=x4 (w.heap.size+1+1);have fF:W.heap[q]? =Y (.cells #[O Z 0 0,O Z 0 0,O Z 0 0,O Z 0 0,H φ 0] 57 (0,0)):=by have h2:=heap_alloc_new ((w.alloc (.cells #[O a an ac] 36)).alloc (.cells #[O c cn cc] 36)) (.cells #[O Z 0 0,O Z 0 0,O Z 0 0,O Z 0 0,H φ 0] 57);simp only [World.size_alloc]at h2;rw[hW,hq];exact h2
 rw[<-hq];have HW:=yt hw aG hq fF;clear hW hw aG hq fF;refine(qax p W).mono ?_;rintro e w1 ⟨rfl,ae⟩;rw[show prI p=true from HH.b3]
 replace b3:=J ae b3
 replace b4:=J ae b4
 have H1:=jg ae ((btr HW.out.1 ae));clear ae;go_wp2_with fail;obtain⟨W2,aY⟩:=x4 (w1.alloc (.cells #[O a an ac,O c cn cc] 36));have g0:W2 w1=O a an ac:=by rw[aY];exact xz w1 _ _ 0 rfl
 have g1:W2 ⟨w1,1,Z⟩=O c cn cc:=by rw[aY];exact xz w1 _ _ 1 rfl
 have aj:Below w1 w1 W2:=by rw[aY];exact(q9).alloc (nlr _) _
 have H2:=jg ((btr H1.out.1 aj)) ((btr H1.out.2 aj));rw[<-aY]
 replace b3:=J aj b3
 replace b4:=J aj b4
 clear aY aj;go_loopw [9,10,11,25] (fun _ _ _ x wr=>∃k:Nat,x=k/\k<=2/\Hid (Below W2 W2 wr)) (fun _ _ _ x _=>2-(vI x).toNat)
 case atStart=>exact⟨0,rfl,by omega,(lhd q9)⟩
 case round =>
  obtain⟨k,rfl,hk,HB⟩:=hrel;rcases (by omega:k=0\/k=1\/k=2)with rfl|rfl|rfl
  ·have Uh:=J HB.out g0;have a1:(wr.alloc (.cells #[O a an ac] 36)) wr=O a an ac:=xz wr _ _ 0 rfl;have aA:Below wr wr (wr.alloc (.cells #[O a an ac] 36)):=(q9).alloc (nlr _) _;have aR:=lhd ((btr HB.out aA));clear aA;go_wp2_with fail;refine(q7v (HH.out.1.keep ((btr H2.out.2 aR.out)))).mono ?_;rintro e w5 ⟨rfl,aC⟩;have lX:=lhd ((btr aR.out aC));clear aC;go_wp2;go_roundw
   case measure=>simp[vI]
   case rel=>exact⟨1,rfl,by omega,lX⟩
  ·have uP:=J HB.out g1;have a1:(wr.alloc (.cells #[O c cn cc] 36)) wr=O c cn cc:=xz wr _ _ 0 rfl;have aA:Below wr wr (wr.alloc (.cells #[O c cn cc] 36)):=(q9).alloc (nlr _) _;have aR:=lhd ((btr HB.out aA));clear aA;go_wp2_with fail;refine(q7v (HH.a1.keep ((btr H2.out.2 aR.out)))).mono ?_;rintro e w5 ⟨rfl,aC⟩;have lX:=lhd ((btr aR.out aC));clear aC;go_wp2;go_roundw
   case measure=>simp[vI]
   case rel=>exact⟨2,rfl,by omega,lX⟩
  ·replace b3:=J HB.out b3
   replace b4:=J HB.out b4
   clear g0 g1;have rH:Below w w wr:=(btr H2.out.2 HB.out);have Cs:=jg rH ((btr H2.out.1 HB.out));obtain⟨wo,eE⟩:=x4 wr;subst eE;clear rH HB;go_wp2_with fail;refine(qs5 (HH.out.1.keep Cs.out.1) (HH.a1.keep Cs.out.1) HH.a2.un HH.a2.cu HH.a2.ku).mono ?_;rintro e w3 ⟨y,rfl,hy,aw⟩;obtain⟨ua,un,uc,rfl⟩:=hy.shape;have aA:Below w3 w3 (w3.alloc (.cells #[O ua un uc] 36)):=(q9).alloc (nlr _) _;have b12:(w3.alloc (.cells #[O ua un uc] 36)) w3=O ua un uc:=xz w3 _ _ 0 rfl;have aN:Below wo wo (w3.alloc (.cells #[O ua un uc] 36)):=(btr aw aA)
   replace b3:=J aN b3
   replace b4:=J aN b4
   have H3:=yh (hy.keep aA) ((btr Cs.out.1 aN)) ((btr Cs.out.2 aN));clear hy aw aA aN;go_wp2_with fail;obtain⟨W3,cH⟩:=x4 (w3.alloc (.cells #[O ua un uc] 36));obtain⟨XH,AI⟩:=x4 w3.heap.size;rw[<-cH]at b3 b4 b12 H3;rw[<-AI]at b12;rw[<-cH,<-AI];clear cH AI;refine(q7v H3.out.1).mono ?_;rintro e w4 ⟨rfl,aN⟩
   replace b3:=J aN b3
   replace b4:=J aN b4
   replace b12:=J aN b12
   have H4:=lhd aN;clear aN;have hd:=qpm H3.out.1.q1v H3.out.1.chk;obtain⟨N,hN⟩:∃N:Nat,(N:Int)=q5i U+1:=⟨(q5i U+1).toNat,by omega⟩
   have Uc:N<=9:=by omega
   obtain⟨dk,bN⟩:=x4 (q5i U);have wd:IntKind.i64.wrap (dk+1)=(N:Int):=by rw[bN,hN];exact IntWalk.i64_in _ (by omega)
   have UO:=lhd bN;clear hd hN bN;go_wp2_with fail;refine(qpj (H3.out.1.keep H4.out)).mono ?_;rintro e w5 ⟨rfl,aC⟩;rw[<-UO.out]
   replace b3:=J aC b3
   replace b4:=J aC b4
   replace b12:=J aC b12
   have H5:=lhd ((btr H4.out aC));clear aC;go_wp2_with fail;go_loopw [16,59] (fun _ x wr=>∃k:Nat,x=k/\k<=N/\Hid (Below w5 w5 wr)) (fun _ x _=>N-(vI x).toNat)
   case atStart=>exact⟨0,rfl,gm _,(lhd q9)⟩
   case round =>
    obtain⟨k,rfl,hk,HB⟩:=hrel;by_cases dy:k<N
    ·have cV:(k:Int)<N:=by omega
     replace b12:=J HB.out b12
     obtain⟨wp,fB⟩:=x4 wr;subst fB;go_wp2_with fail;refine(qbb ((H3.out.1.keep H5.out).keep HB.out) (k:Int)).mono ?_;rintro e w6 ⟨r,rfl,hr,cQ⟩;obtain⟨ra,rc,iI⟩:=qj hr;subst iI;have eR:¬(((nId U k:Nat):Int) > 100):=by have:=HH.a2.few k;omega
     obtain⟨nk,Cd⟩:=x4 (nId U k);rw[<-Cd]at eR ⊢;have H6:=lhd ((btr HB.out cQ));clear cQ Cd hr;go_wp2;go_roundw
     case measure=>simp[vI];omega
     case rel=>exact⟨k+1,qh (by omega),by omega,H6⟩
    ·have Lp:¬((k:Int)<N):=by omega
     have aC:Below W3 W3 wr:=(btr H5.out HB.out)
     replace b3:=J HB.out b3
     replace b4:=J HB.out b4
     replace b12:=J HB.out b12
     have rH:Below w w wr:=(btr H3.a1 aC);have ny:Below W W wr:=(btr H3.b2 aC);have pI:q<W:=by rw[HW.a2,HW.a1];omega
     have HF:=kg rH ny (H3.out.1.keep aC) pI ((ny.block q pI).trans HW.b3);clear aC rH ny pI;go_upto_region 22 with fail
     go_cut [7]from 69 to 76 (fun x wx=>∃(ma:Option Addr) (mn mc:Nat) (wy:δ),x=H φ 0/\Hid (Below wr wr wy/\Kx wy (I #[O ma mn mc]) M/\wx=q76 wy q (O a an ac) (O c cn cc) (O ma mn mc) (O ua un uc) p))
     case first =>
      rename_i At K2 hJ aQ;refine q01 rfl (fun i v w'=>match i with
       |0=>v=I #[O a an ac]
       |1=>v=I #[O c cn cc]
       |2=>v=I #[O a an ac]
       |3=>v=I #[O c cn cc]
       |4=>Kx w' v M
       |5=>v=I #[O ua un uc]
       |6=>v=p
       |7=>∃ma mn mc,v=I #[O a an ac,O c cn cc,O ma mn mc,O ua un uc,p]/\Kx w' (I #[O ma mn mc]) M
       |_=>True) (fun _=>false) bkQ [] (fun _ v=>v) (by kernel_rfl) 8 20 77 rfl (by kernel_rfl) (by kernel_rfl) (by kernel_rfl) ?keep ?step ?mid
      case keep =>
       intro i v w1 w2 h hb
       match i,h with
       |0,h=>exact h
       |1,h=>exact h
       |2,h=>exact h
       |3,h=>exact h
       |4,h=>exact h.keep hb
       |5,h=>exact h
       |6,h=>exact h
       |7,⟨ma,mn,mc,h1,h2⟩=>exact⟨ma,mn,mc,h1,h2.keep hb⟩
       |i+8,h=>trivial
      case step =>
       intro i o ho aD b w' hw hd ab hsz
       match i,ho,hd with
       |0,rfl,hd =>exact jm rfl (zr je ab 3) (q10 (J hw b3)) ⟨_,rfl,rfl,j7 q9 rfl rfl⟩
       |1,rfl,hd =>exact jm rfl (zr je ab 4) (q10 (J hw b4)) ⟨_,rfl,rfl,j7 q9 rfl rfl⟩
       |2,rfl,hd =>exact jm rfl (zr je ab 3) (q10 (J hw b3)) ⟨_,rfl,rfl,j7 q9 rfl rfl⟩
       |3,rfl,hd =>exact jm rfl (zr je ab 4) (q10 (J hw b4)) ⟨_,rfl,rfl,j7 q9 rfl rfl⟩
       |4,rfl,hd =>
        have Ex:b 71 V=I #[O a an ac]:=(zf hd 2)
        have Ll:b 72 V=I #[O c cn cc]:=(zf hd 3)
        exact q0e rfl #[I #[O a an ac],I #[O c cn cc]] (by rw[<-Ex,<-Ll];simp[Act.eval]) ((qtw ((HH.out.1.keep HF.out.1).keep hw) ((HH.a1.keep HF.out.1).keep hw) HH.a2.me HH.a2.cm HH.a2.km).mono fun e w2 ⟨y,h1,h2,h3⟩=>⟨_,h1,_,rfl,h2,j7 h3 rfl rfl⟩)
       |5,rfl,hd =>exact jm rfl (zr je ab 12) (q10 (J hw b12)) ⟨_,rfl,rfl,j7 q9 rfl rfl⟩
       |6,rfl,hd =>exact jo (.inl rfl) ⟨_,rfl,(zr je ab 2),j7 q9 rfl rfl⟩
       |7,rfl,hd =>have k4:Kx w' (b 73 V) M:=zf hd 4;obtain⟨ma,mn,mc,e4⟩:=k4.shape;rw[e4]at k4;have UP:b 69 V=I #[O a an ac]:=zf hd 0;have I6:b 70 V=I #[O c cn cc]:=zf hd 1;have UQ:b 74 V=I #[O ua un uc]:=zf hd 5;have UR:b 75 V=p:=zf hd 6;exact⟨rfl,gu _,qh5 _ _ rfl #[(0,I #[O a an ac]),(1,I #[O c cn cc]),(2,I #[O ma mn mc]),(3,I #[O ua un uc]),(4,H φ p)] (by rw[<-UP,<-I6,<-e4,<-UQ,<-UR];simp[Act.eval]) _ (run_build _ _ _ _ (qq9 _ _ _ _ _ _ _ _ _ _ _ _ _)) ⟨_,rfl,⟨ma,mn,mc,rfl,k4⟩,q9,fun h=>absurd h (by decide),fun c hc=>absurd hc gP⟩⟩
       |i+8,ho,hd =>omega
      case mid =>
       intro b9 w2 hsz aO hf ab hw fD _;obtain⟨ma,mn,mc,US,UT⟩:∃ma mn mc,b9 76 V=I #[O a an ac,O c cn cc,O ma mn mc,O ua un uc,p]/\Kx w2 (I #[O ma mn mc]) M:=hf 7 _ _ rfl rfl (by decide);have nV:w2.heap[q]? =Y (.cells #[O Z 0 0,O Z 0 0,O Z 0 0,O Z 0 0,H φ 0] 57 (0,0)):=(hw.block q (gz HF.a3 HF.a1.size)).trans HF.b4;have e6:b9 6 V=σ q:=ab 6 (je (by kernel_rfl));refine⟨fun k a1 w1=>match k with|0=>a1=b9/\w1=w2|1=>a1=b9/\w1=q76 w2 q (O a an ac) (O c cn cc) (O ma mn mc) (O ua un uc) p|_=>a1=b9.put (Y 7) (H φ 0)/\w1=q76 w2 q (O a an ac) (O c cn cc) (O ma mn mc) (O ua un uc) p,⟨rfl,rfl⟩,fun k o ho a1 w1 h1=>?_,fun a1 w1 h1=>?_⟩
       ·match k,ho,h1 with
        |0,ho,⟨h1,h2⟩ =>subst h1 h2;obtain rfl:=osi ho;exact⟨rfl,ju _ _ _ rfl _ _ e6 US (qiy nV) ⟨rfl,rfl⟩⟩
        |1,ho,⟨h1,h2⟩ =>subst h1 h2;obtain rfl:=osi ho;exact⟨rfl,q1b _ (.inr rfl) ⟨rfl,rfl⟩⟩
        |k+2,ho,h1 =>have:8+(k+2)<10:=(gh.1 ho).1;omega
       ·obtain⟨rfl,rfl⟩ : a1=b9.put (Y 7) (H φ 0)/\w1=q76 w2 q (O a an ac) (O c cn cc) (O ma mn mc) (O ua un uc) p:=h1;have sS:(b9.put (Y 7) (H φ 0)).tmps.size=77:=by show (b9.tmps.setIfInBounds _ _).size=_;simpa using hsz
        have q7:(b9.put (Y 7) (H φ 0)).tmps.getD 7 V=H φ 0:=by rw[q3s,if_pos ⟨rfl,by rw[hsz];decide⟩]
        refine aQ _ _ (Met.intro (hJ _ _ ⟨(b9.put (Y 7) (H φ 0)).tmps.getD 7 V,(b9.put (Y 7) (H φ 0)).tmps.getD 69 V,(b9.put (Y 7) (H φ 0)).tmps.getD 70 V,(b9.put (Y 7) (H φ 0)).tmps.getD 71 V,(b9.put (Y 7) (H φ 0)).tmps.getD 72 V,(b9.put (Y 7) (H φ 0)).tmps.getD 73 V,(b9.put (Y 7) (H φ 0)).tmps.getD 74 V,(b9.put (Y 7) (H φ 0)).tmps.getD 75 V,(b9.put (Y 7) (H φ 0)).tmps.getD 76 V,⟨ma,mn,mc,w2,q7,(lhd ⟨hw,UT,rfl⟩)⟩,(q8z sS aO (q9w (i:=9) (o:=?o9) ?h9 ?d9 fun s hs=>ab s fun i o _ ho=>hs i o ho)).trans ?_⟩))
        case h9=>rfl
        case d9=>rfl
        kernel_rfl
     case rest =>
      obtain⟨ma,mn,mc,wy,rfl,H9⟩:=hcut;obtain⟨Ct,Qc,IC⟩:=H9.out;have LR:wy.heap[q]? =Y (.cells #[O Z 0 0,O Z 0 0,O Z 0 0,O Z 0 0,H φ 0] 57 (0,0)):=(Ct.block q (gz HF.a3 HF.a1.size)).trans HF.b4;obtain⟨t0,t1,t2,t3,t4⟩:=qe4 LR (O a an ac) (O c cn cc) (O ma mn mc) (O ua un uc) p;rw[<-IC]at t0 t1 t2 t3 t4;have hz:=qv8 LR;have mF:∀ {x:ε} {K:List Cl},Kx wy x K->Kx wc x K:=fun {x K} hk=>hk.zero hz fun p u hp hu=>by rw[IC];exact qjx hp hu
      have hb:Below w w wc:=by rw[IC];exact qe5 ((btr HF.out.1 Ct)) (by rw[HW.a2];omega) _ _ _ _ _
      have HR:=jg (show CvV wc _ p A B M U from⟨a,an,ac,c,cn,cc,ma,mn,mc,ua,un,uc,rfl,mF ((HH.out.1.keep HF.out.1).keep Ct),mF ((HH.a1.keep HF.out.1).keep Ct),mF Qc,mF (HF.a2.keep Ct)⟩) hb;clear Ct Qc IC LR hz mF hb;go_wp2_with fail;refine bodyPost_ret (v:=ψ #[I #[O a an ac,O c cn cc,O ma mn mc,O ua un uc,p],H φ 0]) (by simp[results,Tryz.results21,go_sem,t0,t1,t2,t3,t4]) rfl ⟨_,rfl,HR.out.1,HR.out.2⟩
theorem qs8 (p r c:Int)(a:Option Addr)(n k:Nat)(w:δ):(Instr.field 30 (I #[p,r,c,O a n k]) 2).run Tryz.prog w=.ok c w:=by
 have key:∀u:ε,(Instr.field 30 (I #[p,r,c,u]) 2).run Tryz.prog w=.ok c w:=fun u=>by kernel_rfl
 exact key _
theorem qlu {w:δ}{v x:ε}{A B M U K:List Cl}{p d:Int}(h:CvV w v p A B M U)(k:Kx w x K)(hp:prI p=true)(hd : -900<=d/\d<=900)(hn:∀d,nId K d<=100) :
  Calls Tryz.prog 25 #[v,x,H φ d] w fun e w'=>e=.returned (hK p K d:Nat)/\Below w w w':=by
 obtain⟨aa,an,ac,ba,bn,bc,ma,mn,mc,ua,un,uc,rfl,_,_,_,_⟩:=h;obtain⟨xa,xn,xc,rfl⟩:=k.shape;have HH:=yh k hp hn;clear k hp hn;have aA:Below w w ((w.alloc (.cells #[O aa an ac,O ba bn bc,O ma mn mc,O ua un uc,p] 57)).alloc (.cells #[O xa xn xc] 36)):=((q9).alloc (nlr _) _).alloc (by simp) _;have HA:=lhd aA;clear aA;go_enter Tryz.func25,Tryz.ntmps25;go_wp2_with fail;refine(qh7 (HH.out.1.keep HA.out) HH.a1 d hd HH.b2).mono ?_;rintro e w1 ⟨y,rfl,hy,ae⟩;obtain⟨s,rfl,hs,_⟩:=hy;obtain⟨sa,sn,sc,rfl⟩:=qg hs;have hf:=qs8 p (nId K d) (hK p K d) sa sn sc w1;have H1:=lhd ((btr HA.out ae));clear hs ae;go_wp2_with fail;go_ret;exact⟨rfl,H1.out⟩
theorem qlv {w:δ}{v x y:ε}{A B M U K L:List Cl}{p d:Int}(h:CvV w v p A B M U)(k:Kx w x K)(l:Kx w y L)(hs:q6v K L)(hp:prI p=true)(hd : -900<=d/\d<=900)(Qd:∀d,nId K d<=100)(Fg:∀d,nId L d<=100)(hX:(qef p K L d).isSome=true) :
  Calls Tryz.prog 27 #[v,x,y,H φ d] w fun e w'=>∃z,e=.returned z/\FmF w w' z p (hK p L d) (hK p K d) (yu p K L d)/\Below w w w':=by
 obtain⟨aa,an,ac,ba,bn,bc,ma,mn,mc,ua,un,uc,rfl,_,_,_,_⟩:=h;obtain⟨xa,xn,xc,rfl⟩:=k.shape;obtain⟨ya,yn,yc,rfl⟩:=l.shape;have HH:=q4q k l hs hp Qd Fg hX;clear k l hs hp Qd Fg hX;go_enter Tryz.func27,Tryz.ntmps27;go_wp2_with fail;obtain⟨W,hW⟩:=x4 ((((w.alloc (.cells #[O aa an ac,O ba bn bc,O ma mn mc,O ua un uc,p] 57)).alloc (.cells #[O xa xn xc] 36)).alloc (.cells #[O ya yn yc] 36)).alloc (.cells #[H φ 0,H φ 0,H φ 0,O Z 0 0] 30));rw[<-hW];have hw:Below w w W:=by rw[hW];exact((((q9).alloc (nlr _) _).alloc (by simp) _).alloc (by simp;omega) _).alloc (by simp;omega) _
 have b4:W ⟨w,4,Z⟩=p:=by rw[hW];exact qk (qk (qk (xz w _ _ 4 rfl) _) _) _
 have b5:W (w+1:Nat)=O xa xn xc:=by rw[hW];exact qk (qk (zx w _ _ _ 0 rfl) _) _
 have b6:W (w+1+1:Nat)=O ya yn yc:=by rw[hW];exact qk (jw w _ _ _ _ 0 rfl) _
 have r8:∀(i:Nat) (x:ε),(#[H φ 0,H φ 0,H φ 0,O Z 0 0] : Array ε)[i]? =Y x->W ⟨w+1+1+1,i,Z⟩=Y x:=fun i x hx=>by rw[hW];have h1:=qd (((w.alloc (.cells #[O aa an ac,O ba bn bc,O ma mn mc,O ua un uc,p] 57)).alloc (.cells #[O xa xn xc] 36)).alloc (.cells #[O ya yn yc] 36)) #[H φ 0,H φ 0,H φ 0,O Z 0 0] 30 (0,0) i;simp only [World.size_alloc]at h1;rw[h1];exact hx
 have f8:∀i,W.frozen? ⟨w+1+1+1,i,Z⟩=false:=fun i=>by rw[hW];have h2:=heap_alloc_new (((w.alloc (.cells #[O aa an ac,O ba bn bc,O ma mn mc,O ua un uc,p] 57)).alloc (.cells #[O xa xn xc] 36)).alloc (.cells #[O ya yn yc] 36)) (.cells #[H φ 0,H φ 0,H φ 0,O Z 0 0] 30);simp only [World.size_alloc]at h2;exact jz h2 i
 have aG:W.heap.size=w+4:=by rw[hW];simp
 have HW:=yt hw r8 f8 aG;clear hW hw r8 f8 aG;refine(qts (HH.out.1.keep HW.out.1) (HH.a1.keep HW.out.1) HH.a2).mono ?_;rintro e w1 ⟨m,rfl,hm,ae⟩;have jM:=hm;obtain⟨s,An,rfl,cU,_,_⟩:=hm;obtain⟨sa,sn,sc,rfl⟩:=qg cU;obtain⟨W1,kV⟩:=x4 (w1.alloc (.cells #[O sa sn sc] 95));have aA:Below w1 w1 W1:=by rw[kV];exact(q9).alloc (nlr _) _
 have dx:Below W W W1:=(btr ae aA);have Qe:=J dx b4;have Qf:=J dx b5;have Qg:=J dx b6;have AJ:=qnn (HH.out.1.keep ((btr HW.out.1 dx))) (HH.a1.keep ((btr HW.out.1 dx))) HH.a2 (jM.keep aA) HH.a3 hd HH.a4 HH.a5 HH.b6;rw[kV]at Qe Qf Qg AJ;have H1:=jg dx kV;have HI:=lhd AJ;clear cU jM aA dx kV ae b4 b5 b6 AJ;go_wp2_with fail;refine HI.out.mono ?_;rintro e w2 ⟨z,rfl,hz,aj⟩;rw[<-H1.out.2]at hz aj;obtain⟨s2,rfl,mN,mM,Fi⟩:=hz;obtain⟨za,zn,zc,rfl⟩:=qg mN;have aY:Below W W w2:=(btr H1.out.1 aj);have mf:w.heap.size+1+1+1<W:=by have:=HW.b3;omega
 obtain⟨r2,cE⟩:=x4 (hK p L d);obtain⟨k2,lK⟩:=x4 (hK p K d);rw[<-cE,<-lK];have aA:Below w2 w2 (w2.alloc (.cells #[p,r2,k2,O za zn zc] 30)):=(q9).alloc (nlr _) _;have g0:=fun o=>qk (J aY (HW.a1 0 _ rfl)) o
 have g1:=fun o=>qk (J aY (HW.a1 1 _ rfl)) o
 have g2:=fun o=>qk (J aY (HW.a1 2 _ rfl)) o
 have g3:=fun o=>qk (J aY (HW.a1 3 _ rfl)) o
 have z0:=fun o=>xf (aY.alloc aY.size o) mf (HW.a2 0)
 have z1:=fun o=>xf (aY.alloc aY.size o) mf (HW.a2 1)
 have z2:=fun o=>xf (aY.alloc aY.size o) mf (HW.a2 2)
 have z3:=fun o=>xf (aY.alloc aY.size o) mf (HW.a2 3)
 have HF:=q5h mN mM Fi aY aA cE lK mf;clear mN mM Fi aY aA cE lK mf Qe Qf Qg aj;go_wp2_with fail;obtain⟨t0,t1,t2,t3⟩:=q1f (g0 (.cells #[p,r2,k2,O za zn zc] 30)) (g1 _) (g2 _) (g3 _);refine bodyPost_ret (v:=I #[p,r2,k2,O za zn zc]) (by simp[results,Tryz.results27,go_sem,t0,t1,t2,t3]) rfl ⟨_,rfl,?_,?_⟩
 ·rw[<-HF.a5,<-HF.a6];have ah:∀ad n c,O za zn zc=O (Y ad) n c->ad.block≠w+1+1+1:=fun ad n c e=>by have h1:=HF.a2 ad n c e;have h2:=H1.out.1.size;have h4:=HF.b7;omega
  refine⟨_,rfl,y8 (y8 (y8 (y8 (HF.out.1.keep HF.a4) _ _ ah) _ _ ah) _ _ ah) _ _ ah,by rw[HF.a5,HF.a6];exact HF.a1,fun ad n c e=>?_⟩;have h1:=HF.a2 ad n c e;have h2:=H1.out.1.size;have h3:=HW.b3;omega
 ·exact jj (((btr HW.out.1 HF.a3)).alloc (by have:=HW.out.1.size;have:=HF.a3.size;omega) _) (by omega) _ _ _ _
end Go.Proofs.YtmkpbhaoalbhjaaGreatDoor
namespace Go.Cx
open Go.RowKit Go.Proofs.YtmkpbhaoalbhjaaGreatDoor
theorem qk3 {all few:List Int}{X:List (List Int)}{k:Nat}{c:Int}(h:few[k]? =Y c):(q0v all (few.take (k+1)) X).flatten=(q0v all (few.take k) X).flatten++zm X (all.idxOf c):=by unfold q0v;rw[gC,h];simp
theorem idxOf_at' {L:List Int}{i:Nat}{x:Int}(hd:L.Nodup)(h:L[i]? =Y x):L.idxOf x=i:=by obtain⟨hi,e⟩:=gk.1 h;have hx:L.idxOf x<L.length:=List.idxOf_lt_length_iff.2 (by rw[<-e];exact List.getElem_mem hi);have e2:L[L.idxOf x]=x:=List.getElem_idxOf hx;exact(List.getElem_inj hd).1 (by rw[e2,e])
end Go.Cx
namespace Go.Proofs.YtmkpbhaoalbhjaaGreatDoor
open Go.RowKit Go.Cx
attribute [local go_sem ↓] Go.wp_at_zero Go.wp_at_succ
def q6q (v:ε)(w:δ):Prop:=∃q,v=σ (Y ⟨q,0,Z⟩)/\w.heap[q]? =Y (.cells #[H φ 0,H φ 0,H φ 0,O Z 0 0] 30 (0,0))
theorem q6q.keep {v:ε}{w w':δ}(h:q6q v w)(hb:Below w w w'):q6q v w':=by obtain⟨q,h0,h1⟩:=h;exact⟨q,h0,(hb.block q (gh.1 h1).1).trans h1⟩
theorem q7x (w:δ):q6q (σ w) (w.alloc (.cells #[H φ 0,H φ 0,H φ 0,O Z 0 0] 30)):=⟨_,rfl,heap_alloc_new w _⟩
theorem q68 {w:δ}{q:Nat}(h:w.heap[q]? =Y (.cells #[H φ 0,H φ 0,H φ 0,O Z 0 0] 30 (0,0))) :
  w q=H φ 0/\w ⟨q,1,Z⟩=H φ 0/\w ⟨q,2,Z⟩=H φ 0/\w ⟨q,3,Z⟩=O Z 0 0/\∀i,w.frozen? ⟨q,i,Z⟩=false :=
 ⟨by simp[World.cell?,h],by simp[World.cell?,h],by simp[World.cell?,h],by simp[World.cell?,h],fun i=>jz h i⟩
theorem qlw {w:δ}{q b n:Nat}{s:ε}{xs:List ε}(h:w.heap[q]? =Y (.cells #[H φ 0,H φ 0,H φ 0,O Z 0 0] 30 (0,0)))(hs:w.ownsRow b 3 1 s n xs):∀k,s.ownBlock=Y k->k≠q:=fun k hk e=>by
 rcases hs.2 with ⟨rfl,_⟩|⟨g,cap,cur,rfl,_,hg,_⟩
 ·cases hk
 ·have:g=k:=by injection hk
  rw[this,e,h]at hg;injection hg with hg
  injection hg with _ hg _
  exact absurd hg (by decide)
theorem qqb {w:δ}{x v u:ε}{p:Int}{r m:Nat}{X:List (List Int)}{all few:List Int}(h:FmV w x p r m X)(hv:Sl w 1 v (ints all))(hu:Sl w 1 u (ints few))(ha:all.Pairwise (· < ·))(aA:all.length=r)(hs:∀id∈few,id∈all)(aV:few.length<=400)(hr:r<=400)(hm:m<=400) :
  Calls Tryz.prog 59 #[x,v,u] w fun e w'=>∃y,e=.returned y/\FmO w w' y p few.length m (q0v all few X)/\Below w w w':=by
 obtain⟨s,rfl,hE,hF⟩:=h;obtain⟨ea,en,ec,rfl⟩:=qg hE;obtain⟨va,vn,vc,rfl⟩:=qg hv;obtain⟨ua,n,uc,rfl⟩:=qg hu;have hn:n=few.length:=by have:=hu.open.2.2.1;rw[xl]at this;omega
 have ru:en=r*m:=by have:=hE.open.2.2.1;rw[xl,hF.q1d]at this;omega
 have HH:=qan hE hF hv hu ha aA hs hn ru;have Uw:n<=400:=by omega
 clear hE hF hv hu ha aA hs aV ru;rw[<-hn];clear hn;go_enter Tryz.func59,Tryz.ntmps59;go_wp2_with fail;obtain⟨W,hW⟩:=x4 (((w.alloc (.cells #[p,r,m,O ea en ec] 30)).alloc (.cells #[H φ 0,H φ 0,H φ 0,O Z 0 0] 30)).alloc (.cells #[p,n,m,O Z 0 0] 30));rw[<-hW];have hw:Below w w W:=by rw[hW];exact(((q9).alloc (nlr _) _).alloc (by simp) _).alloc (by simp;omega) _
 have aG:W.heap.size=w+3:=by rw[hW];simp
 have p2:W ⟨w,2,Z⟩=m:=by rw[hW];exact qk (qk (xz w _ _ 2 rfl) _) _
 have p3:W ⟨w,3,Z⟩=O ea en ec:=by rw[hW];exact qk (qk (xz w _ _ 3 rfl) _) _
 have s0:W (w+1:Nat)=H φ 0:=by rw[hW];exact qk (zx w _ _ _ 0 rfl) _
 have s1:W ⟨w+1,1,Z⟩=H φ 0:=by rw[hW];exact qk (zx w _ _ _ 1 rfl) _
 have s2:W ⟨w+1,2,Z⟩=H φ 0:=by rw[hW];exact qk (zx w _ _ _ 2 rfl) _
 have s3:W ⟨w+1,3,Z⟩=O Z 0 0:=by rw[hW];exact qk (zx w _ _ _ 3 rfl) _
 have sz:∀i,W.frozen? ⟨w+1,i,Z⟩=false:=fun i=>by rw[hW];exact q27 (by simp) (vo w _ _ _ i) _
 have o0:W (w+1+1:Nat)=p:=by rw[hW];exact jw w _ _ _ _ 0 rfl
 have o1:W ⟨w+1+1,1,Z⟩=n:=by rw[hW];exact jw w _ _ _ _ 1 rfl
 have o2:W ⟨w+1+1,2,Z⟩=m:=by rw[hW];exact jw w _ _ _ _ 2 rfl
 have o3:W ⟨w+1+1,3,Z⟩=O Z 0 0:=by rw[hW];exact jw w _ _ _ _ 3 rfl
 have oz:W.frozen? ⟨w+1+1,3,Z⟩=false:=by rw[hW];exact q1e w _ _ _ _ 3
 have HC:=qan p2 p3 s0 s1 s2 s3 sz hw aG;have HO:=kg o0 o1 o2 o3 oz;clear hW p2 p3 s0 s1 s2 s3 sz hw aG o0 o1 o2 o3 oz;go_loopw [9,10,11,21] (fun _ _ _ x wr=>∃(i:Nat) (o:ε),x=i/\i<=n/\Hid (wr (w+1+1:Nat)=p/\wr ⟨w+1+1,1,Z⟩=n/\wr ⟨w+1+1,2,Z⟩=m/\wr ⟨w+1+1,3,Z⟩=Y o/\wr.frozen? ⟨w+1+1,3,Z⟩=false/\wr.ownsRow (w+3) 3 1 o (i*m) (ints (q0v all (few.take i) X).flatten))/\Hid (Below (w+2) W wr)) (fun _ _ _ x _=>n-(vI x).toNat)
 case atStart=>exact⟨0,O Z 0 0,rfl,gm _,(lhd ⟨HO.out.1,HO.a1,HO.a2,HO.a3,HO.b4,by rw[Nat.zero_mul];exact World.ownsRow_nil _ _ _ _⟩),(lhd q9)⟩
 case round =>
  obtain⟨i,o,rfl,hi,HR,HB⟩:=hrel;have aT:Below w w wr:=HC.a7.trans (HB.out.mono (by omega));by_cases db:i<n
  ·have rJ:(i:Int)<n:=by omega
   obtain⟨ud,c,K1,hc,d0⟩:=q00 (HH.a3.keep aT) db;subst K1;have xL:=HH.a6 c (gi hc);have lY:=yh aT hc xL;clear aT hc xL;go_wp2_with fail;refine(qpi _ all c wr (HH.a2.keep lY.out.1) (by have:=HH.a5;omega) HH.a4).mono ?_;rintro e w5 ⟨k,rfl,hk,aC⟩;have hk:=hk lY.b2;have cO:k<r:=by have:=(gk.1 hk).1;have:=HH.a5;omega
   have rQ:all.idxOf c=k:=idxOf_at' (HH.a4.imp fun h=>by omega) hk;rw[show all.contains c=true from by simpa using lY.b2];have aS:Below (w+2) W w5:=HB.out.trans (aC.mono (by have:=HB.out.size;have:=HC.b8;omega));have bX:∀ {q:Nat} {c:Nat} {x:ε},q<w+2->W ⟨q,c,Z⟩=Y x->w5 ⟨q,c,Z⟩=Y x:=fun hq hx=>(aS.cell (by exact hq)).trans hx
   have c2:=bX (by omega) HC.out.1;have c3:=bX (by omega) HC.a1;have e3:=J aC HR.a3;have ez:=xf aC (World.block_lt_of_cell? wr ⟨w+1+1,3,Z⟩ HR.a3) HR.a4;have rK:IntKind.i64.wrap ((k:Int)*(m:Int))=((k*m:Nat):Int):=kd (by omega) (by omega);have pj:IntKind.i64.wrap ((k:Int)+1)=((k+1:Nat):Int):=IntWalk.i64_in _ (by omega);have qF:IntKind.i64.wrap (((k+1:Nat):Int)*(m:Int))=(((k+1)*m:Nat):Int):=kd (by omega) (by omega);obtain⟨ra,rc,hcut,aV⟩:=qdk HH.out.1 (x:=k*m) (y:=(k+1)*m) (gI m (by omega)) (by have h9:=HH.b8;rw[h9];exact gI m cO);rw[succ_sub]at hcut aV;rw[q3z HH.a1 cO]at aV;obtain⟨ix,lR⟩:=x4 (k*m);obtain⟨iy,oE⟩:=x4 ((k+1)*m);obtain⟨i1,eu⟩:=x4 (k+1);rw[<-lR]at rK hcut;rw[<-eu]at pj;rw[<-oE]at qF hcut;rw[<-eu]at qF;have al:=qa HR.b5 aC;obtain⟨is,oO⟩:=x4 (i*m);rw[<-oO]at al;obtain⟨oa,oc,pq⟩:=qj al;subst pq;have rT:is<=160000:=by rw[oO];exact gd (Nat.mul_le_mul (show i<=400 by omega) hm) (by decide)
   have hz:w.heap.size+3<=w5:=by have h1:=aS.size;have h2:=HC.b8;omega
   have nw:Below w w w5:=(btr lY.out.1 aC);have HK:=q93 al nw aV (HH.a1.row cO).1 rQ oO rT hz aS aC;have tJ:=jg e3 ez;clear al nw aV rQ eu lR oE oO rT hz bX hk aS aC d0;go_wp2_with fail;refine qp4 fun KO cD=>?_
   go_cut []from 31 to 46 (fun wx=>∃(w2:δ) (fa:Option Addr) (fc:Nat),Hid (w2.ownsRow (w+3) 3 1 (O fa (is+m) fc) (is+m) (ints (q0v all (few.take i) X).flatten++ints (zm X k))/\Below (w+3) w5 w2)/\wx=w2.setCell ⟨w+1+1,3,Z⟩ (O fa (is+m) fc))
   case first =>
    rename_i At K2 hJ aQ;refine yg (by kernel_rfl) (VF [Y (σ (Y ⟨w+1+1,3,Z⟩)),Y (O oa is oc),Y (σ (Y ⟨w,3,Z⟩)),Y (O ea en ec),Y (k:Int),Y (σ (Y ⟨w,2,Z⟩)),Y (m:Int),Y (ix:Int),Y (k:Int),Y (i1:Int),Y (σ (Y ⟨w,2,Z⟩)),Y (m:Int),Y (iy:Int),Y (O ra m rc),Z,Y (σ (Y ⟨w+1+1,3,Z⟩)),Z]) [14] (fun vs w2=>Below (w+3) w5 w2/\match vs with|[]=>w2.ownsRow (w+3) 3 1 (O oa is oc) is (ints (q0v all (few.take i) X).flatten)|[v]=>w2.ownsRow (w+3) 3 1 v (is+m) (ints (q0v all (few.take i) X).flatten++ints (zm X k))|_=>False) 16 20 49 rfl (by kernel_rfl) (by kernel_rfl) (by decide) (by kernel_rfl) (by kernel_rfl) (by kernel_rfl) (by decide) (by decide) (fun a w2=>K2 a w2) ?start ?pure ?eff ?last ?done
    case start=>exact⟨qb (Below.refl _ w5) 1,HK.out.1.drew⟩
    case pure =>
     intro i o ho hL hE a w' vs hT ai hd ab hsz;have fO:=(hT.1.cell (p:=⟨w,2,Z⟩) (by simp <;> omega)).trans c2;have uy:=(hT.1.cell (p:=⟨w,3,Z⟩) (by simp <;> omega)).trans c3;have Ki:=(hT.1.cell (p:=⟨w+1+1,3,Z⟩) (by simp <;> omega)).trans tJ.out.1
     match i,ho,hL,hE,ai,hd with
     |0,rfl,_,_,_,_ =>exact yb rfl (zr qu ab 7) (jv _ _ _ (by decide)) (gone rfl)
     |1,rfl,_,_,_,hd =>exact jm rfl (j8 hd 0) (yy _ _ _ _ _ (Ki)) (gone rfl)
     |2,rfl,_,_,_,_ =>exact yb rfl (zr qu ab 3) (jv _ _ _ (by decide)) (gone rfl)
     |3,rfl,_,_,_,hd =>exact jm rfl (j8 hd 2) (yy _ _ _ _ _ (uy)) (gone rfl)
     |4,rfl,_,_,_,_ =>exact jo (.inl rfl) ⟨_,rfl,fun _ h=>(zr qu ab 10).trans (osi h),rfl⟩
     |5,rfl,_,_,_,_ =>exact yb rfl (zr qu ab 3) (jv _ _ _ (by decide)) (gone rfl)
     |6,rfl,_,_,_,hd =>exact jm rfl (j8 hd 5) (qe0 _ _ _ (fO)) (gone rfl)
     |7,rfl,_,_,_,hd =>exact q0n rfl (j8 hd 4) (j8 hd 6) rfl (q2d rK _) (gone rfl)
     |8,rfl,_,_,_,_ =>exact jo (.inl rfl) ⟨_,rfl,fun _ h=>(zr qu ab 10).trans (osi h),rfl⟩
     |9,rfl,_,_,_,hd =>exact q0n rfl (j8 hd 8) rfl rfl (q1u pj _) (gone rfl)
     |10,rfl,_,_,_,_ =>exact yb rfl (zr qu ab 3) (jv _ _ _ (by decide)) (gone rfl)
     |11,rfl,_,_,_,hd =>exact jm rfl (j8 hd 10) (qe0 _ _ _ (fO)) (gone rfl)
     |12,rfl,_,_,_,hd =>exact q0n rfl (j8 hd 9) (j8 hd 11) rfl (q2d qF _) (gone rfl)
     |13,rfl,_,_,_,hd =>exact⟨rfl,gu _,qgh _ _ _ _ rfl _ _ _ (j8 hd 3) (j8 hd 7) (j8 hd 12) _ (hcut _) (gone rfl)⟩
     |14,ho,hL,hE,ai,hd =>exact absurd (by decide) hE
     |15,rfl,_,_,_,_ =>exact yb rfl (zr qu ab 7) (jv _ _ _ (by decide)) (gone rfl)
     |16,ho,hL,hE,ai,hd =>exact absurd rfl hL
     |i+17,ho,hL,hE,ai,hd =>have:i+17<17:=(gh.1 ho).1;omega
    case eff =>
     intro s i o hs ho a w' vs hl hT hd hr ab hsz
     match s,hs,hr,hl with
     |0,hs,hr,hl =>obtain rfl:=osi hs;obtain rfl:=osi ho;obtain rfl:=gl hl;have f1:a 32 V=O oa is oc:=j8 hd 1;have f13:a 44 V=O ra m rc:=j8 hd 13;exact⟨rfl,qfe _ _ 23 rfl (w+3) 3 Tryz.xg Tryz.underlying23 rfl (by decide) (by decide) _ is _ f1 hT.2 (O ra m rc) m (ints (zm X k)) f13 (HK.a2.keep (HK.a1.trans (hT.1.mono (by omega)))) (by rw[xl,HK.a3,gK]) (q65 _) (by have:=HK.a6;omega) (gd HK.a7 hT.1.size) fun v' w2 h1 h2=>⟨v',rfl,hT.1.trans h2,h1⟩⟩
     |s+1,hs,hr,hl=>cases hs
    case last =>intro o ho a w' vs hsz aO hl hT hf hr ab;obtain rfl:=osi ho;obtain⟨v1,rfl⟩:=List.length_eq_one_iff.1 hl;obtain⟨fa,fc,iI⟩:=qj hT.2;have g0:a 46 V=σ (Y ⟨w+1+1,3,Z⟩):=hf 15 _ _ rfl rfl (by kernel_rfl) (by decide) _ rfl;have g1:a 45 V=O fa (is+m) fc:=(hr 0 14 _ _ rfl rfl rfl).trans iI;refine⟨rfl,ju _ _ _ rfl _ _ g0 g1 (qbs _ _ _ _ _ _ ((hT.1.cell (p:=⟨w+1+1,3,Z⟩) (by simp)).trans tJ.out.1) ((hT.1.frozen (p:=⟨w+1+1,3,Z⟩) (by simp)).trans tJ.out.2)) ?_⟩;refine aQ _ _ (Met.intro (hJ _ _ ⟨a 31 V,a 32 V,a 33 V,a 34 V,a 35 V,a 36 V,a 37 V,a 38 V,a 39 V,a 40 V,a 41 V,a 42 V,a 43 V,a 44 V,a 45 V,a 46 V,⟨w',fa,fc,(lhd ⟨iI ▸ hT.2,hT.1⟩),rfl⟩,(q8z hsz aO ab).trans ?_⟩));kernel_rfl
    case done=>exact fun _ _ h=>h
   case rest =>
    obtain⟨w2,fa,fc,HW,rfl⟩:=hcut;refine cD _ _ ?_;go_wp2;go_roundw
    case measure=>simp[vI];omega
    case rel =>
     have cC:is+m=(i+1)*m:=by rw[HK.a5,Nat.add_mul,Nat.one_mul]
     have dC:=fun (q:Nat) (x:ε) (hx:wr ⟨w+1+1,q,Z⟩=Y x)=>(HW.out.2.cell (p:=⟨w+1+1,q,Z⟩) (by simp)).trans (J HK.b9 hx)
     have cL:=(HW.out.2.frozen (p:=⟨w+1+1,3,Z⟩) (by simp)).trans tJ.out.2;refine⟨i+1,O fa (is+m) fc,qh (by omega),by omega,(lhd ⟨x8 (dC 0 _ HR.out.1) (by simp),x8 (dC 1 _ HR.a1) (by simp),x8 (dC 2 _ HR.a2) (by simp),World.cell?_setCell_same' _ _ _ (by rw[dC 3 _ HR.a3];rfl),by simpa [World.frozen?_setCell]using cL,?_⟩),(lhd ((HK.a8.trans (HW.out.2.mono (by omega))).setCell (by simp) _))⟩;rw[<-cC];refine qji ?_ (fun b hb=>?_) _
     ·rw[qk3 lY.a1,HK.a4,vk];exact HW.out.1
     ·have:=(HW.out.1.lt b hb).1;show b≠w+1+1;omega
  ·have hie:i=n:=by omega
   have bX:∀ {q:Nat} {c:Nat} {x:ε},q<w+2->W ⟨q,c,Z⟩=Y x->wr ⟨q,c,Z⟩=Y x:=fun hq hx=>(HB.out.cell (by exact hq)).trans hx
   obtain⟨s0,s1,s2,s3,sz,hw,aG⟩:=HC.b2;have r0:=bX (by omega) s0;have r1:=bX (by omega) s1;have r2:=bX (by omega) s2;have r3:=bX (by omega) s3;have z0:=(HB.out.frozen (p:=(w+1:Nat)) (by simp)).trans (sz 0);have z1:=(HB.out.frozen (p:=⟨w+1,1,Z⟩) (by simp)).trans (sz 1);have z2:=(HB.out.frozen (p:=⟨w+1,2,Z⟩) (by simp)).trans (sz 2);have z3:=(HB.out.frozen (p:=⟨w+1,3,Z⟩) (by simp)).trans (sz 3);have x0:=HR.out.1;have x1:=HR.a1;have x2:=HR.a2;obtain⟨oa,oc,pq⟩:=qj HR.b5;subst pq;have x3:=HR.a3;have HQ:=yh aT HR.b5 hie;obtain⟨im,aD⟩:=x4 (i*m);rw[<-aD]at x3 HQ;have UU:=lhd aD;clear bX s0 s1 s2 s3 sz hw aG aT hie aD;go_wp2_with fail;obtain⟨e0,e1,e2,e3⟩:=q1f r0 r1 r2 r3;have al:=HQ.a1;have hie:=HQ.b2;rw[hie,gr (by have h9:=HH.a7;omega)]at al;have ak:∀b,(O oa im oc).ownBlock=Y b->b≠w+1:=fun b hb=>by have:=(al.lt b hb).1;omega
   refine bodyPost_ret (v:=I #[p,n,m,O oa im oc]) (by simp[results,Tryz.results59,go_sem,e0,e1,e2,e3]) rfl ⟨_,rfl,⟨_,rfl,?_,?_⟩,jj HQ.out.1 (by omega) _ _ _ _⟩
   ·have aD:im=n*m:=by rw[UU.out,hie]
    rw[aD]at al ak ⊢;exact vl (qf al (by omega)) ak _ _ _ _
   ·rw[HH.a7];exact qoi HH.a1 HH.a5 HH.a6
