/- Steps towards SequenceChecks. Conditions: none. -/
import Derived.Test.YtmkpbhaoalbhjaaGreatDoorXRw
set_option maxRecDepth 1000000
set_option maxHeartbeats 0
open Go.Value renaming slice→O,agg→I,pointer→σ,bool→τ,int→H,tuple→ψ
open Option renaming none→Z,some→Y
open Go renaming undef→V,World→δ,Value→ε
open Go.IntKind renaming i64→φ
open Go.Cx renaming keep→J
namespace Go.Cx
open Go.RowKit Go.Proofs.YtmkpbhaoalbhjaaGreatDoor
def qe9 (p:Int)(A B M U:List Cl):Nat->List Nat
 |0=>[]
 |j+1=>qeg p A B M U j
def qal (p:Int)(A B M U:List Cl):Nat->List Mx
 |0=>[]
 |j+1=>q9j p A B M U j
theorem qkc (p:Int)(A B M U:List Cl)(j:Nat):qe9 p A B M U (j+1)=qml p A B M U (j:Int)++qe9 p A B M U j:=by
 cases j with
 |zero=>show qml p A B M U 0=_;simp[qe9]
 |succ j=>rfl
theorem qea (p:Int)(A B M U:List Cl)(j:Nat):qal p A B M U (j+1)=qib p A B M U (j:Int)++qal p A B M U j:=by
 cases j with
 |zero=>show qib p A B M U 0=_;simp[qal]
 |succ j=>rfl
theorem qj0 (p:Int)(A B M U:List Cl):∀n,(qeg p A B M U n).length=3*n+3
 |0=>rfl
 |n+1=>by show (qml p A B M U ((n+1:Nat):Int)++qeg p A B M U n).length=_;rw[gw,qj0 p A B M U n];show 3+_=_;omega
theorem qj1 (p:Int)(A B M U:List Cl):∀n,(q9j p A B M U n).length=3*n+2
 |0=>rfl
 |n+1=>by show (qib p A B M U ((n+1:Nat):Int)++q9j p A B M U n).length=_;rw[gw,qj1 p A B M U n];unfold qib;rw[if_pos (by omega)];show 3+_=_;omega
theorem qeb {K L:List Cl}(GK:Good K)(GL:Good L)(h:q6v K L)(d:Int):nId K d<=nId L d :=
 (qmm GK d).length_le_of_subset fun c hc=>h.ids GK GL d c hc
structure qva (A B M U:List Cl)(p:Int):Prop extends Cov A B M U where
 ev:∀d:Nat,d<=(q5i U).toNat->((qef p M A d).isSome=true/\(qef p M B d).isSome=true/\(qef p A U d).isSome=true/\(qef p B U d).isSome=true)/\(d≠0->(qt9 p A M U d).isSome=true)
theorem qj2 {p:Int}{A B M U:List Cl}{n d hA hB hM hU dP:Nat}{D D3:List Int}(h:D++(qe9 p A B M U (d+1)).map Int.ofNat=(qeg p A B M U n).map Int.ofNat)(h3:D3=((D++[(hM:Int)])++[(dP:Int)])++[(hU:Int)])(eM:hM=hK p M d)(eA:hA=hK p A d)(eB:hB=hK p B d)(eU:hU=hK p U d)(F2:dP=hA+hB) :
  D3++(qe9 p A B M U d).map Int.ofNat=(qeg p A B M U n).map Int.ofNat:=by
 rw[<-h,qkc,h3,F2,eA,eB,eM,eU];unfold qml;simp
theorem qnp {p:Int}{A B M U:List Cl}{n hA hB hM hU dP:Nat}{L:List Fc}{y1 y2:Fc}(h:L.map Fc.q++(qal p A B M U (0+1)).map (Mx.q p)=(q9j p A B M U n).map (Mx.q p))(eM:hM=hK p M (0:Nat))(eA:hA=hK p A (0:Nat))(eB:hB=hK p B (0:Nat))(eU:hU=hK p U (0:Nat))(F2:dP=hA+hB)
  (h1:y1.q=Mx.q p ⟨dP,hM,yu p M A (0:Nat)++yu p M B (0:Nat)⟩) (h2:y2.q=Mx.q p ⟨hU,dP,jl (yu p A U (0:Nat)) (q4d p (yu p B U (0:Nat)))⟩) :
  ((L++[y1])++[y2]).map Fc.q++(qal p A B M U 0).map (Mx.q p)=(q9j p A B M U n).map (Mx.q p):=by
 rw[<-h,qea];unfold qib;rw[if_neg (by omega),F2,eA,eB,eM]at *;rw[eU]at h2;simp[h1,h2]
theorem qqh {p:Int}{A B M U:List Cl}{n d hA hB hM hU dP fT:Nat}{L:List Fc}{y1 y2 y3:Fc}{X3:List (List Int)}(hd:d≠0)(h:L.map Fc.q++(qal p A B M U (d+1)).map (Mx.q p)=(q9j p A B M U n).map (Mx.q p))(eM:hM=hK p M d)(eA:hA=hK p A d)(eB:hB=hK p B d)(eU:hU=hK p U d)(F2:dP=hA+hB)
  (h1:y1.q=Mx.q p ⟨dP,hM,yu p M A d++yu p M B d⟩) (h2:y2.q=Mx.q p ⟨hU,dP,jl (yu p A U d) (q4d p (yu p B U d))⟩) (Vl:fT=hK p M ((d:Int)-1)) (hX:qt9 p A M U d=Y X3) (h3:y3.q=Mx.q p ⟨fT,hU,X3⟩) :
  (((L++[y1])++[y2])++[y3]).map Fc.q++(qal p A B M U d).map (Mx.q p)=(q9j p A B M U n).map (Mx.q p):=by
 rw[<-h,qea];subst F2 eA eB eM eU Vl;unfold qib;rw[if_pos (by omega),hX];simp[h1,h2,h3]
end Go.Cx
namespace Go.Proofs.YtmkpbhaoalbhjaaGreatDoor
open Go.RowKit Go.Cx
attribute [local go_sem ↓] Go.wp_at_zero Go.wp_at_succ
theorem q4p {w:δ}{q:Nat}{x0 x1 x2 x3:Option Addr}{n0 n1 n2 n3 k0 k1 k2 k3:Nat}{p:Int}(q0:w q=O x0 n0 k0)(q1:w ⟨q,1,Z⟩=O x1 n1 k1)(q2:w ⟨q,2,Z⟩=O x2 n2 k2)(q3:w ⟨q,3,Z⟩=O x3 n3 k3)(q4:w ⟨q,4,Z⟩=p) :
  (Instr.loadAt 57 (σ q)).run Tryz.prog w=.ok (I #[O x0 n0 k0,O x1 n1 k1,O x2 n2 k2,O x3 n3 k3,p]) w:=by
 simp[go_sem,q0,q1,q2,q3,q4]
theorem qvw (p r c:Int)(a:Option Addr)(n k:Nat)(w:δ):(Instr.buildSlice 25 1 #[(0,I #[p,r,c,O a n k])]).run Tryz.prog w=.ok (O w 1 1) (w.alloc (.cells #[p,r,c,O a n k] 30)):=by
 have key:∀u:ε,(Instr.buildSlice 25 1 #[(0,I #[p,r,c,u])]).run Tryz.prog w=.ok (O w 1 1) (w.alloc (.cells #[p,r,c,u] 30)):=fun u=>by kernel_rfl
 exact key _
theorem qsd (y:Fc)(w:δ):Sl (w.alloc (.cells #[y.p,y.r,y.c,O y.a y.n y.k] 30)) 4 (O w 1 1) (cat Fc.enc [y]):=by
 refine⟨_,1,1,rfl,nlr _,by unfold maxLen;omega,rfl,(fun e=>by cases e),fun ad bR j u hj=>?_⟩;cases bR
 have DU:j<4:=(gk.1 hj).1;rw[Addr.add_lit,Nat.zero_add];refine xz w _ _ j ?_;rw[<-hj]
 match j,DU with
 |0,_=>rfl
 |1,_=>rfl
 |2,_=>rfl
 |3,_=>rfl
def BxG (b:Nat)(w:δ)(q:Nat)(p:Int)(r c:Nat)(M:List (List Int)):Prop:=∃a n k,w q=p/\w ⟨q,1,Z⟩=r/\w ⟨q,2,Z⟩=c/\w ⟨q,3,Z⟩=O a n k/\Sl w 1 (O a n k) (ints M.flatten)/\FM p r c M/\∀ad,a=Y ad->b<=ad.block
theorem BxG.keep {b:Nat}{w w':δ}{q:Nat}{p:Int}{r c:Nat}{M:List (List Int)}(h:BxG b w q p r c M)(hb:Below w w w'):BxG b w' q p r c M:=by obtain⟨a,n,k,h0,h1,h2,h3,h4,h5,h6⟩:=h;exact⟨a,n,k,J hb h0,J hb h1,J hb h2,J hb h3,h4.keep hb,h5,h6⟩
theorem qec {w:δ}{q b B:Nat}{p:Int}{D:List Int}{L:List Fc}{da ma:Option Addr}{dc mc:Nat}{y:Fc}{w':δ}(h:kf w q b p D L da dc ma mc)(hb:Below w w w')(hL:L.length<=10000)(hy:Sl w' 1 (O y.a y.n y.k) (ints y.E))(hB:w<=B)(ha:∀ad,y.a=Y ad->B<=ad.block) :
  Calls Tryz.prog 23 #[y.v,σ q] w' fun e w2=>e=.returned (ψ #[])/\(∃tg Mi,kf w2 q b p D (L++[y]) da dc tg Mi)/\Below q w' w2 :=
 qsb (h.keep hb) hL hy (fun _ ad e=>by have:=ha ad e;have:=h.lt;have:=h.bs;omega) (fun g hg _ ad e=>by have:=ha ad e;have:=(h.rd.lt g hg).2;omega) (fun g hg _ ad e=>by have:=ha ad e;have:=(h.rm.lt g hg).2;omega)
theorem qam {L:List Fc}{y:Fc}{r:Nat}(h:∀x∈L,Apx x r)(hy:Apx y r):∀x∈L++[y],Apx x r:=fun x hx=>by
 rcases gO.1 hx with hx|hx
 ·exact h x hx
 ·rw[List.mem_singleton]at hx;subst hx;exact hy
theorem qds {w:δ}{B:Nat}{x0 x1 x2:ε}(r0:w B=Y x0)(r1:w ⟨B,1,Z⟩=Y x1)(r2:w ⟨B,2,Z⟩=Y x2){y0 y1 y2:ε} :
  (((w.setCell B y0).setCell ⟨B,1,Z⟩ y1).setCell ⟨B,2,Z⟩ y2) B=Y y0/\(((w.setCell B y0).setCell ⟨B,1,Z⟩ y1).setCell ⟨B,2,Z⟩ y2) ⟨B,1,Z⟩=Y y1/\(((w.setCell B y0).setCell ⟨B,1,Z⟩ y1).setCell ⟨B,2,Z⟩ y2) ⟨B,2,Z⟩=Y y2 :=
 ⟨x8 (x8 (World.cell?_setCell_same' _ _ _ (by rw[r0];rfl)) (by simp)) (by simp),
  x8 (World.cell?_setCell_same' _ _ _ (by rw[x8 r1 (by simp)];rfl)) (by simp),
  World.cell?_setCell_same' _ _ _ (by rw[x8 (x8 r2 (by simp)) (by simp)];rfl)⟩
theorem qse {w:δ}{v u:ε}{A B M U:List Cl}{p:Int}(h:Kx w v A)(k:Kx w u B)(Eq:Ops A B M U)(C:qva A B M U p)(hp:prI p=true)(hd:q5i U<=800) :
  Calls Tryz.prog 10 #[v,u,p] w fun e w'=>∃y L,e=.returned (ψ #[y,H φ 0])/\SqV w' y p ((qeg p A B M U (q5i U).toNat).map Int.ofNat) L/\L.map Fc.q=(q9j p A B M U (q5i U).toNat).map (Mx.q p)/\Below w w w':=by
 obtain⟨a0,n0,k0,rfl⟩:=h.shape;obtain⟨a1,n1,k1,rfl⟩:=k.shape;obtain⟨jL,iR,eP⟩:=q3r hp;obtain⟨n,hn⟩:=x4 ((q5i U).toNat);have XP:n<=800:=by omega
 rw[<-hn];have lG:=Eq.few;have kF:∀d,nId A d<=100:=fun d=>gd (qeb C.a C.u C.au d) (lG d)
 have oI:∀d,nId B d<=100:=fun d=>gd (qeb C.b C.u C.bu d) (lG d)
 have oe:∀d,nId M d<=100:=fun d=>gd (qeb C.m C.a C.ma d) (kF d)
 have HH:=qb4 h k Eq C hp lG kF oI oe eP hn;clear h k Eq C hp lG kF oI oe eP hn hd jL iR;go_enter Tryz.func10,Tryz.ntmps10;go_wp2_with fail;obtain⟨W,hW⟩:=x4 (((w.alloc (.cells #[O a0 n0 k0] 36)).alloc (.cells #[O a1 n1 k1] 36)).alloc (.cells #[H φ 0,O Z 0 0,O Z 0 0] 27));rw[<-hW];have hw:Below w w W:=by rw[hW];exact(((q9).alloc (nlr _) _).alloc (by simp) _).alloc (by simp;omega) _
 have aG:W.heap.size=w+3:=by rw[hW];simp
 have r0:W (w+1+1:Nat)=H φ 0:=by rw[hW];exact jw w _ _ _ _ 0 rfl
 have r1:W ⟨w+1+1,1,Z⟩=O Z 0 0:=by rw[hW];exact jw w _ _ _ _ 1 rfl
 have r2:W ⟨w+1+1,2,Z⟩=O Z 0 0:=by rw[hW];exact jw w _ _ _ _ 2 rfl
 have rz:∀i,W.frozen? ⟨w+1+1,i,Z⟩=false:=fun i=>by rw[hW];exact q1e w _ _ _ _ i
 have HC:=kp hw aG r0 r1 r2 rz;clear hW hw aG r0 r1 r2 rz;refine(qqa (HH.out.1.keep HC.out.1) (HH.a1.keep HC.out.1) HH.a2 HH.a4).mono ?_;rintro e w1 ⟨y,rfl,hy,ae⟩;obtain⟨aa,an,ac,ba,bn,bc,ma,mn,mc,ua,un,uc,rfl,kA,kB,kM,kU⟩:=hy;obtain⟨q8,fU⟩:=x4 w1.heap.size;obtain⟨q,hq⟩:=x4 (w1.heap.size+1);obtain⟨C1,hV⟩:=x4 ((w1.alloc (.cells #[O aa an ac,O ba bn bc,O ma mn mc,O ua un uc,p] 57)).alloc (.cells #[p,O Z 0 0,O Z 0 0] 27));have fu:Below w1 w1 C1:=by rw[hV];exact((q9).alloc (nlr _) _).alloc (by simp) _
 have v0:C1 q8=O aa an ac:=by rw[hV,fU];exact qk (xz w1 _ _ 0 rfl) _
 have v1:C1 ⟨q8,1,Z⟩=O ba bn bc:=by rw[hV,fU];exact qk (xz w1 _ _ 1 rfl) _
 have v2:C1 ⟨q8,2,Z⟩=O ma mn mc:=by rw[hV,fU];exact qk (xz w1 _ _ 2 rfl) _
 have v3:C1 ⟨q8,3,Z⟩=O ua un uc:=by rw[hV,fU];exact qk (xz w1 _ _ 3 rfl) _
 have v4:C1 ⟨q8,4,Z⟩=p:=by rw[hV,fU];exact qk (xz w1 _ _ 4 rfl) _
 have s0:C1 q=p:=by rw[hV,hq];exact zx w1 _ _ _ 0 rfl
 have s1:C1 ⟨q,1,Z⟩=O Z 0 0:=by rw[hV,hq];exact zx w1 _ _ _ 1 rfl
 have s2:C1 ⟨q,2,Z⟩=O Z 0 0:=by rw[hV,hq];exact zx w1 _ _ _ 2 rfl
 have sz:∀i,C1.frozen? ⟨q,i,Z⟩=false:=fun i=>by rw[hV,hq];exact vo w1 _ _ _ i
 have pI:q8<q/\q+1=C1.heap.size/\W<=q8:=by rw[hV,fU,hq];exact⟨Nat.lt_succ_self _,by simp,ae.size⟩
 have ag:kf C1 q (q+1) p [] [] Z 0 Z 0:=⟨s0,s1,s2,sz,World.ownsRow_nil _ _ _ _,World.ownsRow_nil _ _ _ _,(fun b hb=>by cases hb),Nat.lt_succ_self _,by omega,(fun x hx=>by cases hx),(fun x hx=>by cases hx),(fun x hx=>by cases hx),(fun x hx=>by cases hx)⟩
 have Iu:Below W W C1:=(btr ae fu);have HV:=qb4 kA kB kM kU ag pI Iu hV fU hq fu;have ti:=kg v0 v1 v2 v3 v4;clear kA kB kM kU ag pI Iu v0 v1 v2 v3 v4 s0 s1 s2 sz fu hV fU hq ae;go_wp2_with fail;rw[<-HV.a7];refine(qpj (HV.a3.keep HV.b10)).mono ?_;rintro e w3 ⟨rfl,aw⟩;have Bp:max (q5i U) 0=(n:Int):=by have:=HH.b10;omega
 have F3:Below C1.heap.size C1 w3:=aw;have dh:=lhd F3;clear aw F3;go_wp2_with fail;rw[<-HV.a9,<-HV.a8];clear Bp;go_loopw [13,14,15,16,17] (fun x _ _ _ _ wr=>∃(i:Int) (j:Nat) (D:List Int) (L:List Fc) (da:Option Addr) (dc:Nat) (la:Option Addr) (lc:Nat),x=i/\i+1=j/\j<=n+1/\Hid (kf wr q (q+1) p D L da dc la lc)/\Hid (D++(qe9 p A B M U j).map Int.ofNat=(qeg p A B M U n).map Int.ofNat)/\Hid (L.map Fc.q++(qal p A B M U j).map (Mx.q p)=(q9j p A B M U n).map (Mx.q p))/\Hid (∀x∈L,Apx x (w+1+1))/\Hid (Below q C1 wr)) (fun x _ _ _ _ _=>(vI x+1).toNat)
 case atStart=>exact⟨(n:Int),n+1,[],[],Z,0,Z,0,rfl,by omega,nlr _,(lhd (HV.a4.keep dh.out)),(lhd rfl),(lhd rfl),(lhd (fun x hx=>by cases hx)),(lhd (dh.out.mono (by have:=HV.a5;omega)))⟩
 case round =>
  obtain⟨i,j,D,L,da,dc,la,lc,rfl,iu,ly,HS,HD,HM,HX,HB⟩:=hrel;have OF:w+1+1<q:=by have:=HV.a5;have:=HC.a1;omega
  have Mk:q<=wr:=by have:=HS.out.lt;have:=HS.out.bs;omega
  have hk:∀u,Below q wr u->Kx u (I #[O aa an ac]) A/\Kx u (I #[O ba bn bc]) B/\Kx u (I #[O ma mn mc]) M/\Kx u (I #[O ua un uc]) U:=fun u hb=>by have h0:Below w1 w1 u:=HV.b10.trans ((HB.out.trans hb).mono (by have:=HV.a5;have:=HV.a8;omega));exact⟨HV.out.1.keep h0,HV.a1.keep h0,HV.a2.keep h0,HV.a3.keep h0⟩
  have hc:∀u,Below q wr u->u q8=O aa an ac/\u ⟨q8,1,Z⟩=O ba bn bc/\u ⟨q8,2,Z⟩=O ma mn mc/\u ⟨q8,3,Z⟩=O ua un uc/\u ⟨q8,4,Z⟩=p:=fun u hb=>by
   have h0:Below q C1 u:=HB.out.trans hb;have h1:∀(i:Nat) (x:ε),C1 ⟨q8,i,Z⟩=Y x->u ⟨q8,i,Z⟩=Y x:=fun i x hx=>(h0.cell (by have:=HV.a5;show q8<q;omega)).trans hx
   exact⟨h1 _ _ ti.out.1,h1 _ _ ti.a1,h1 _ _ ti.a2,h1 _ _ ti.a3,h1 _ _ ti.b4⟩
  by_cases hj:j=0
  ·subst hj;obtain rfl:i=-1:=by omega
   have ny:Below W W wr:=HV.a6.trans (HB.out.mono (by have:=HV.a5;have:=HV.a6.size;omega));have ak:w.heap.size+1+1<W:=by have:=HC.a1;omega
   have r0:=J ny HC.a2;have r1:=J ny HC.a3;have r2:=J ny HC.a4;have z0:=xf ny ak (HC.b5 0);have z1:=xf ny ak (HC.b5 1);have z2:=xf ny ak (HC.b5 2);have c0:=HS.out.c0;have c1:=HS.out.c1;have c2:=HS.out.c2;obtain⟨dl,aP⟩:=x4 D.length;obtain⟨ll,aW⟩:=x4 L.length;rw[<-aP]at c1;rw[<-aW]at c2;have HL:=yt aP aW ny OF;clear hk hc iu ly ny ak aP aW Mk;go_wp2_with fail;obtain⟨t0,t1,t2⟩:=qds r0 r1 r2 (y0:=p) (y1:=O da dl dc) (y2:=O la ll lc);refine bodyPost_ret (v:=ψ #[I #[p,O da dl dc,O la ll lc],H φ 0]) (by simp[results,Tryz.results10,go_sem,t0,t1,t2]) rfl ⟨_,L,rfl,?_,?_,?_⟩
   ·have Vm:D=(qeg p A B M U n).map Int.ofNat:=by have:=HD.out;simpa [qe9]using this
    have yT:∀(st:Nat) (e:TypeId) (v:ε) (m:Nat) (xs:List ε),wr.ownsRow (q+1) e st v m xs->∀k,v.ownBlock=Y k->k≠w+1+1:=fun st e v m xs hr k hk=>by have:=(hr.lt k hk).1;have:=HL.b3;omega
    have kZ:=HS.out.rd;have l7:=HS.out.rm;rw[<-HL.out.1]at kZ;rw[<-HL.a1]at l7;refine⟨_,_,rfl,?_,?_,fun x hx=>?_⟩
    ·rw[<-Vm];exact Sl.qc (qji (qji (qji kZ (yT _ _ _ _ _ kZ) _) (yT _ _ _ _ _ kZ) _) (yT _ _ _ _ _ kZ) _)
    ·exact Sl.qc (qji (qji (qji l7 (yT _ _ _ _ _ l7) _) (yT _ _ _ _ _ l7) _) (yT _ _ _ _ _ l7) _)
    ·refine qhm (HS.out.mx x hx) fun ad ha hE pp u hp hc=>?_
     have ah:pp.block≠w+1+1:=by rw[hp];exact HX.out x hx hE ad ha
     exact xe (xe (xe hc ah) ah) ah
   ·have:=HM.out;simpa [qal]using this
   ·exact((((btr HC.out.1 HL.a2)).setCell (p:=(w+1+1:Nat)) (by show w.heap.size<=w+1+1;omega) _).setCell (p:=⟨w+1+1,1,Z⟩) (by show w.heap.size<=w+1+1;omega) _).setCell (p:=⟨w+1+1,2,Z⟩) (by show w.heap.size<=w+1+1;omega) _
  ·obtain⟨d,rfl⟩:∃d,j=d+1:=⟨j-1,by omega⟩
   obtain rfl:i=(d:Int):=by omega
   have tX : -900<=(d:Int)/\(d:Int)<=900:=by omega
   have GO:D.length<=2410:=by have h1:=congrArg List.length HD.out;rw[gw,gp,gp,qj0]at h1;omega
   have Qy:L.length<=2410:=by have h1:=congrArg List.length HM.out;rw[gw,gp,gp,gp,qj1]at h1;omega
   have nC:∀u,Below q wr u->CvV u (I #[O aa an ac,O ba bn bc,O ma mn mc,O ua un uc,p]) p A B M U:=fun u hb=>⟨_,_,_,_,_,_,_,_,_,_,_,_,rfl,(hk u hb).1,(hk u hb).2.1,(hk u hb).2.2.1,(hk u hb).2.2.2⟩
   obtain⟨hA,F4⟩:=x4 (hK p A d);obtain⟨hB,F5⟩:=x4 (hK p B d);obtain⟨hM,F7⟩:=x4 (hK p M d);obtain⟨hU,F8⟩:=x4 (hK p U d);obtain⟨dP,AQ⟩:=x4 (hA+hB);obtain⟨-,-,-,C,hp,lG,kF,oI,oe,eP,-⟩:=HH.out;have lA:hA<=100:=by rw[F4];exact gd (qft eP) (kF d)
   have lB:hB<=100:=by rw[F5];exact gd (qft eP) (oI d)
   have lM:hM<=100:=by rw[F7];exact gd (qft eP) (oe d)
   have lU:hU<=100:=by rw[F8];exact gd (qft eP) (lG d)
   have F9:∀u,Below q wr u →
     (Calls Tryz.prog 25 #[I #[O aa an ac,O ba bn bc,O ma mn mc,O ua un uc,p],I #[O aa an ac],d] u fun e w'=>e=.returned (hA:Nat)/\Below u.heap.size u w') ∧
     (Calls Tryz.prog 25 #[I #[O aa an ac,O ba bn bc,O ma mn mc,O ua un uc,p],I #[O ba bn bc],d] u fun e w'=>e=.returned (hB:Nat)/\Below u.heap.size u w') ∧
     (Calls Tryz.prog 25 #[I #[O aa an ac,O ba bn bc,O ma mn mc,O ua un uc,p],I #[O ma mn mc],d] u fun e w'=>e=.returned (hM:Nat)/\Below u.heap.size u w') ∧
     (Calls Tryz.prog 25 #[I #[O aa an ac,O ba bn bc,O ma mn mc,O ua un uc,p],I #[O ua un uc],d] u fun e w'=>e=.returned (hU:Nat)/\Below u.heap.size u w'):=fun u hb=>by
    rw[F4,F5,F7,F8];exact⟨qlu (nC u hb) (hk u hb).1 hp tX kF,qlu (nC u hb) (hk u hb).2.1 hp tX oI,qlu (nC u hb) (hk u hb).2.2.1 hp tX oe,qlu (nC u hb) (hk u hb).2.2.2 hp tX lG⟩
   have FB:∀u,Below q wr u →
     (Calls Tryz.prog 27 #[I #[O aa an ac,O ba bn bc,O ma mn mc,O ua un uc,p],I #[O ma mn mc],I #[O aa an ac],d] u fun e w'=>∃z,e=.returned z/\FmF u.heap.size w' z p hA hM (yu p M A d)/\Below u.heap.size u w') ∧
     (Calls Tryz.prog 27 #[I #[O aa an ac,O ba bn bc,O ma mn mc,O ua un uc,p],I #[O ma mn mc],I #[O ba bn bc],d] u fun e w'=>∃z,e=.returned z/\FmF u.heap.size w' z p hB hM (yu p M B d)/\Below u.heap.size u w') ∧
     (Calls Tryz.prog 27 #[I #[O aa an ac,O ba bn bc,O ma mn mc,O ua un uc,p],I #[O aa an ac],I #[O ua un uc],d] u fun e w'=>∃z,e=.returned z/\FmF u.heap.size w' z p hU hA (yu p A U d)/\Below u.heap.size u w') ∧
     (Calls Tryz.prog 27 #[I #[O aa an ac,O ba bn bc,O ma mn mc,O ua un uc,p],I #[O ba bn bc],I #[O ua un uc],d] u fun e w'=>∃z,e=.returned z/\FmF u.heap.size w' z p hU hB (yu p B U d)/\Below u.heap.size u w'):=fun u hb=>by
    rw[F4,F5,F7,F8];have ev:=(C.ev d (by have:=HH.b10;omega)).1;exact⟨qlv (nC u hb) (hk u hb).2.2.1 (hk u hb).1 C.ma hp tX oe kF ev.1,qlv (nC u hb) (hk u hb).2.2.1 (hk u hb).2.1 C.mb hp tX oe oI ev.2.1,qlv (nC u hb) (hk u hb).1 (hk u hb).2.2.2 C.au hp tX kF lG ev.2.2.1,qlv (nC u hb) (hk u hb).2.1 (hk u hb).2.2.2 C.bu hp tX oI lG ev.2.2.2⟩
   have Vn:IntKind.i64.wrap ((hA:Int)+(hB:Int))=(dP:Int):=by rw[IntWalk.i64_in _ (by omega),AQ,Int.natCast_add]
   obtain⟨e0,e1,e2,e3,e4⟩:=hc wr q9;have HQ:=q5h hk hc nC F9 FB Mk GO Qy;have HN:=q5h F4 F5 F7 F8 AQ hp eP C;have FC:=yt lG kF oI oe;clear hk hc nC F9 FB Mk GO Qy F4 F5 F7 F8 AQ hp eP C lG kF oI oe iu;go_wp2_with fail;refine(HQ.a3 wr q9).2.2.1.mono ?_;rintro e w4 ⟨rfl,aN⟩;have h4:=HS.out.keep aN;have jF:=jg aN h4;clear aN h4 e0 e1 e2 e3 e4;go_wp2_with fail;refine(qho (n:=(hM:Int)) jF.out.2 (by have:=HQ.a6;omega)).mono ?_;rintro e w5 ⟨rfl,⟨XQ,XR,h5⟩,aC⟩;have aS:Below q wr w5:=(jF.out.1.mono HQ.a5).trans aC;have Ml:q<=w5:=by have:=h5.lt;have:=h5.bs;omega
   obtain⟨e0,e1,e2,e3,e4⟩:=HQ.a1 w5 aS;have H5:=jg h5 aS;clear h5 aC aS;go_wp2_with fail
   go_cut []from 48 to 60 (fun wx=>∃(Cv:Option Addr) (Cw:Nat),Hid (kf wx q (q+1) p ((D++[(hM:Int)])++[(dP:Int)]) L Cv Cw la lc/\Below q w5 wx))
   case first =>
    rename_i At K2 hJ aQ;refine q01 rfl (fun i v w'=>match i with
     |0=>v=.func (.func 22) #[] #[σ q]
     |1=>v=I #[O aa an ac,O ba bn bc,O ma mn mc,O ua un uc,p]
     |2=>v=σ q8
     |3=>v=I #[O aa an ac]
     |4=>v=(d:Int)
     |5=>v=(hA:Int)
     |6=>v=I #[O aa an ac,O ba bn bc,O ma mn mc,O ua un uc,p]
     |7=>v=σ (Y ⟨q8,1,Z⟩)
     |8=>v=I #[O ba bn bc]
     |9=>v=(d:Int)
     |10=>v=(hB:Int)
     |11=>v=(dP:Int)
     |_=>True) (fun _=>false) bkT [] (fun _ v=>v) (by kernel_rfl) 12 20 130 rfl (by kernel_rfl) (by kernel_rfl) (by kernel_rfl) ?keep11 ?step11 ?mid11
    case keep11 =>
     intro i v w1 w2 h hb
     match i,h with
     |0,h=>exact h
     |1,h=>exact h
     |2,h=>exact h
     |3,h=>exact h
     |4,h=>exact h
     |5,h=>exact h
     |6,h=>exact h
     |7,h=>exact h
     |8,h=>exact h
     |9,h=>exact h
     |10,h=>exact h
     |11,h=>exact h
     |i+12,h=>trivial
    case step11 =>
     intro i o ho aD b w' hw hd ab hsz
     match i,ho,hd with
     |0,rfl,_ =>exact jo (.inl rfl) ⟨_,rfl,(zr je ab 11),j7 q9 rfl rfl⟩
     |1,rfl,_ =>exact jm rfl (zr je ab 8) (q4p (J hw e0) (J hw e1) (J hw e2) (J hw e3) (J hw e4)) ⟨_,rfl,rfl,j7 q9 rfl rfl⟩
     |2,rfl,_ =>exact yb rfl (zr je ab 8) (kj w' _ 0 (by decide)) ⟨_,rfl,rfl,j7 q9 rfl rfl⟩
     |3,rfl,hd =>exact jm rfl (zf hd 2) (vq (J hw e0)) ⟨_,rfl,rfl,j7 q9 rfl rfl⟩
     |4,rfl,_ =>exact jo (.inl rfl) ⟨_,rfl,(zr je ab 13),j7 q9 rfl rfl⟩
     |5,rfl,hd =>
      have Fy:b 49 V=I #[O aa an ac,O ba bn bc,O ma mn mc,O ua un uc,p]:=(zf hd 1)
      have Vo:b 51 V=I #[O aa an ac]:=(zf hd 3)
      have Mm:b 52 V=(d:Int):=(zf hd 4)
      exact q0e rfl #[I #[O aa an ac,O ba bn bc,O ma mn mc,O ua un uc,p],I #[O aa an ac],(d:Int)] (by rw[<-Fy,<-Vo,<-Mm];simp[Act.eval]) ((HQ.a3 w' (H5.out.2.trans (hw.mono Ml))).1.mono fun e w2 h=>⟨_,h.1,_,rfl,rfl,h.2,fun h=>absurd h (by decide),fun c hc h=>absurd h ((by decide:∀c∈([] : List (Nat×Nat)),c.1≠5) c hc)⟩)
     |6,rfl,_ =>exact jm rfl (zr je ab 8) (q4p (J hw e0) (J hw e1) (J hw e2) (J hw e3) (J hw e4)) ⟨_,rfl,rfl,j7 q9 rfl rfl⟩
     |7,rfl,_ =>exact yb rfl (zr je ab 8) (kj w' _ 1 (by decide)) ⟨_,rfl,rfl,j7 q9 rfl rfl⟩
     |8,rfl,hd =>exact jm rfl (zf hd 7) (vq (J hw e1)) ⟨_,rfl,rfl,j7 q9 rfl rfl⟩
     |9,rfl,_ =>exact jo (.inl rfl) ⟨_,rfl,(zr je ab 13),j7 q9 rfl rfl⟩
     |10,rfl,hd =>
      have Mh:b 54 V=I #[O aa an ac,O ba bn bc,O ma mn mc,O ua un uc,p]:=(zf hd 6)
      have Vp:b 56 V=I #[O ba bn bc]:=(zf hd 8)
      have Vq:b 57 V=(d:Int):=(zf hd 9)
      exact q0e rfl #[I #[O aa an ac,O ba bn bc,O ma mn mc,O ua un uc,p],I #[O ba bn bc],(d:Int)] (by rw[<-Mh,<-Vp,<-Vq];simp[Act.eval]) ((HQ.a3 w' (H5.out.2.trans (hw.mono Ml))).2.1.mono fun e w2 h=>⟨_,h.1,_,rfl,rfl,h.2,fun h=>absurd h (by decide),fun c hc h=>absurd h ((by decide:∀c∈([] : List (Nat×Nat)),c.1≠10) c hc)⟩)
     |11,rfl,hd =>exact q0n rfl (zf hd 5) (zf hd 10) rfl (q1u Vn _) ⟨_,rfl,rfl,j7 q9 rfl rfl⟩
     |i+12,ho,hd =>omega
    case mid11 =>
     intro b9 w2 hsz aO hf ab hw fD _;have g0:b9 48 V=.func (.func 22) #[] #[σ q]:=hf 0 _ _ rfl rfl (by decide);have g11:b9 59 V=(dP:Int):=hf 11 _ _ rfl rfl (by decide);refine⟨fun k a1 u1=>match k with|0=>a1=b9/\u1=w2|_=>a1=b9.put (Y 60) (ψ #[])/\(∃(Cv:Option Addr) (Cw:Nat),kf u1 q (q+1) p ((D++[(hM:Int)])++[(dP:Int)]) L Cv Cw la lc/\Below q w5 u1),⟨rfl,rfl⟩,fun k o ho a1 u1 h1=>?_,fun a1 u1 h1=>?_⟩
     ·match k,ho,h1 with
      |0,ho,⟨h1,h2⟩ =>subst h1 h2;obtain rfl:=osi ho;exact⟨rfl,qht _ 22 #[σ q] _ _ rfl (fun _ _=>rfl) g0 #[(dP:Int)] (by rw[<-g11];simp[Act.eval]) ((qho (n:=(dP:Int)) (H5.out.1.keep hw) (by have:=HQ.a6;simp;omega)).mono fun e w3 ⟨h1,⟨x1,x2,h2⟩,h3⟩=>⟨_,h1,rfl,x1,x2,h2,(hw.mono Ml).trans h3⟩)⟩
      |k+1,ho,h1 =>have:12+(k+1)<13:=(gh.1 ho).1;omega
     ·obtain⟨rfl,hP⟩ : a1=b9.put (Y 60) (ψ #[])/\(∃(Cv:Option Addr) (Cw:Nat),kf u1 q (q+1) p ((D++[(hM:Int)])++[(dP:Int)]) L Cv Cw la lc/\Below q w5 u1):=h1;have sS:(b9.put (Y 60) (ψ #[])).tmps.size=130:=by show (b9.tmps.setIfInBounds _ _).size=_;simpa using hsz
      refine aQ _ _ (Met.intro (hJ _ _ ⟨(b9.put (Y 60) (ψ #[])).tmps.getD 48 V,(b9.put (Y 60) (ψ #[])).tmps.getD 49 V,(b9.put (Y 60) (ψ #[])).tmps.getD 50 V,(b9.put (Y 60) (ψ #[])).tmps.getD 51 V,(b9.put (Y 60) (ψ #[])).tmps.getD 52 V,(b9.put (Y 60) (ψ #[])).tmps.getD 53 V,(b9.put (Y 60) (ψ #[])).tmps.getD 54 V,(b9.put (Y 60) (ψ #[])).tmps.getD 55 V,(b9.put (Y 60) (ψ #[])).tmps.getD 56 V,(b9.put (Y 60) (ψ #[])).tmps.getD 57 V,(b9.put (Y 60) (ψ #[])).tmps.getD 58 V,(b9.put (Y 60) (ψ #[])).tmps.getD 59 V,(b9.put (Y 60) (ψ #[])).tmps.getD 60 V,hP.elim fun x1 hP=>hP.elim fun x2 hP=>⟨x1,x2,(lhd hP)⟩,(q8z sS aO (q9w (i:=12) (o:=?o60) ?h60 ?d60 fun s hs=>ab s fun i o _ ho=>hs i o ho)).trans ?_⟩))
      case h60=>rfl
      case d60=>rfl
      kernel_rfl
   case rest =>
    obtain⟨Cv,Cw,H6⟩:=hcut;obtain⟨w6,sw⟩:=x4 wc;subst sw;have ns:Below q wr w6:=H5.out.2.trans H6.out.2;have tV:q<=w6:=by have:=H6.out.1.lt;have:=H6.out.1.bs;omega
    clear e0 e1 e2 e3 e4;obtain⟨e0,e1,e2,e3,e4⟩:=HQ.a1 w6 ns;have qL:=lhd ns;clear ns;go_wp2_with fail;refine(HQ.a3 w6 qL.out).2.2.2.mono ?_;rintro e w7 ⟨rfl,cq⟩;have lE:=lhd cq;clear cq e0 e1 e2 e3 e4;go_wp2_with fail;refine(qho (n:=(hU:Int)) (H6.out.1.keep lE.out) (by have:=HQ.a6;simp;omega)).mono ?_;rintro e w8 ⟨rfl,⟨FD,FE,h8⟩,fg⟩;have qM:Below q wr w8:=qL.out.trans ((lE.out.mono tV).trans fg);have AR:q<=w8:=by have:=h8.lt;have:=h8.bs;omega
    obtain⟨e0,e1,e2,e3,e4⟩:=HQ.a1 w8 qM;obtain⟨D3,Mn⟩:=x4 (((D++[(hM:Int)])++[(dP:Int)])++[(hU:Int)]);rw[<-Mn]at h8;have H8:=yh h8 qM Mn;clear h8 fg qM Mn;go_wp2_with fail
    go_cut []from 68 to 85 (fun wx=>∃(y:Fc) (Cy:Option Addr) (Cz:Nat),Hid (y.q=Mx.q p ⟨dP,hM,yu p M A d++yu p M B d⟩/\kf wx q (q+1) p D3 (L++[y]) FD FE Cy Cz/\Below q w8 wx/\Apx y (w+1+1)))
    case first =>
     rename_i At K2 hJ aQ;refine q01 rfl (fun i v w'=>match i with
      |0=>v=.func (.func 23) #[] #[σ q]
      |1=>v=I #[O aa an ac,O ba bn bc,O ma mn mc,O ua un uc,p]
      |2=>v=σ (Y ⟨q8,2,Z⟩)
      |3=>v=I #[O ma mn mc]
      |4=>v=σ q8
      |5=>v=I #[O aa an ac]
      |6=>v=(d:Int)
      |7=>FmF w8 w' v p hA hM (yu p M A d)
      |8=>v=I #[O aa an ac,O ba bn bc,O ma mn mc,O ua un uc,p]
      |9=>v=σ (Y ⟨q8,2,Z⟩)
      |10=>v=I #[O ma mn mc]
      |11=>v=σ (Y ⟨q8,1,Z⟩)
      |12=>v=I #[O ba bn bc]
      |13=>v=(d:Int)
      |14=>FmF w8 w' v p hB hM (yu p M B d)
      |15=>∃y:Fc,Sl w' 4 v (cat Fc.enc [y])/\FmV w' y.v p hB hM (yu p M B d)
      |16=>FmF w8 w' v p dP hM (yu p M A d++yu p M B d)
      |_=>True) (fun _=>false) bkT [] (fun _ v=>v) (by kernel_rfl) 17 20 130 rfl (by kernel_rfl) (by kernel_rfl) (by kernel_rfl) ?keep13 ?step13 ?mid13
     case keep13 =>
      intro i v w1 w2 h hb
      match i,h with
      |0,h=>exact h
      |1,h=>exact h
      |2,h=>exact h
      |3,h=>exact h
      |4,h=>exact h
      |5,h=>exact h
      |6,h=>exact h
      |7,h=>exact h.keep hb
      |8,h=>exact h
      |9,h=>exact h
      |10,h=>exact h
      |11,h=>exact h
      |12,h=>exact h
      |13,h=>exact h
      |14,h=>exact h.keep hb
      |15,⟨y,h1,h2⟩=>exact⟨y,h1.keep hb,h2.keep hb⟩
      |16,h=>exact h.keep hb
      |i+17,h=>trivial
     case step13 =>
      intro i o ho aD b w' hw hd ab hsz
      match i,ho,hd with
      |0,rfl,_ =>exact jo (.inl rfl) ⟨_,rfl,(zr je ab 12),j7 q9 rfl rfl⟩
      |1,rfl,_ =>exact jm rfl (zr je ab 8) (q4p (J hw e0) (J hw e1) (J hw e2) (J hw e3) (J hw e4)) ⟨_,rfl,rfl,j7 q9 rfl rfl⟩
      |2,rfl,_ =>exact yb rfl (zr je ab 8) (kj w' _ 2 (by decide)) ⟨_,rfl,rfl,j7 q9 rfl rfl⟩
      |3,rfl,hd =>exact jm rfl (zf hd 2) (vq (J hw e2)) ⟨_,rfl,rfl,j7 q9 rfl rfl⟩
      |4,rfl,_ =>exact yb rfl (zr je ab 8) (kj w' _ 0 (by decide)) ⟨_,rfl,rfl,j7 q9 rfl rfl⟩
      |5,rfl,hd =>exact jm rfl (zf hd 4) (vq (J hw e0)) ⟨_,rfl,rfl,j7 q9 rfl rfl⟩
      |6,rfl,_ =>exact jo (.inl rfl) ⟨_,rfl,(zr je ab 13),j7 q9 rfl rfl⟩
      |7,rfl,hd =>
       have Vs:b 69 V=I #[O aa an ac,O ba bn bc,O ma mn mc,O ua un uc,p]:=(zf hd 1)
       have Ex:b 71 V=I #[O ma mn mc]:=(zf hd 3)
       have Lm:b 73 V=I #[O aa an ac]:=(zf hd 5)
       have Vt:b 74 V=(d:Int):=(zf hd 6)
       exact q0e rfl #[I #[O aa an ac,O ba bn bc,O ma mn mc,O ua un uc,p],I #[O ma mn mc],I #[O aa an ac],(d:Int)] (by rw[<-Vs,<-Ex,<-Lm,<-Vt];simp[Act.eval]) ((HQ.a4 w' (H8.a1.trans (hw.mono AR))).1.mono fun e w2 ⟨z,h1,h2,h3⟩=>⟨_,h1,_,rfl,h2.mono hw.size,j7 h3 rfl rfl⟩)
      |8,rfl,_ =>exact jm rfl (zr je ab 8) (q4p (J hw e0) (J hw e1) (J hw e2) (J hw e3) (J hw e4)) ⟨_,rfl,rfl,j7 q9 rfl rfl⟩
      |9,rfl,_ =>exact yb rfl (zr je ab 8) (kj w' _ 2 (by decide)) ⟨_,rfl,rfl,j7 q9 rfl rfl⟩
      |10,rfl,hd =>exact jm rfl (zf hd 9) (vq (J hw e2)) ⟨_,rfl,rfl,j7 q9 rfl rfl⟩
      |11,rfl,_ =>exact yb rfl (zr je ab 8) (kj w' _ 1 (by decide)) ⟨_,rfl,rfl,j7 q9 rfl rfl⟩
      |12,rfl,hd =>exact jm rfl (zf hd 11) (vq (J hw e1)) ⟨_,rfl,rfl,j7 q9 rfl rfl⟩
      |13,rfl,_ =>exact jo (.inl rfl) ⟨_,rfl,(zr je ab 13),j7 q9 rfl rfl⟩
      |14,rfl,hd =>
       have Vu:b 76 V=I #[O aa an ac,O ba bn bc,O ma mn mc,O ua un uc,p]:=(zf hd 8)
       have Vv:b 78 V=I #[O ma mn mc]:=(zf hd 10)
       have Ph:b 80 V=I #[O ba bn bc]:=(zf hd 12)
       have Pj:b 81 V=(d:Int):=(zf hd 13)
       exact q0e rfl #[I #[O aa an ac,O ba bn bc,O ma mn mc,O ua un uc,p],I #[O ma mn mc],I #[O ba bn bc],(d:Int)] (by rw[<-Vu,<-Vv,<-Ph,<-Pj];simp[Act.eval]) ((HQ.a4 w' (H8.a1.trans (hw.mono AR))).2.1.mono fun e w2 ⟨z,h1,h2,h3⟩=>⟨_,h1,_,rfl,h2.mono hw.size,j7 h3 rfl rfl⟩)
      |15,rfl,hd =>obtain⟨XS,f82,FF,Mo,_⟩ : FmF w8 w' (b 82 V) p hB hM (yu p M B d):=zf hd 14;obtain⟨ea,en,ec,rfl⟩:=qg FF;exact⟨rfl,gu _,q5z _ _ _ rfl #[(0,I #[p,hB,hM,O ea en ec])] (by rw[<-f82];simp[Act.eval]) _ _ (qvw _ _ _ _ _ _ _) ⟨_,rfl,⟨⟨p,hB,hM,ea,en,ec,(yu p M B d).flatten⟩,qsd ⟨p,hB,hM,ea,en,ec,(yu p M B d).flatten⟩ w',⟨_,rfl,FF.keep ((q9).alloc (nlr _) _),Mo⟩⟩,(q9).alloc (nlr _) _,fun h=>absurd h (by decide),fun c hc=>absurd hc gP⟩⟩
      |16,rfl,hd =>have f75:FmF w8 w' (b 75 V) p hA hM (yu p M A d):=zf hd 7;obtain⟨y,f83,Mq⟩:∃y:Fc,Sl w' 4 (b 83 V) (cat Fc.enc [y])/\FmV w' y.v p hB hM (yu p M B d):=zf hd 15;exact q0e rfl #[b 75 V,b 83 V] (by simp[Act.eval]) ((qsc f75.fm f83 Mq HN.a5 (by omega) (by omega)).mono fun e w2 ⟨z,h1,h2,h3⟩=>⟨_,h1,_,rfl,(by rw[HN.a4];exact h2.mono hw.size),j7 h3 rfl rfl⟩)
      |i+17,ho,hd =>omega
     case mid13 =>
      intro b9 w2 hsz aO hf ab hw fD _;have g0:b9 68 V=.func (.func 23) #[] #[σ q]:=hf 0 _ _ rfl rfl (by decide);obtain⟨XT,Vw,FG,Vx,FH⟩ : FmF w8 w2 (b9 84 V) p dP hM (yu p M A d++yu p M B d):=hf 16 _ _ rfl rfl (by decide);obtain⟨za,zn,zc,rfl⟩:=qg FG;refine⟨fun k a1 u1=>match k with|0=>a1=b9/\u1=w2|_=>a1=b9.put (Y 85) (ψ #[])/\(∃(y:Fc) (Cy:Option Addr) (Cz:Nat),y.q=Mx.q p ⟨dP,hM,yu p M A d++yu p M B d⟩/\kf u1 q (q+1) p D3 (L++[y]) FD FE Cy Cz/\Below q w8 u1/\Apx y (w+1+1)),⟨rfl,rfl⟩,fun k o ho a1 u1 h1=>?_,fun a1 u1 h1=>?_⟩
      ·match k,ho,h1 with
       |0,ho,⟨h1,h2⟩ =>subst h1 h2;obtain rfl:=osi ho;exact⟨rfl,qht _ 23 #[σ q] _ _ rfl (fun _ _=>rfl) g0 #[I #[p,dP,hM,O za zn zc]] (by rw[<-Vw];simp[Act.eval]) ((qec (B:=w8) (y:=⟨p,dP,hM,za,zn,zc,(yu p M A d++yu p M B d).flatten⟩) H8.out.1 hw (by have:=HQ.b7;omega) FG (nlr _) fun ad e=>FH ad _ _ (by have e:za=Y ad:=e;rw[e])).mono fun e w3 ⟨h1,⟨x1,x2,h2⟩,h3⟩=>⟨_,h1,rfl,_,x1,x2,rfl,h2,(hw.mono AR).trans h3,fun _ ad e=>by have:=FH ad _ _ (by have e:za=Y ad:=e;rw[e]);omega⟩)⟩
       |k+1,ho,h1 =>have:17+(k+1)<18:=(gh.1 ho).1;omega
      ·obtain⟨rfl,hP⟩ : a1=b9.put (Y 85) (ψ #[])/\(∃(y:Fc) (Cy:Option Addr) (Cz:Nat),y.q=Mx.q p ⟨dP,hM,yu p M A d++yu p M B d⟩/\kf u1 q (q+1) p D3 (L++[y]) FD FE Cy Cz/\Below q w8 u1/\Apx y (w+1+1)):=h1;have sS:(b9.put (Y 85) (ψ #[])).tmps.size=130:=by show (b9.tmps.setIfInBounds _ _).size=_;simpa using hsz
       refine aQ _ _ (Met.intro (hJ _ _ ⟨(b9.put (Y 85) (ψ #[])).tmps.getD 68 V,(b9.put (Y 85) (ψ #[])).tmps.getD 69 V,(b9.put (Y 85) (ψ #[])).tmps.getD 70 V,(b9.put (Y 85) (ψ #[])).tmps.getD 71 V,(b9.put (Y 85) (ψ #[])).tmps.getD 72 V,(b9.put (Y 85) (ψ #[])).tmps.getD 73 V,(b9.put (Y 85) (ψ #[])).tmps.getD 74 V,(b9.put (Y 85) (ψ #[])).tmps.getD 75 V,(b9.put (Y 85) (ψ #[])).tmps.getD 76 V,(b9.put (Y 85) (ψ #[])).tmps.getD 77 V,(b9.put (Y 85) (ψ #[])).tmps.getD 78 V,(b9.put (Y 85) (ψ #[])).tmps.getD 79 V,(b9.put (Y 85) (ψ #[])).tmps.getD 80 V,(b9.put (Y 85) (ψ #[])).tmps.getD 81 V,(b9.put (Y 85) (ψ #[])).tmps.getD 82 V,(b9.put (Y 85) (ψ #[])).tmps.getD 83 V,(b9.put (Y 85) (ψ #[])).tmps.getD 84 V,(b9.put (Y 85) (ψ #[])).tmps.getD 85 V,hP.elim fun y hP=>hP.elim fun x1 hP=>hP.elim fun x2 hP=>⟨y,x1,x2,(lhd hP)⟩,(q8z sS aO (q9w (i:=17) (o:=?o85) ?h85 ?d85 fun s hs=>ab s fun i o _ ho=>hs i o ho)).trans ?_⟩))
       case h85=>rfl
       case d85=>rfl
       kernel_rfl
    case rest =>
     obtain⟨y1,Cy,Cz,H9⟩:=hcut;obtain⟨w9,pU⟩:=x4 wc;subst pU;have lF:Below q wr w9:=H8.a1.trans H9.a2;have Mr:q<=w9:=by have:=H9.a1.lt;have:=H9.a1.bs;omega
     clear e0 e1 e2 e3 e4;obtain⟨e0,e1,e2,e3,e4⟩:=HQ.a1 w9 lF;have Ej:=lhd lF;clear lF;go_wp2_with fail
     go_cut [14,15]from 86 to 104 (fun x y wx=>∃q:Nat,x=σ q/\y=τ true/\Hid (BxG w9 wx q (p) (hU) (dP) (jl (yu p A U d) (q4d p (yu p B U d)))/\w9<=q/\Below w9 w9 wx))
     case first =>
      rename_i At K2 hJ aQ;refine vf rfl (fun b i v w'=>match b,i with
       |false,0=>v=I #[O aa an ac,O ba bn bc,O ma mn mc,O ua un uc,p]
       |false,1=>v=σ q8
       |false,2=>v=I #[O aa an ac]
       |false,3=>v=σ (Y ⟨q8,3,Z⟩)
       |false,4=>v=I #[O ua un uc]
       |false,5=>v=(d:Int)
       |false,6=>FmF w9 w' v p hU hA (yu p A U d)
       |false,7=>v=I #[O aa an ac,O ba bn bc,O ma mn mc,O ua un uc,p]
       |false,8=>v=σ (Y ⟨q8,1,Z⟩)
       |false,9=>v=I #[O ba bn bc]
       |false,10=>v=σ (Y ⟨q8,3,Z⟩)
       |false,11=>v=I #[O ua un uc]
       |false,12=>v=(d:Int)
       |false,13=>FmF w9 w' v p hU hB (yu p B U d)
       |false,14=>FmV w' v p hU hB (q4d p (yu p B U d))
       |false,15=>∃y,v=ψ #[y,τ true]/\FmO w9 w' y (p) (hU) (dP) (jl (yu p A U d) (q4d p (yu p B U d)))
       |false,16=>∃y,v=ψ #[y,τ true]/\FmO w9 w' y (p) (hU) (dP) (jl (yu p A U d) (q4d p (yu p B U d)))
       |false,17=>FmO w9 w' v (p) (hU) (dP) (jl (yu p A U d) (q4d p (yu p B U d)))
       |false,18=>v=τ true
       |false,19=>q6q v w'/\∃q,v=σ (Y ⟨q,0,Z⟩)/\w9<=q
       |true,16=>∃y,v=ψ #[y,τ true]
       |true,18=>v=τ true
       |true,19=>∃q,v=σ (Y ⟨q,0,Z⟩)/\BxG w9 w' q (p) (hU) (dP) (jl (yu p A U d) (q4d p (yu p B U d)))/\w9<=q
       |true,21=>v=τ true
       |_,_=>True) (fun _=>false) bkT [] (fun _ v=>v) (by kernel_rfl) 20 130 rfl (by kernel_rfl) (by kernel_rfl) (by decide) rfl ?keep ?step ?store ?done
      case keep =>
       intro b i v w1 w2 h hb
       match b,i,h with
       |false,0,h=>exact h
       |false,1,h=>exact h
       |false,2,h=>exact h
       |false,3,h=>exact h
       |false,4,h=>exact h
       |false,5,h=>exact h
       |false,6,h=>exact h.keep hb
       |false,7,h=>exact h
       |false,8,h=>exact h
       |false,9,h=>exact h
       |false,10,h=>exact h
       |false,11,h=>exact h
       |false,12,h=>exact h
       |false,13,h=>exact h.keep hb
       |false,14,h=>exact h.keep hb
       |false,15,⟨y,h1,h2⟩=>exact⟨y,h1,h2.keep hb⟩
       |false,16,⟨y,h1,h2⟩=>exact⟨y,h1,h2.keep hb⟩
       |false,17,h=>exact h.keep hb
       |false,18,h=>exact h
       |false,19,⟨h1,h2⟩=>exact⟨h1.keep hb,h2⟩
       |false,i+20,h=>trivial
       |true,0,h=>trivial
       |true,1,h=>trivial
       |true,2,h=>trivial
       |true,3,h=>trivial
       |true,4,h=>trivial
       |true,5,h=>trivial
       |true,6,h=>trivial
       |true,7,h=>trivial
       |true,8,h=>trivial
       |true,9,h=>trivial
       |true,10,h=>trivial
       |true,11,h=>trivial
       |true,12,h=>trivial
       |true,13,h=>trivial
       |true,14,h=>trivial
       |true,15,h=>trivial
       |true,16,h=>exact h
       |true,17,h=>trivial
       |true,18,h=>exact h
       |true,19,⟨q,h1,h2,h3⟩=>exact⟨q,h1,h2.keep hb,h3⟩
       |true,20,h=>trivial
       |true,21,h=>exact h
       |true,i+22,h=>trivial
      case step =>
       intro i o ho aD ph b w' bU hbf hw hd ab hsz
       match i,ho,aD,bU,hbf,hd with
       |0,rfl,_,_,hbf,_ =>obtain rfl:=jb hbf;exact jm rfl (zr qu ab 8) (q4p (J hw e0) (J hw e1) (J hw e2) (J hw e3) (J hw e4)) ⟨_,rfl,rfl,j7 q9 rfl rfl⟩
       |1,rfl,_,_,hbf,_ =>obtain rfl:=jb hbf;exact yb rfl (zr qu ab 8) (kj w' _ 0 (by decide)) ⟨_,rfl,rfl,j7 q9 rfl rfl⟩
       |2,rfl,_,_,hbf,hd =>obtain rfl:=jb hbf;exact jm rfl (zf hd 1) (vq (J hw e0)) ⟨_,rfl,rfl,j7 q9 rfl rfl⟩
       |3,rfl,_,_,hbf,_ =>obtain rfl:=jb hbf;exact yb rfl (zr qu ab 8) (kj w' _ 3 (by decide)) ⟨_,rfl,rfl,j7 q9 rfl rfl⟩
       |4,rfl,_,_,hbf,hd =>obtain rfl:=jb hbf;exact jm rfl (zf hd 3) (vq (J hw e3)) ⟨_,rfl,rfl,j7 q9 rfl rfl⟩
       |5,rfl,_,_,hbf,_ =>obtain rfl:=jb hbf;exact jo (.inl rfl) ⟨_,rfl,(zr qu ab 13),j7 q9 rfl rfl⟩
       |6,rfl,_,_,hbf,hd =>
        obtain rfl:=jb hbf;have Lv:b 87 V=I #[O aa an ac,O ba bn bc,O ma mn mc,O ua un uc,p]:=(zf hd 0)
        have V0:b 89 V=I #[O aa an ac]:=(zf hd 2)
        have V1:b 91 V=I #[O ua un uc]:=(zf hd 4)
        have V2:b 92 V=(d:Int):=(zf hd 5)
        exact q0e rfl #[I #[O aa an ac,O ba bn bc,O ma mn mc,O ua un uc,p],I #[O aa an ac],I #[O ua un uc],(d:Int)] (by rw[<-Lv,<-V0,<-V1,<-V2];simp[Act.eval]) ((HQ.a4 w' (Ej.out.trans (hw.mono Mr))).2.2.1.mono fun e w2 ⟨z,h1,h2,h3⟩=>⟨_,h1,_,rfl,h2.mono hw.size,j7 h3 rfl rfl⟩)
       |7,rfl,_,_,hbf,_ =>obtain rfl:=jb hbf;exact jm rfl (zr qu ab 8) (q4p (J hw e0) (J hw e1) (J hw e2) (J hw e3) (J hw e4)) ⟨_,rfl,rfl,j7 q9 rfl rfl⟩
       |8,rfl,_,_,hbf,_ =>obtain rfl:=jb hbf;exact yb rfl (zr qu ab 8) (kj w' _ 1 (by decide)) ⟨_,rfl,rfl,j7 q9 rfl rfl⟩
       |9,rfl,_,_,hbf,hd =>obtain rfl:=jb hbf;exact jm rfl (zf hd 8) (vq (J hw e1)) ⟨_,rfl,rfl,j7 q9 rfl rfl⟩
       |10,rfl,_,_,hbf,_ =>obtain rfl:=jb hbf;exact yb rfl (zr qu ab 8) (kj w' _ 3 (by decide)) ⟨_,rfl,rfl,j7 q9 rfl rfl⟩
       |11,rfl,_,_,hbf,hd =>obtain rfl:=jb hbf;exact jm rfl (zf hd 10) (vq (J hw e3)) ⟨_,rfl,rfl,j7 q9 rfl rfl⟩
       |12,rfl,_,_,hbf,_ =>obtain rfl:=jb hbf;exact jo (.inl rfl) ⟨_,rfl,(zr qu ab 13),j7 q9 rfl rfl⟩
       |13,rfl,_,_,hbf,hd =>
        obtain rfl:=jb hbf;have V3:b 94 V=I #[O aa an ac,O ba bn bc,O ma mn mc,O ua un uc,p]:=(zf hd 7)
        have V4:b 96 V=I #[O ba bn bc]:=(zf hd 9)
        have V5:b 98 V=I #[O ua un uc]:=(zf hd 11)
        have V6:b 99 V=(d:Int):=(zf hd 12)
        exact q0e rfl #[I #[O aa an ac,O ba bn bc,O ma mn mc,O ua un uc,p],I #[O ba bn bc],I #[O ua un uc],(d:Int)] (by rw[<-V3,<-V4,<-V5,<-V6];simp[Act.eval]) ((HQ.a4 w' (Ej.out.trans (hw.mono Mr))).2.2.2.mono fun e w2 ⟨z,h1,h2,h3⟩=>⟨_,h1,_,rfl,h2.mono hw.size,j7 h3 rfl rfl⟩)
       |14,rfl,aD,bU,hbf,hd =>obtain rfl:=jb hbf;have f100:FmF w9 w' (b 100 V) p hU hB (yu p B U d):=zf hd 13;exact q0e rfl #[b 100 V] (by simp[Act.eval]) ((qsa f100.fm HN.a5 (by omega) (by omega)).mono fun e w2 ⟨z,h1,h2,h3⟩=>⟨_,h1,_,rfl,h2.f.fm,j7 h3 rfl rfl⟩)
       |15,rfl,aD,bU,hbf,hd =>obtain rfl:=jb hbf;obtain⟨Qz,f93,Ms,FI,_⟩ : FmF w9 w' (b 93 V) p hU hA (yu p A U d):=zf hd 6;obtain⟨FJ,f101,FK,xX⟩ : FmV w' (b 101 V) p hU hB (q4d p (yu p B U d)):=zf hd 14;have V7:b 93 V=I #[p,hU,hA,Qz]:=f93;have Mt:b 101 V=I #[p,hU,hB,FJ]:=f101;exact q0e rfl #[I #[p,hU,hA,Qz],I #[p,hU,hB,FJ]] (by rw[<-V7,<-Mt];simp[Act.eval]) (((qop p hU hA hB _ _ _ _ w' Ms FK HN.a5 FI xX (by omega) (by omega)).mono fun e w2 ⟨s,h1,h2,h3⟩=>(show ∃y,e=Ending.returned (ψ #[y,τ true])/\FmO w9 w2 y p hU dP (jl (yu p A U d) (q4d p (yu p B U d)))/\Below w' w' w2 from⟨_,h1,⟨s,by rw[HN.a4],by rw[HN.a4];exact qf h2 hw.size,by rw[HN.a4];exact q0u FI xX⟩,h3⟩)).mono fun e w2 ⟨y,h1,h2,h3⟩=>⟨_,h1,_,rfl,⟨y,rfl,h2⟩,j7 h3 rfl rfl⟩)
       |16,rfl,_,_,hbf,hd =>obtain rfl:=jb hbf;exact jo (.inl rfl) ⟨_,rfl,(zf hd 15),j7 q9 rfl rfl⟩
       |17,rfl,_,_,hbf,hd =>obtain rfl:=jb hbf;obtain⟨y,fM,fy⟩:∃y,b 86 V=ψ #[y,τ true]/\FmO w9 w' y (p) (hU) (dP) (jl (yu p A U d) (q4d p (yu p B U d))):=zf hd 16;exact q85 rfl fM rfl ⟨_,rfl,fy,j7 q9 rfl rfl⟩
       |18,rfl,_,_,_,hd =>
        have fM:∃y,b 86 V=ψ #[y,τ true]:=by
         cases ph with
         |false=>obtain⟨y,h1,h2⟩:∃y,b 86 V=ψ #[y,τ true]/\FmO w9 w' y (p) (hU) (dP) (jl (yu p A U d) (q4d p (yu p B U d))):=zf hd 16;exact⟨y,h1⟩
         |true=>exact zf hd 16
        obtain⟨y,fM⟩:=fM;exact q85 rfl fM rfl ⟨_,rfl,(by cases ph <;> rfl),q9,(by simp),fun c hc=>absurd hc gP⟩
       |19,rfl,_,_,hbf,_ =>obtain rfl:=jb hbf;exact⟨rfl,gu _,vt _ rfl _ _ (q07 _) ⟨_,rfl,⟨q7x _,_,rfl,hw.size⟩,(q9).alloc (nlr _) _,fun h=>absurd h (by decide),fun c hc=>absurd hc gP⟩⟩
       |20,ho,aD,bU,hbf,hd=>exact absurd rfl aD
       |21,rfl,_,bU,_,hd =>obtain rfl:=jb bU;have fL:b 104 V=τ true:=zf hd 18;exact jo (.inr rfl) ⟨_,rfl,fL,q9,(by simp),fun c hc=>absurd hc gP⟩
       |i+22,ho,aD,bU,hbf,hd =>have:i+22<22:=(gh.1 ho).1;omega
      case store =>
       intro o ho l b w' aP bW ag;obtain rfl:=osi ho;have fA:q6q (b 14 V) w'/\∃q,b 14 V=σ (Y ⟨q,0,Z⟩)/\w9<=q:=by have h1:=ag.fact 19 _ _ rfl rfl (aP 19 (by kernel_rfl));rw[bW]at h1;exact h1
       have f0:FmO w9 w' (b 103 V) (p) (hU) (dP) (jl (yu p A U d) (q4d p (yu p B U d))):=by have h1:=ag.fact 17 _ _ rfl rfl (aP 17 (by kernel_rfl));rw[bW]at h1;exact h1
       obtain⟨s,e0,hs,hF⟩:=f0;obtain⟨so,sc,rfl⟩:=qj hs;obtain⟨⟨q,eA,hq⟩,q',iC,dA⟩:=fA;have iW:q'=q:=by rw[eA]at iC;injection iC with e;injection e with e;injection e with e;exact e.symm
       rw[iW]at dA;have ah:=qlw hq hs;obtain⟨q0,q1,q2,q3,hz⟩:=q68 hq;have z0:=hz 0;have z1:=hz 1;have z2:=hz 2;have z3:=hz 3;obtain⟨t0,t1,t2,t3⟩:=q1f q0 q1 q2 q3;refine⟨rfl,ju _ _ _ rfl _ _ eA e0 (vx q0 q1 q2 q3 hz) ⟨rfl,?_,by simp,fun i oi di hi eI hl=>?_⟩⟩
       ·exact jj ag.below dA _ _ _ _
       ·have h1:=ag.fact i oi di hi eI hl;rw[bW]at h1
        match i,hi,hl,h1 with
        |16,hi,hl,⟨y,h1,_⟩=>exact⟨y,h1⟩
        |18,hi,hl,h1=>exact h1
        |19,hi,hl,h1 =>obtain rfl:=osi hi;obtain rfl:=osi eI;rw[eA];exact⟨q,rfl,⟨_,_,_,t0 _ _ _ _,t1 _ _ _ _,t2 _ _ _ _,t3 _ _ _ _,Sl.qc (vl hs ah _ _ _ _),hF,fun ad h=>(hs.lt ad.block (by rw[h];rfl)).1⟩,dA⟩
        |21,hi,hl,h1=>have h2:=ag.cl 21 hl 20 (by kernel_rfl);rw[bW]at h2;cases h2
        |0,hi,hl,h1=>trivial
        |1,hi,hl,h1=>trivial
        |2,hi,hl,h1=>trivial
        |3,hi,hl,h1=>trivial
        |4,hi,hl,h1=>trivial
        |5,hi,hl,h1=>trivial
        |6,hi,hl,h1=>trivial
        |7,hi,hl,h1=>trivial
        |8,hi,hl,h1=>trivial
        |9,hi,hl,h1=>trivial
        |10,hi,hl,h1=>trivial
        |11,hi,hl,h1=>trivial
        |12,hi,hl,h1=>trivial
        |13,hi,hl,h1=>trivial
        |14,hi,hl,h1=>trivial
        |15,hi,hl,h1=>trivial
        |17,hi,hl,h1=>trivial
        |20,hi,hl,h1=>trivial
        |i+22,hi,hl,h1=>trivial
      case done =>intro b w2 hsz aO hf ab hw;obtain⟨q,gA,gB,gq⟩:∃q,b 14 V=σ (Y ⟨q,0,Z⟩)/\BxG w9 w2 q (p) (hU) (dP) (jl (yu p A U d) (q4d p (yu p B U d)))/\w9<=q:=hf 19 _ _ rfl rfl;have gL:b 15 V=τ true:=hf 21 _ _ rfl rfl;refine aQ _ _ (Met.intro (hJ _ _ ⟨b 14 V,b 15 V,b 86 V,b 87 V,b 88 V,b 89 V,b 90 V,b 91 V,b 92 V,b 93 V,b 94 V,b 95 V,b 96 V,b 97 V,b 98 V,b 99 V,b 100 V,b 101 V,b 102 V,b 103 V,b 104 V,⟨q,gA,gL,(lhd ⟨gB,gq,hw⟩)⟩,(q8z hsz aO ab).trans ?_⟩));kernel_rfl
     case rest =>
      obtain⟨FL,rfl,rfl,Mu⟩:=hcut;obtain⟨Q1,Mv⟩:=x4 wc;subst Mv;obtain⟨za,zn,zk,g0,g1,g2,g3,hz,lH,wF⟩:=Mu.out.1;have HZ:=yh hz lH wF;clear hz lH wF e0 e1 e2 e3 e4;go_wp2_with fail;refine(qec (B:=w9) (y:=⟨p,hU,dP,za,zn,zk,(jl (yu p A U d) (q4d p (yu p B U d))).flatten⟩) H9.a1 Mu.b2 (by have:=HQ.b7;simp;omega) HZ.out.1 (nlr _) HZ.b2).mono ?_;rintro e kK ⟨rfl,⟨V9,VA,jI⟩,FN⟩;have FO:Below q wr kK:=Ej.out.trans ((Mu.b2.mono Mr).trans FN);have vR:q<=kK:=by have:=jI.lt;have:=jI.bs;omega
      obtain⟨y2,pB⟩:=x4 (⟨p,hU,dP,za,zn,zk,(jl (yu p A U d) (q4d p (yu p B U d))).flatten⟩ : Fc);rw[<-pB]at jI;have FP:y2.q=Mx.q p ⟨hU,dP,jl (yu p A U d) (q4d p (yu p B U d))⟩:=by rw[pB];rfl
      have FQ:Apx y2 (w+1+1):=fun _ ad e=>by rw[pB]at e;have:=HZ.b2 ad e;omega
      have qQ:=yt jI FO FP FQ;clear jI FN FO pB FP FQ g0 g1 g2 g3;by_cases G4:d=0
      ·subst G4;go_wp2_with fail;go_roundw
       case measure=>simp[vI]
       case rel =>
        refine⟨-1,0,D3,(L++[y1])++[y2],FD,FE,V9,VA,rfl,rfl,by omega,(lhd qQ.out.1),(show Hid _ from ?_),(show Hid _ from ?_),(lhd (qam (qam HX.out H9.b3) qQ.b3)),(lhd (HB.out.trans qQ.a1))⟩
        ·exact qj2 HD.out H8.b2 HN.a2 HN.out.1 HN.a1 HN.a3 HN.a4
        ·exact qnp HM.out HN.a2 HN.out.1 HN.a1 HN.a3 HN.a4 H9.out.1 qQ.a2
      ·have XU:(0:Int)<(d:Int):=by omega
       obtain⟨X3,IJ⟩:=Option.isSome_iff_exists.1 ((HN.b7.ev d (by have:=HH.b10;omega)).2 (by omega));obtain⟨fT,AS⟩:=x4 (hK p M ((d:Int)-1));have Q2:∀u (x:ε),Below q wr u->FmV u x p (nId M ((d:Int)-1)) hU (q9i p A M U d hU (q24 p U d))->Calls Tryz.prog 30 #[I #[O ma mn mc],((d:Int)-1:Int),x] u fun e w2=>∃y,e=.returned (ψ #[y,τ true])/\FmO u.heap.size w2 y p fT hU X3/\Below u.heap.size u w2:=fun u x hb hx=>by
        rw[AS];refine(qlr ((d:Int)-1) (HQ.out.1 u hb).2.2.1 hx HN.a5 (by omega) FC.b3 (by omega) (by rw[HN.a3];exact congrArg Option.isSome IJ)).mono ?_;rintro e w2 ⟨⟨y,X,rfl,hX,hF⟩,aj⟩;rw[HN.a3]at hX;have e:=hX.symm.trans IJ;injection e with e
        subst e;exact⟨y,rfl,hF,aj⟩
       have sR:∀u,Below q wr u->Calls Tryz.prog 32 #[I #[O ua un uc],d,p] u fun e w2=>∃x,e=.returned x/\FmV w2 x p (nId U d) hU (q24 p U d)/\Below u.heap.size u w2:=fun u hb=>by rw[HN.a3];exact(qh7 (HQ.out.1 u hb).2.2.2 HN.a5 d tX FC.out.1).mono fun e w2 ⟨x,h1,h2,h3⟩=>⟨x,h1,h2.fm,h3⟩
       have FR:∀u (x:ε),Below q wr u->FmV u x p (nId U d) hU (q24 p U d)->Calls Tryz.prog 31 #[I #[O aa an ac,O ba bn bc,O ma mn mc,O ua un uc,p],d,x] u fun e w2=>∃y,e=.returned y/\FmV w2 y p (nId M ((d:Int)-1)) hU (q9i p A M U d hU (q24 p U d))/\Below u.heap.size u w2:=fun u x hb hx =>(qt1 (HQ.a2 u hb) hx HN.a5 tX FC.a1 FC.b3 FC.out.1 (by omega) (HN.b7.au.ids HN.b7.a HN.b7.u _) (HN.b7.ma.ids HN.b7.m HN.b7.a _)).mono fun e w2 ⟨y,h1,h2,h3⟩=>⟨y,h1,h2.f.fm,h3⟩
       have VB:IntKind.i64.wrap ((d:Int)-1)=(d:Int)-1:=IntWalk.i64_in _ (by omega);obtain⟨e0,e1,e2,e3,e4⟩:=HQ.a1 kK qQ.a1;have GH:=jg IJ AS;have Mw:=yh Q2 sR FR;clear IJ AS Q2 sR FR;go_wp2_with fail
       go_cut [16,17]from 110 to 125 (fun x y wx=>∃q:Nat,x=σ q/\y=τ true/\Hid (BxG kK wx q (p) (fT) (hU) (X3)/\kK<=q/\Below kK kK wx))
       case first =>
        rename_i At K2 hJ aQ;refine vf rfl (fun b i v w'=>match b,i with
         |false,0=>v=σ (Y ⟨q8,2,Z⟩)
         |false,1=>v=I #[O ma mn mc]
         |false,2=>v=(d:Int)
         |false,3=>v=((d:Int)-1:Int)
         |false,4=>v=I #[O aa an ac,O ba bn bc,O ma mn mc,O ua un uc,p]
         |false,5=>v=(d:Int)
         |false,6=>v=σ (Y ⟨q8,3,Z⟩)
         |false,7=>v=I #[O ua un uc]
         |false,8=>v=(d:Int)
         |false,9=>v=p
         |false,10=>FmV w' v p (nId U d) hU (q24 p U d)
         |false,11=>FmV w' v p (nId M ((d:Int)-1)) hU (q9i p A M U d hU (q24 p U d))
         |false,12=>∃y,v=ψ #[y,τ true]/\FmO kK w' y (p) (fT) (hU) (X3)
         |false,13=>∃y,v=ψ #[y,τ true]/\FmO kK w' y (p) (fT) (hU) (X3)
         |false,14=>FmO kK w' v (p) (fT) (hU) (X3)
         |false,15=>v=τ true
         |false,16=>q6q v w'/\∃q,v=σ (Y ⟨q,0,Z⟩)/\kK<=q
         |true,13=>∃y,v=ψ #[y,τ true]
         |true,15=>v=τ true
         |true,16=>∃q,v=σ (Y ⟨q,0,Z⟩)/\BxG kK w' q (p) (fT) (hU) (X3)/\kK<=q
         |true,18=>v=τ true
         |_,_=>True) (fun _=>false) bkT [] (fun _ v=>v) (by kernel_rfl) 17 130 rfl (by kernel_rfl) (by kernel_rfl) (by decide) rfl ?keep ?step ?store ?done
        case keep =>
         intro b i v w1 w2 h hb
         match b,i,h with
         |false,0,h=>exact h
         |false,1,h=>exact h
         |false,2,h=>exact h
         |false,3,h=>exact h
         |false,4,h=>exact h
         |false,5,h=>exact h
         |false,6,h=>exact h
         |false,7,h=>exact h
         |false,8,h=>exact h
         |false,9,h=>exact h
         |false,10,h=>exact h.keep hb
         |false,11,h=>exact h.keep hb
         |false,12,⟨y,h1,h2⟩=>exact⟨y,h1,h2.keep hb⟩
         |false,13,⟨y,h1,h2⟩=>exact⟨y,h1,h2.keep hb⟩
         |false,14,h=>exact h.keep hb
         |false,15,h=>exact h
         |false,16,⟨h1,h2⟩=>exact⟨h1.keep hb,h2⟩
         |false,i+17,h=>trivial
         |true,0,h=>trivial
         |true,1,h=>trivial
         |true,2,h=>trivial
         |true,3,h=>trivial
         |true,4,h=>trivial
         |true,5,h=>trivial
         |true,6,h=>trivial
         |true,7,h=>trivial
         |true,8,h=>trivial
         |true,9,h=>trivial
         |true,10,h=>trivial
         |true,11,h=>trivial
         |true,12,h=>trivial
         |true,13,h=>exact h
         |true,14,h=>trivial
         |true,15,h=>exact h
         |true,16,⟨q,h1,h2,h3⟩=>exact⟨q,h1,h2.keep hb,h3⟩
         |true,17,h=>trivial
         |true,18,h=>exact h
         |true,i+19,h=>trivial
        case step =>
         intro i o ho aD ph b w' bU hbf hw hd ab hsz
         match i,ho,aD,bU,hbf,hd with
         |0,rfl,_,_,hbf,_ =>obtain rfl:=jb hbf;exact yb rfl (zr qu ab 8) (kj w' _ 2 (by decide)) ⟨_,rfl,rfl,j7 q9 rfl rfl⟩
         |1,rfl,_,_,hbf,hd =>obtain rfl:=jb hbf;exact jm rfl (zf hd 0) (vq (J hw e2)) ⟨_,rfl,rfl,j7 q9 rfl rfl⟩
         |2,rfl,_,_,hbf,_ =>obtain rfl:=jb hbf;exact jo (.inl rfl) ⟨_,rfl,(zr qu ab 13),j7 q9 rfl rfl⟩
         |3,rfl,_,_,hbf,hd =>obtain rfl:=jb hbf;exact q0n rfl (zf hd 2) rfl rfl (q91 VB _) ⟨_,rfl,rfl,j7 q9 rfl rfl⟩
         |4,rfl,_,_,hbf,_ =>obtain rfl:=jb hbf;exact jm rfl (zr qu ab 8) (q4p (J hw e0) (J hw e1) (J hw e2) (J hw e3) (J hw e4)) ⟨_,rfl,rfl,j7 q9 rfl rfl⟩
         |5,rfl,_,_,hbf,_ =>obtain rfl:=jb hbf;exact jo (.inl rfl) ⟨_,rfl,(zr qu ab 13),j7 q9 rfl rfl⟩
         |6,rfl,_,_,hbf,_ =>obtain rfl:=jb hbf;exact yb rfl (zr qu ab 8) (kj w' _ 3 (by decide)) ⟨_,rfl,rfl,j7 q9 rfl rfl⟩
         |7,rfl,_,_,hbf,hd =>obtain rfl:=jb hbf;exact jm rfl (zf hd 6) (vq (J hw e3)) ⟨_,rfl,rfl,j7 q9 rfl rfl⟩
         |8,rfl,_,_,hbf,_ =>obtain rfl:=jb hbf;exact jo (.inl rfl) ⟨_,rfl,(zr qu ab 13),j7 q9 rfl rfl⟩
         |9,rfl,_,_,hbf,_ =>obtain rfl:=jb hbf;exact jo (.inl rfl) ⟨_,rfl,(zr qu ab 2),j7 q9 rfl rfl⟩
         |10,rfl,_,_,hbf,hd =>
          obtain rfl:=jb hbf;have AU:b 118 V=I #[O ua un uc]:=(zf hd 7)
          have My:b 119 V=(d:Int):=(zf hd 8)
          have AV:b 120 V=p:=(zf hd 9)
          exact q0e rfl #[I #[O ua un uc],(d:Int),p] (by rw[<-AU,<-My,<-AV];simp[Act.eval]) ((Mw.a1 w' (qQ.a1.trans (hw.mono vR))).mono fun e w2 ⟨z,h1,h2,h3⟩=>⟨_,h1,_,rfl,h2,j7 h3 rfl rfl⟩)
         |11,rfl,_,_,hbf,hd =>
          obtain rfl:=jb hbf;have f121:FmV w' (b 121 V) p (nId U d) hU (q24 p U d):=zf hd 10;have Mz:b 115 V=I #[O aa an ac,O ba bn bc,O ma mn mc,O ua un uc,p]:=(zf hd 4)
          have M0:b 116 V=(d:Int):=(zf hd 5)
          exact q0e rfl #[I #[O aa an ac,O ba bn bc,O ma mn mc,O ua un uc,p],(d:Int),b 121 V] (by rw[<-Mz,<-M0];simp[Act.eval]) ((Mw.b2 w' _ (qQ.a1.trans (hw.mono vR)) f121).mono fun e w2 ⟨z,h1,h2,h3⟩=>⟨_,h1,_,rfl,h2,j7 h3 rfl rfl⟩)
         |12,rfl,_,_,hbf,hd =>
          obtain rfl:=jb hbf;have f122:FmV w' (b 122 V) p (nId M ((d:Int)-1)) hU (q9i p A M U d hU (q24 p U d)):=zf hd 11;have M3:b 112 V=I #[O ma mn mc]:=(zf hd 1)
          have M4:b 114 V=((d:Int)-1:Int):=(zf hd 3)
          exact q0e rfl #[I #[O ma mn mc],((d:Int)-1:Int),b 122 V] (by rw[<-M3,<-M4];simp[Act.eval]) (((Mw.out.1 w' _ (qQ.a1.trans (hw.mono vR)) f122).mono fun e w2 ⟨y,h1,h2,h3⟩=>(show ∃y,e=Ending.returned (ψ #[y,τ true])/\FmO kK w2 y p fT hU X3/\Below w' w' w2 from⟨y,h1,(by obtain⟨s,k1,k2,k3⟩:=h2;exact⟨s,k1,qf k2 hw.size,k3⟩),h3⟩)).mono fun e w2 ⟨y,h1,h2,h3⟩=>⟨_,h1,_,rfl,⟨y,rfl,h2⟩,j7 h3 rfl rfl⟩)
         |13,rfl,_,_,hbf,hd =>obtain rfl:=jb hbf;exact jo (.inl rfl) ⟨_,rfl,(zf hd 12),j7 q9 rfl rfl⟩
         |14,rfl,_,_,hbf,hd =>obtain rfl:=jb hbf;obtain⟨y,fM,fy⟩:∃y,b 110 V=ψ #[y,τ true]/\FmO kK w' y (p) (fT) (hU) (X3):=zf hd 13;exact q85 rfl fM rfl ⟨_,rfl,fy,j7 q9 rfl rfl⟩
         |15,rfl,_,_,_,hd =>
          have fM:∃y,b 110 V=ψ #[y,τ true]:=by
           cases ph with
           |false=>obtain⟨y,h1,h2⟩:∃y,b 110 V=ψ #[y,τ true]/\FmO kK w' y (p) (fT) (hU) (X3):=zf hd 13;exact⟨y,h1⟩
           |true=>exact zf hd 13
          obtain⟨y,fM⟩:=fM;exact q85 rfl fM rfl ⟨_,rfl,(by cases ph <;> rfl),q9,(by simp),fun c hc=>absurd hc gP⟩
         |16,rfl,_,_,hbf,_ =>obtain rfl:=jb hbf;exact⟨rfl,gu _,vt _ rfl _ _ (q07 _) ⟨_,rfl,⟨q7x _,_,rfl,hw.size⟩,(q9).alloc (nlr _) _,fun h=>absurd h (by decide),fun c hc=>absurd hc gP⟩⟩
         |17,ho,aD,bU,hbf,hd=>exact absurd rfl aD
         |18,rfl,_,bU,_,hd =>obtain rfl:=jb bU;have fL:b 125 V=τ true:=zf hd 15;exact jo (.inr rfl) ⟨_,rfl,fL,q9,(by simp),fun c hc=>absurd hc gP⟩
         |i+19,ho,aD,bU,hbf,hd =>have:i+19<19:=(gh.1 ho).1;omega
        case store =>
         intro o ho l b w' aP bW ag;obtain rfl:=osi ho;have fA:q6q (b 16 V) w'/\∃q,b 16 V=σ (Y ⟨q,0,Z⟩)/\kK<=q:=by have h1:=ag.fact 16 _ _ rfl rfl (aP 16 (by kernel_rfl));rw[bW]at h1;exact h1
         have f0:FmO kK w' (b 124 V) (p) (fT) (hU) (X3):=by have h1:=ag.fact 14 _ _ rfl rfl (aP 14 (by kernel_rfl));rw[bW]at h1;exact h1
         obtain⟨s,e0,hs,hF⟩:=f0;obtain⟨so,sc,rfl⟩:=qj hs;obtain⟨⟨q,eA,hq⟩,q',iC,dA⟩:=fA;have iW:q'=q:=by rw[eA]at iC;injection iC with e;injection e with e;injection e with e;exact e.symm
         rw[iW]at dA;have ah:=qlw hq hs;obtain⟨q0,q1,q2,q3,hz⟩:=q68 hq;have z0:=hz 0;have z1:=hz 1;have z2:=hz 2;have z3:=hz 3;obtain⟨t0,t1,t2,t3⟩:=q1f q0 q1 q2 q3;refine⟨rfl,ju _ _ _ rfl _ _ eA e0 (vx q0 q1 q2 q3 hz) ⟨rfl,?_,by simp,fun i oi di hi eI hl=>?_⟩⟩
         ·exact jj ag.below dA _ _ _ _
         ·have h1:=ag.fact i oi di hi eI hl;rw[bW]at h1
          match i,hi,hl,h1 with
          |13,hi,hl,⟨y,h1,_⟩=>exact⟨y,h1⟩
          |15,hi,hl,h1=>exact h1
          |16,hi,hl,h1 =>obtain rfl:=osi hi;obtain rfl:=osi eI;rw[eA];exact⟨q,rfl,⟨_,_,_,t0 _ _ _ _,t1 _ _ _ _,t2 _ _ _ _,t3 _ _ _ _,Sl.qc (vl hs ah _ _ _ _),hF,fun ad h=>(hs.lt ad.block (by rw[h];rfl)).1⟩,dA⟩
          |18,hi,hl,h1=>have h2:=ag.cl 18 hl 17 (by kernel_rfl);rw[bW]at h2;cases h2
          |0,hi,hl,h1=>trivial
          |1,hi,hl,h1=>trivial
          |2,hi,hl,h1=>trivial
          |3,hi,hl,h1=>trivial
          |4,hi,hl,h1=>trivial
          |5,hi,hl,h1=>trivial
          |6,hi,hl,h1=>trivial
          |7,hi,hl,h1=>trivial
          |8,hi,hl,h1=>trivial
          |9,hi,hl,h1=>trivial
          |10,hi,hl,h1=>trivial
          |11,hi,hl,h1=>trivial
          |12,hi,hl,h1=>trivial
          |14,hi,hl,h1=>trivial
          |17,hi,hl,h1=>trivial
          |i+19,hi,hl,h1=>trivial
        case done =>intro b w2 hsz aO hf ab hw;obtain⟨q,gA,gB,gq⟩:∃q,b 16 V=σ (Y ⟨q,0,Z⟩)/\BxG kK w2 q (p) (fT) (hU) (X3)/\kK<=q:=hf 16 _ _ rfl rfl;have gL:b 17 V=τ true:=hf 18 _ _ rfl rfl;refine aQ _ _ (Met.intro (hJ _ _ ⟨b 16 V,b 17 V,b 110 V,b 111 V,b 112 V,b 113 V,b 114 V,b 115 V,b 116 V,b 117 V,b 118 V,b 119 V,b 120 V,b 121 V,b 122 V,b 123 V,b 124 V,b 125 V,⟨q,gA,gL,(lhd ⟨gB,gq,hw⟩)⟩,(q8z hsz aO ab).trans ?_⟩));kernel_rfl
       case rest =>
        obtain⟨XV,rfl,rfl,M5⟩:=hcut;obtain⟨ft,M6⟩:=x4 wc;subst M6;obtain⟨Q3,Q4,Q5,g0,g1,g2,g3,hz,lH,wF⟩:=M5.out.1;have ff:=yh hz lH wF;clear hz lH wF e0 e1 e2 e3 e4;go_wp2_with fail;refine(qec (B:=kK) (y:=⟨p,fT,hU,Q3,Q4,Q5,X3.flatten⟩) qQ.out.1 M5.b2 (by have:=HQ.b7;simp;omega) ff.out.1 (nlr _) ff.b2).mono ?_;rintro e VC ⟨rfl,⟨VD,VE,oL⟩,FT⟩;have mS:Below q wr VC:=qQ.a1.trans ((M5.b2.mono vR).trans FT);obtain⟨y3,qD⟩:=x4 (⟨p,fT,hU,Q3,Q4,Q5,X3.flatten⟩ : Fc);rw[<-qD]at oL;have FU:y3.q=Mx.q p ⟨fT,hU,X3⟩:=by rw[qD];rfl
        have FV:Apx y3 (w+1+1):=fun _ ad e=>by rw[qD]at e;have:=ff.b2 ad e;omega
        have IK:=yt oL mS FU FV;clear oL FT mS qD FU FV g0 g1 g2 g3;go_wp2_with fail;go_roundw
        case measure=>simp[vI]
        case rel =>
         refine⟨(d:Int)-1,d,D3,((L++[y1])++[y2])++[y3],FD,FE,VD,VE,rfl,by omega,by omega,(lhd IK.out.1),(show Hid _ from ?_),(show Hid _ from ?_),(lhd (qam (qam (qam HX.out H9.b3) qQ.b3) IK.b3)),(lhd (HB.out.trans IK.a1))⟩
         ·exact qj2 HD.out H8.b2 HN.a2 HN.out.1 HN.a1 HN.a3 HN.a4
         ·exact qqh G4 HM.out HN.a2 HN.out.1 HN.a1 HN.a3 HN.a4 H9.out.1 qQ.a2 GH.out.2 GH.out.1 IK.a2
theorem qsf {w:δ}{a c:Option Addr}{an ac cn cc:Nat}{p:Int}(hp:prI p=false) :
  Calls Tryz.prog 21 #[I #[O a an ac],I #[O c cn cc],H φ p] w fun e w'=>e=.returned (ψ #[I #[O Z 0 0,O Z 0 0,O Z 0 0,O Z 0 0,H φ 0],H φ 46])/\Below w.heap.size w w':=by
 have HP:=lhd hp;clear hp;go_enter Tryz.func21,Tryz.ntmps21;go_wp2_with fail;obtain⟨W,hW⟩:=x4 (((w.alloc (.cells #[O a an ac] 36)).alloc (.cells #[O c cn cc] 36)).alloc (.cells #[O Z 0 0,O Z 0 0,O Z 0 0,O Z 0 0,H φ 0] 57));rw[<-hW];have hw:Below w w W:=by rw[hW];exact(((q9).alloc (nlr _) _).alloc (by simp) _).alloc (by simp;omega) _
 have nV:W.heap[w.heap.size+1+1]? =Y (.cells #[O Z 0 0,O Z 0 0,O Z 0 0,O Z 0 0,H φ 0] 57 (0,0)):=by have h2:=heap_alloc_new ((w.alloc (.cells #[O a an ac] 36)).alloc (.cells #[O c cn cc] 36)) (.cells #[O Z 0 0,O Z 0 0,O Z 0 0,O Z 0 0,H φ 0] 57);simp only [World.size_alloc]at h2;rw[hW];exact h2
 have HW:=jg hw nV;have aG:w.heap.size+1+1<W:=by rw[hW];simp
 clear hW hw nV;refine(qax p W).mono ?_;rintro e w1 ⟨rfl,ae⟩;rw[HP.out];have mZ:=(ae.block _ aG).trans HW.out.2;obtain⟨c0,c1,c2,c3,c4⟩:=qe2 mZ;have z0:=jz mZ 0;have z1:=jz mZ 1;have z2:=jz mZ 2;have z3:=jz mZ 3;have z4:=jz mZ 4;have HB:=jg ((btr HW.out.1 ae)) mZ;clear ae mZ aG;go_wp2_with fail;obtain⟨e0,e1,e2,e3,e4⟩:=qe4 HB.out.2 (O Z 0 0) (O Z 0 0) (O Z 0 0) (O Z 0 0) (H φ 0);unfold q76 at e0 e1 e2 e3 e4;refine bodyPost_ret (v:=ψ #[I #[O Z 0 0,O Z 0 0,O Z 0 0,O Z 0 0,H φ 0],H φ 46]) (by simp[results,Tryz.results21,go_sem,e0,e1,e2,e3,e4]) rfl ⟨rfl,qe5 HB.out.1 (by omega) _ _ _ _ _⟩
theorem qqi {w:δ}{a c:Option Addr}{an ac cn cc:Nat}{p:Int}(hp:prI p=false) :
  Calls Tryz.prog 10 #[I #[O a an ac],I #[O c cn cc],p] w fun e w'=>e=.returned (ψ #[I #[H φ 0,O Z 0 0,O Z 0 0],H φ 46])/\Below w w w':=by
 have HP:=lhd hp;clear hp;go_enter Tryz.func10,Tryz.ntmps10;go_wp2_with fail;obtain⟨W,hW⟩:=x4 (((w.alloc (.cells #[O a an ac] 36)).alloc (.cells #[O c cn cc] 36)).alloc (.cells #[H φ 0,O Z 0 0,O Z 0 0] 27));rw[<-hW];have hw:Below w w W:=by rw[hW];exact(((q9).alloc (nlr _) _).alloc (by simp) _).alloc (by simp;omega) _
 have r0:W (w+1+1:Nat)=H φ 0:=by rw[hW];exact jw w _ _ _ _ 0 rfl
 have r1:W ⟨w+1+1,1,Z⟩=O Z 0 0:=by rw[hW];exact jw w _ _ _ _ 1 rfl
 have r2:W ⟨w+1+1,2,Z⟩=O Z 0 0:=by rw[hW];exact jw w _ _ _ _ 2 rfl
 have rz:∀i,W.frozen? ⟨w+1+1,i,Z⟩=false:=fun i=>by rw[hW];exact q1e w _ _ _ _ i
 have aG:w.heap.size+1+1<W:=by rw[hW];simp
 clear hW;refine(qsf HP.out).mono ?_;rintro e w1 ⟨rfl,ae⟩;have aj:∀o,Below W W (w1.alloc o):=fun o=>ae.alloc ae.size o
 have s0:=fun o=>J (aj o) r0
 have s1:=fun o=>J (aj o) r1
 have s2:=fun o=>J (aj o) r2
 have z0:=fun o=>xf (aj o) aG (rz 0)
 have z1:=fun o=>xf (aj o) aG (rz 1)
 have z2:=fun o=>xf (aj o) aG (rz 2)
 have HB:=jg hw aj;clear hw aj ae r0 r1 r2 rz aG;go_wp2_with fail;obtain⟨t0,t1,t2⟩:=qds (s0 (.cells #[O Z 0 0,O Z 0 0,O Z 0 0,O Z 0 0,H φ 0] 57)) (s1 _) (s2 _) (y0:=H φ 0) (y1:=O Z 0 0) (y2:=O Z 0 0);refine bodyPost_ret (v:=ψ #[I #[H φ 0,O Z 0 0,O Z 0 0],H φ 46]) (by simp[results,Tryz.results10,go_sem,t0,t1,t2]) rfl ⟨rfl,?_⟩;exact(((HB.out.1.trans ((HB.out.2 _).mono HB.out.1.size)).setCell (p:=(w+1+1:Nat)) (by show w.heap.size<=w+1+1;omega) _).setCell (p:=⟨w+1+1,1,Z⟩) (by show w.heap.size<=w+1+1;omega) _).setCell (p:=⟨w+1+1,2,Z⟩) (by show w.heap.size<=w+1+1;omega) _
