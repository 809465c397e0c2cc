/- Steps towards SequenceChecks. Conditions: none. -/
import Derived.Test.YtmkpbhaoalbhjaaGreatDoorXTa
set_option maxRecDepth 1000000
set_option maxHeartbeats 0
open Go.Value renaming slice→O,bool→τ,int→H
open Option renaming none→Z
open Go.IntKind renaming i64→φ
open Go renaming World→δ
open Go.Cx renaming keep→J
namespace Go.Cx
open Go.Proofs.YtmkpbhaoalbhjaaGreatDoor
theorem qu4 (d:Int):nId egU d<=100:=by unfold nId;rw[qjf.u.ids,gp];exact gd (gY _ _) (by decide)
theorem qsm:qva (eg2 3) (eg2 4) egM egU 5:=⟨qjf,fun d hd=>by
 have h1:d<=1:=hd;have h2:d=0\/d=1:=by omega
 rcases h2 with rfl|rfl
 ·exact⟨⟨by kernel_rfl,by kernel_rfl,by kernel_rfl,by kernel_rfl⟩,fun h=>absurd rfl h⟩
 ·exact⟨⟨by kernel_rfl,by kernel_rfl,by kernel_rfl,by kernel_rfl⟩,fun _=>by kernel_rfl⟩⟩
theorem qqt:Ops (eg2 3) (eg2 4) egM egU:=⟨quj,quk,qg5,qg6,qfk,qfl,qu4⟩
def qhr:List Int:=[0,0,1,2,2,1]
theorem qu5:q34 ((q9j 5 (eg2 3) (eg2 4) egM egU 1).map (Mx.q 5)) 2=1:=by kernel_rfl
theorem qqu:prI 5=true:=by kernel_rfl
theorem qvd:prI 4=false:=by kernel_rfl
theorem qve:kv 5 qhr ((q9j 5 (eg2 3) (eg2 4) egM egU 1).map (Mx.q 5))=true:=by kernel_rfl
theorem qu6:nId egU 1=2:=by kernel_rfl
end Go.Cx
namespace Go.Proofs.YtmkpbhaoalbhjaaGreatDoor
open Go.RowKit Go.Cx
attribute [local go_sem ↓] Go.wp_at_zero Go.wp_at_succ
theorem qkm (w:δ):Calls Tryz.prog 4 #[] w fun e w'=>e=.returned (τ true)/\Below w w w':=by
 go_enter Tryz.func4,Tryz.ntmps4;go_wp2_with fail;refine(qqk w).mono ?_;rintro e w1 ⟨v,u,rfl,hv,hu,ae⟩;obtain⟨a0,n0,k0,rfl⟩:=hv.shape;obtain⟨a1,n1,k1,rfl⟩:=hu.shape;obtain⟨W,hW⟩:=x4 ((w1.alloc (.cells #[O a0 n0 k0] 36)).alloc (.cells #[O a1 n1 k1] 36));have dx:Below w1 w1 W:=by rw[hW];exact((q9).alloc (nlr _) _).alloc (by simp) _
 obtain⟨q1,fN⟩:=x4 w1.heap.size;obtain⟨q2,nV⟩:=x4 (w1.heap.size+1);have x1:W q1=O a0 n0 k0:=by rw[hW,fN];exact qk (xz w1 _ _ 0 rfl) _
 have x2:W q2=O a1 n1 k1:=by rw[hW,nV];exact zx w1 _ _ _ 0 rfl
 have H1:=kp (hv.keep dx) (hu.keep dx) ((btr ae dx)) hW fN nV;have HX:=jg x1 x2;clear hv hu ae hW fN nV dx x1 x2;go_wp2_with fail;rw[<-H1.a3,<-H1.b5,<-H1.a4];refine(qse H1.out.1 H1.a1 qqt qsm qqu (by rw[qoj];decide)).mono ?_;rintro e w2 ⟨y,L,rfl,hS,hL,aj⟩;rw[qoj]at hS hL;have eD:(1:Int).toNat=1:=rfl;rw[eD]at hS hL;rw[qri,show ([0,0,1,2,2,1] : List Nat).map Int.ofNat=qhr from rfl]at hS;obtain⟨sd,sm,rfl,hD,hM⟩:=hS;obtain⟨da,dn,dc,rfl⟩:=qg hD;obtain⟨ma,mn,mc,rfl⟩:=qg hM.1;have pP:mn=5:=by rw[q7y hM.1];have:=congrArg List.length hL;rw[gp,gp,qtc]at this;exact this
 subst pP;obtain⟨q3,mZ⟩:=x4 w2.heap.size;obtain⟨W2,aY⟩:=x4 (w2.alloc (.cells #[H φ 5,O da dn dc,O ma 5 mc] 27));have aA:Below w2 w2 W2:=by rw[aY];exact(q9).alloc (nlr _) _
 have s0:W2 q3=H φ 5:=by rw[aY,mZ];exact xz w2 _ _ 0 rfl
 have s1:W2 ⟨q3,1,Z⟩=O da dn dc:=by rw[aY,mZ];exact xz w2 _ _ 1 rfl
 have s2:W2 ⟨q3,2,Z⟩=O ma 5 mc:=by rw[aY,mZ];exact xz w2 _ _ 2 rfl
 have dG:Below W W W2:=(btr aj aA);have H2:=kp (hD.keep aA) (hM.keep aA) hL dG aY mZ;have HS:=yh s0 s1 s2;clear hD hM hL dG aY mZ aA aj s0 s1 s2 eD;go_wp2_with fail;rw[<-H2.a4,<-H2.b5];obtain⟨W3,cH⟩:=x4 (W2.alloc (.cells #[H φ 0,H φ 0,H φ 1,H φ 2,H φ 2,H φ 1] 3));have Gq:W2=q3+1:=by rw[H2.a4,H2.b5];simp
 have jE:Sl W3 1 (O (q3+1:Nat) 6 6) (ints qhr):=by rw[cH,<-Gq];exact q8p W2 3 1 [H φ 0,H φ 0,H φ 1,H φ 2,H φ 2,H φ 1] 6 rfl (by unfold maxLen;omega)
 have wa:Below W2 W2 W3:=by rw[cH];exact(q9).alloc (nlr _) _
 rw[<-cH];refine(qsw _ _ qhr qhr W3 (H2.out.1.keep wa) jE).mono ?_;rintro e w3 ⟨rfl,aw⟩;rw[decide_eq_true (rfl:qhr=qhr)];have Gr:Below W2 W2 w3:=(btr wa aw);have H3:=lhd Gr;clear jE aw Gr wa cH Gq;have iq:∀u,Below W2 W2 u->u q3=H φ 5/\u ⟨q3,1,Z⟩=O da dn dc/\u ⟨q3,2,Z⟩=O ma 5 mc:=fun u hb=>⟨J hb HS.out.1,J hb HS.a1,J hb HS.b2⟩
 have pZ:∀u,Below W2 W2 u->u q1=O a0 n0 k0/\u q2=O a1 n1 k1:=fun u hb=>⟨J ((btr H2.a3 hb)) HX.out.1,J ((btr H2.a3 hb)) HX.out.2⟩
 have HC:=jg iq pZ;clear iq pZ;obtain⟨s0,s1,s2⟩:=HC.out.1 w3 H3.out;go_wp2_with fail;have hex:exB 5 qhr (L.map Fc.q)=true:=by rw[H2.a2];exact qul
 refine(qlx (P:=5) (D:=qhr) (L:=L) ⟨_,_,rfl,H2.out.1.keep H3.out,H2.a1.keep H3.out⟩).mono ?_;rintro e w4 ⟨rfl,aN⟩;rw[hex];have Gt:Below W2 W2 w4:=(btr H3.out aN);have H4:=lhd Gt;clear s0 s1 s2 aN Gt hex;obtain⟨y1,y2⟩:=HC.out.2 w4 H4.out;go_wp2_with fail;obtain⟨W5,dZ⟩:=x4 (w4.alloc (.cells #[H φ 1,H φ 4] 3));have Gu:Below w4 w4 W5:=by rw[dZ];exact(q9).alloc (nlr _) _
 have jE:Sl W5 1 (O w4 2 2) (ints [1,4]):=by rw[dZ];exact q8p w4 3 1 [H φ 1,H φ 4] 2 rfl (by unfold maxLen;omega)
 have aC:Below W2 W2 W5:=(btr H4.out Gu);have IU:∀u,Below W2 W2 u->Below W W u:=fun u hb=>(btr H2.a3 hb)
 rw[<-dZ];have hz:∀n∈([1,4] : List Int),0<=n/\n<5:=by decide
 have Gv:=qnq (d:=1) (z:=[1,4]) (H1.out.1.keep (IU W5 aC)) (H1.a1.keep (IU W5 aC)) qqt qjf qqu (by omega) jE (by rw[qu6];rfl) hz qtb;refine Gv.mono ?_;rintro e w6 ⟨s,rfl,hs,cQ⟩;rw[show (q9i 5 (eg2 3) egM egU 1 1 (q3e [1,4])).flatten=[4,1]from by rw[show q3e [1,4]=[[1],[4]]from rfl,qta];rfl]at hs;obtain⟨sa,sn,sc,rfl⟩:=qg hs;have Gw:Below W2 W2 w6:=(btr aC cQ);have H6:=yh Gw hs IU;clear Gu jE aC IU hz Gv hs cQ Gw dZ y1 y2;obtain⟨y1,y2⟩:=HC.out.2 w6 H6.out.1;go_wp2_with fail;refine(qqi qvd).mono ?_;rintro e w7 ⟨rfl,cq⟩;obtain⟨W7,pC⟩:=x4 (w7.alloc (.cells #[H φ 0,O Z 0 0,O Z 0 0] 27));have Ba:Below w6 w6 W7:=by rw[pC];exact cq.alloc cq.size _
 have Gx:Below W2 W2 W7:=(btr H6.out.1 Ba);have H7:=yh Gx (H6.a1.keep Ba) pC;clear Ba Gx cq pC y1 y2;obtain⟨cN,r,c,xa,xn,xk,M,rfl,BQ,Ch,Ci,IV,hX,oJ,kT,nZ,-,-,x,hx,kY,fs,sZ⟩:=qfv (k:=2) (H2.a1.keep H7.out.1) (by rw[H2.a2];exact qve) (by have:=q7y H2.a1.1;omega);have QL:cN.add (2*4)=⟨cN.block,cN.off+8,Z⟩:=rfl;simp only [QL]at BQ Ch Ci IV;clear QL;have jR:q2r 5 c M=1:=by have h1:=qc2 hx;rw[kY,fs,sZ]at h1;rw[<-h1,H2.a2];exact qu5
 obtain⟨s0,s1,s2⟩:=HC.out.1 W7 H7.out.1;have HR:=kg hX oJ kT nZ jR;rw[H7.b2]at BQ Ch Ci IV s2;clear hX oJ kT nZ jR hx kY fs sZ s0 s1;go_wp2_with fail;rw[<-H7.b2];rw[<-H7.b2]at BQ Ch Ci IV s2;refine(qt2 5 r c _ M W7 HR.out.1 qqu HR.a1 HR.a2 HR.a3).mono ?_;rintro e w8 ⟨rfl,fg⟩;rw[HR.b4];have mf:=H7.a1.keep fg;have Gy:Below W2 W2 w8:=(btr H7.out.1 fg);have H8:=jg mf Gy;clear mf Gy fg BQ Ch Ci IV s2;go_wp2_with fail;obtain⟨W9,fW⟩:=x4 (w8.alloc (.cells #[H φ 4,H φ 1] 3));have we:Below w8 w8 W9:=by rw[fW];exact(q9).alloc (nlr _) _
 have jE:Sl W9 1 (O w8 2 2) (ints [4,1]):=by rw[fW];exact q8p w8 3 1 [H φ 4,H φ 1] 2 rfl (by unfold maxLen;omega)
 rw[<-fW];refine(qsw _ _ [4,1] [4,1] W9 (H8.out.1.keep we) jE).mono ?_;rintro e Q1 ⟨rfl,Gz⟩;rw[decide_eq_true (rfl:([4,1] : List Int)=[4,1])];have eS:Below W2 W2 Q1:=H8.out.2.trans (((btr we Gz)).mono H8.out.2.size);have HF:=lhd (H1.a2.trans (((btr H2.a3 eS)).mono H1.a2.size));clear jE we fW Gz eS;go_wp2_with fail;go_ret;exact⟨rfl,HF.out⟩
theorem qsn (n:Int)(w:δ):Calls Tryz.prog 5 #[n] w fun e w'=>∃P,e=.returned (H φ P)/\Below w w w':=by
 have h3:=Int.lt_tmod_of_pos n (show (0:Int)<4 by omega);have h4:=Int.tmod_lt_of_pos n (show (0:Int)<4 by omega);obtain⟨b,hb⟩:∃b,n.tmod 4=b:=⟨_,rfl⟩
 rw[hb]at h3 h4;have hw:IntKind.i64.wrap (b+4)=b+4:=IntWalk.i64_in _ (by omega);obtain⟨z,hz⟩:∃z,b+4=z:=⟨_,rfl⟩
 rw[hz]at hw;obtain⟨k,hk⟩:∃k:Nat,z.tmod 4=k:=⟨(z.tmod 4).toNat,by have:=Int.tmod_nonneg 4 (show 0<=z by omega);omega⟩
 have We:k<4:=by have:=Int.tmod_lt_of_pos z (show (0:Int)<4 by omega);omega
 have cV:(k:Int)<4:=by omega
 have rA:(0:Int)<=(k:Int):=by omega
 obtain⟨P,hP⟩:∃P:Int,(w.alloc (.cells #[H φ 2,H φ 3,H φ 5,H φ 7] 3)) ((w:Addr).add k)=P:=by
  rw[Addr.add_lit];rcases (by omega:k=0\/k=1\/k=2\/k=3)with rfl|rfl|rfl|rfl
  ·exact⟨2,xz w _ _ 0 rfl⟩
  ·exact⟨3,xz w _ _ 1 rfl⟩
  ·exact⟨5,xz w _ _ 2 rfl⟩
  ·exact⟨7,xz w _ _ 3 rfl⟩
 have Wf:=hP;rw[Addr.add_lit,Nat.zero_add]at Wf;have hB:Below w w (w.alloc (.cells #[H φ 2,H φ 3,H φ 5,H φ 7] 3)):=(q9).alloc (nlr _) _;have HB:=jg hB hz;have iQ:IntKind.i64.wrap (b+4)=z:=by rw[<-hz] ;rw[hz];exact hw
 clear hB hz h3 h4 We hw;go_enter Tryz.func5,Tryz.ntmps5;go_wp2_with fail;go_ret;exact⟨P,rfl,HB.out.1⟩
