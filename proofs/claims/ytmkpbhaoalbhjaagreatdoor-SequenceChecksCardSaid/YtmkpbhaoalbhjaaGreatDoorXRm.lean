/- Steps towards SequenceChecks. Conditions: none. -/
import Derived.Test.YtmkpbhaoalbhjaaGreatDoorXRl
set_option maxRecDepth 1000000
set_option maxHeartbeats 0
open Go.Value renaming slice→O,agg→I,pointer→σ,bool→τ,int→H,tuple→ψ
open Option renaming none→Z,some→Y
open Go renaming undef→V,World→δ,Value→ε
open Go.IntKind renaming i64→φ
open Go.Cx renaming keep→J
namespace Go.Proofs.YtmkpbhaoalbhjaaGreatDoor
open Go.RowKit Go.Cx
attribute [local go_sem ↓] Go.wp_at_zero Go.wp_at_succ
theorem qv2 (x:Int)(w:δ):(Instr.buildSlice 23 1 #[(0,x)]).run Tryz.prog w=.ok (O w 1 1) (w.alloc (.cells #[x] 3)):=by kernel_rfl
theorem qla (x:Int)(w:δ):Sl (w.alloc (.cells #[x] 3)) 1 (O w 1 1) (ints [x]):=by
 refine⟨_,1,1,rfl,nlr _,by unfold maxLen;omega,rfl,(fun e=>by cases e),fun ad bR j u hj=>?_⟩;cases bR
 have DU:j=0:=by have:=(gk.1 hj).1;simp[ints]at this;omega
 subst DU;rw[Addr.add_lit];have:u=x:=by simp[ints]at hj;exact hj.symm
 rw[this];exact xz w _ _ 0 rfl
structure Grw (wr:δ)(B bs:Nat)(p:Int)(r m:Nat)(G:List Int)(o:ε)(c:Nat):Prop where
 c0:wr B=p
 c1:wr ⟨B,1,Z⟩=r
 c2:wr ⟨B,2,Z⟩=m
 c3:wr ⟨B,3,Z⟩=Y o
 z3:wr.frozen? ⟨B,3,Z⟩=false
 row:wr.ownsRow bs 3 1 o c (ints (G.take c))
 lt:B<bs
 le:bs<=wr
theorem Grw.put {wr w2:δ}{B bs:Nat}{p:Int}{r m:Nat}{G:List Int}{o:ε}{c d:Nat}(h:Grw wr B bs p r m G o c)(hb:Below bs wr w2){v:ε}(hr:w2.ownsRow bs 3 1 v d (ints (G.take d))):Grw (w2.setCell ⟨B,3,Z⟩ v) B bs p r m G v d where
 c0:=x8 ((hb.cell (p:=B) h.lt).trans h.c0) (by simp)
 c1:=x8 ((hb.cell (p:=⟨B,1,Z⟩) h.lt).trans h.c1) (by simp)
 c2:=x8 ((hb.cell (p:=⟨B,2,Z⟩) h.lt).trans h.c2) (by simp)
 c3:=World.cell?_setCell_same' _ _ _ (by rw[(hb.cell (p:=⟨B,3,Z⟩) h.lt).trans h.c3];rfl)
 z3:=by simpa [World.frozen?_setCell]using (hb.frozen (p:=⟨B,3,Z⟩) h.lt).trans h.z3
 row:=qji hr (fun b hb=>by have:=(hr.lt b hb).1;have:=h.lt;show b≠B;omega) _
 lt:=h.lt
 le:=by have:=h.le;have:=hb.size;simp only [World.size_setCell];omega
theorem qjo {p:Int}{r q:Nat}{M:List (List Int)}(h:FM p r q M){l:List Nat}(hl:∀j∈l,j<q){i k j:Nat}(hi:i<r)(hk:l[k]? =Y j):(q3v M l).flatten[i*l.length+k]? =Y (j6 (zm M i) j):=by have aZ:=(gk.1 hk).1;have hC:=qbk h hl;rw[flat_get hC.wid (by rw[hC.len];exact hi) aZ,qih h hi hk]
theorem qmx (p:Int)(r q:Nat)(v u:ε)(M:List (List Int))(l:List Nat)(w:δ)(h:Sl w 1 v (ints M.flatten))(k:Sl w 1 u (ints (nI l)))(hM:FM p r q M)(hl:∀j∈l,j<q)(hr:r<=400)(hq:q<=400)(aW:l.length<=400) :
  Calls Tryz.prog 89 #[I #[H φ p,H φ r,H φ q,v],u] w fun e w'=>∃s,e=.returned (I #[H φ p,H φ r,H φ (l.length:Nat),s])/\w'.ownsRow w.heap.size 3 1 s (r*l.length) (ints (q3v M l).flatten)/\Below w.heap.size w w':=by
 obtain⟨a,an,ac,rfl⟩:=qg h;obtain⟨b,bn,bc,rfl⟩:=qg k;have oD:an=r*q:=by have:=h.open.2.2.1;rw[xl,hM.q1d]at this;omega
 have qE:bn=l.length:=by have:=k.open.2.2.1;rw[xl,qjk]at this;omega
 rw[<-qE];have KE:bn<=400:=by omega
 have HH:=kp h k hM hl oD qE;clear h k hM hl oD qE aW;go_enter Tryz.func89,Tryz.ntmps89;go_wp2_with fail;obtain⟨W,hW⟩:=x4 (((w.alloc (.cells #[p,r,q,O a an ac] 30)).alloc (.cells #[H φ 0,H φ 0,H φ 0,O Z 0 0] 30)).alloc (.cells #[p,r,bn,O Z 0 0] 30));rw[<-hW];have hw:Below w w W:=by rw[hW];exact(((q9).alloc (nlr _) _).alloc (by simp) _).alloc (by simp;omega) _
 have aG:W.heap.size=w+3:=by rw[hW];simp
 have p2:W ⟨w,2,Z⟩=q:=by rw[hW];exact qk (qk (xz w _ _ 2 rfl) _) _
 have p3:W ⟨w,3,Z⟩=O a an ac:=by rw[hW];exact qk (qk (xz w _ _ 3 rfl) _) _
 have s0:W (w+1:Nat)=H φ 0:=by rw[hW];exact qk (zx w _ _ _ 0 rfl) _
 have s1:W ⟨w+1,1,Z⟩=H φ 0:=by rw[hW];exact qk (zx w _ _ _ 1 rfl) _
 have s2:W ⟨w+1,2,Z⟩=H φ 0:=by rw[hW];exact qk (zx w _ _ _ 2 rfl) _
 have s3:W ⟨w+1,3,Z⟩=O Z 0 0:=by rw[hW];exact qk (zx w _ _ _ 3 rfl) _
 have sz:∀i,W.frozen? ⟨w+1,i,Z⟩=false:=fun i=>by rw[hW];exact q27 (by simp) (vo w _ _ _ i) _
 obtain⟨G,hG⟩:=x4 ((q3v M l).flatten);have ni:Grw W (w+1+1) (w+3) p r bn G (O Z 0 0) 0:=⟨by rw[hW];exact jw w _ _ _ _ 0 rfl,by rw[hW];exact jw w _ _ _ _ 1 rfl,by rw[hW];exact jw w _ _ _ _ 2 rfl,by rw[hW];exact jw w _ _ _ _ 3 rfl,by rw[hW];exact q1e w _ _ _ _ 3,by rw[List.take_zero];exact World.ownsRow_nil _ _ _ _,by omega,by omega⟩
 have HC:=q93 p2 p3 s0 s1 s2 s3 sz hw aG hG;have HG:=lhd ni;clear hW p2 p3 s0 s1 s2 s3 sz hw aG hG ni;go_loopw [18] (fun x wr=>∃(i:Nat) (o:ε),x=i/\i<=r/\Hid (Grw wr (w+1+1) (w+3) p r bn G o (i*bn))/\Hid (Below (w+2) W wr)) (fun x _=>r-(vI x).toNat)
 case atStart=>exact⟨0,O Z 0 0,rfl,gm _,(lhd (by rw[Nat.zero_mul];exact HG.out)),(lhd q9)⟩
 case round =>
  obtain⟨i,o,rfl,hi,HR,HB⟩:=hrel;by_cases db:i<r
  ·have rJ:(i:Int)<r:=by omega
   go_wp2;go_loopw [23] (fun x wr=>∃(k:Nat) (o:ε),x=k/\k<=bn/\Hid (Grw wr (w+1+1) (w+3) p r bn G o (i*bn+k))/\Hid (Below (w+2) W wr)) (fun x _=>bn-(vI x).toNat)
   case atStart=>exact⟨0,o,rfl,gm _,(lhd HR.out),HB⟩
   case round =>
    obtain⟨k,o2,rfl,hk,nE,aR⟩:=hrel;by_cases rY:k<bn
    ·have cV:(k:Int)<bn:=by omega
     obtain⟨ld,z,hle,hz,d0⟩:=q00 HH.a1 rY;subst hle;obtain⟨j,hj,rfl⟩:∃j:Nat,l[k]? =Y j/\z=(j:Int):=by
      unfold nI at hz;rw[List.getElem?_map]at hz;cases hy:l[k]? with
      |none=>rw[hy]at hz;cases hz
      |some y=>rw[hy]at hz;exact⟨y,rfl,(osi hz).symm⟩
     have KF:=HH.a3 j (gi hj);have iz:i*q+j<an:=by rw[HH.a4];exact q2x db KF
     obtain⟨md,x,pg,hx,d1⟩:=q00 HH.out.1 iz;subst pg;have Ig:x=j6 (zm M i) j:=by rw[flat_get HH.a2.wid (by rw[HH.a2.len];exact db) KF]at hx;exact(osi hx).symm
     have KG:G[i*bn+k]? =Y x:=by rw[HC.b9,HH.b5,qjo HH.a2 HH.a3 db hj,Ig]
     have tQ:=HC.a7;have aG:=HC.a8;have bQ:Below w w wr:=tQ.trans (aR.out.mono (by omega));have DV:(md.add (i*q+j)).block<w+3/\(ld.add k).block<w+3:=by have h1:=World.block_lt_of_cell? w _ d1;have h2:=World.block_lt_of_cell? w _ d0;omega
     replace d0:=J bQ d0
     replace d1:=J bQ d1
     have c2:=(aR.out.cell (p:=⟨w,2,Z⟩) (by simp)).trans HC.out.1;have c3:=(aR.out.cell (p:=⟨w,3,Z⟩) (by simp)).trans HC.a1;have e3:=nE.out.c3;obtain⟨cc,Af⟩:=x4 (i*bn+k);have al:=nE.out.row;rw[<-Af]at al KG;obtain⟨oa,oc,pq⟩:=qj al;subst pq;have KH:cc<=160400:=by rw[Af];exact Nat.add_le_add (Nat.mul_le_mul (show i<=400 by omega) KE) (show k<=400 by omega)
     have xE:IntKind.i64.wrap ((i:Int)*(q:Int))=((i*q:Nat):Int):=kd (by omega) (by omega);have sr:IntKind.i64.wrap (((i*q:Nat):Int)+(j:Int))=((i*q+j:Nat):Int):=by rw[<-Int.natCast_add];refine IntWalk.i64_in _ ?_;have:i*q<=400*400:=Nat.mul_le_mul (by omega) hq;omega
     obtain⟨y1,fQ⟩:=x4 (i*q);rw[<-fQ]at xE sr iz d1 DV;obtain⟨y2,pB⟩:=x4 (y1+j);rw[<-pB]at sr iz d1 DV;have Ag:G.take (cc+1)=G.take cc++[x]:=by rw[gC,KG];rfl
     have oG:=nE.out.le;have HX:=kp al Ag Af KH DV oG;clear hj KF hz hx Ig KG tQ aG bQ al Af fQ pB Ag oG DV;go_wp2_with fail;refine qp4 fun KO cD=>?_
     go_cut [27]from 28 to 41 (fun _ wx=>∃w2 fa fc,Hid (w2.ownsRow (w+3) 3 1 (O fa (cc+1) fc) (cc+1) (ints (G.take (cc+1)))/\Below (w+3) wr w2)/\wx=w2.setCell ⟨w+1+1,3,Z⟩ (O fa (cc+1) fc))
     case first =>
      rename_i At K2 hJ aQ;refine yg (by kernel_rfl) (VF [Y (σ (Y ⟨w+1+1,3,Z⟩)),Y (O oa cc oc),Y (σ (Y ⟨w,3,Z⟩)),Y (O (Y md) an ac),Y (i:Int),Y (σ (Y ⟨w,2,Z⟩)),Y (q:Int),Y (y1:Int),Y (j:Int),Y (y2:Int),Y (σ (Y (md.add y2))),Y x,Z,Z,Y (σ (Y ⟨w+1+1,3,Z⟩)),Z]) [12,13] (fun vs w2=>Below (w+3) wr w2/\match vs with|[]=>w2.ownsRow (w+3) 3 1 (O oa cc oc) cc (ints (G.take cc))|[v]=>Sl w2 1 v (ints [x])/\w2.ownsRow (w+3) 3 1 (O oa cc oc) cc (ints (G.take cc))|[_,v]=>w2.ownsRow (w+3) 3 1 v (cc+1) (ints (G.take cc)++ints [x])|_=>False) 15 20 45 rfl (by kernel_rfl) (by kernel_rfl) (by decide) (by kernel_rfl) (by kernel_rfl) (by kernel_rfl) (by decide) (by decide) (fun a w2=>K2 a w2) ?start ?pure ?eff ?last ?done
      case start=>exact⟨qb (Below.refl _ wr) 1,HX.out.1.drew⟩
      case pure =>
       intro i o ho hL hE a w' vs hT ai hd ab hsz;have T4:=(hT.1.cell (p:=⟨w+1+1,3,Z⟩) (by simp <;> omega)).trans e3;have T5:=(hT.1.cell (p:=⟨w,3,Z⟩) (by simp <;> omega)).trans c3;have T6:=(hT.1.cell (p:=⟨w,2,Z⟩) (by simp <;> omega)).trans c2;have T7:=(hT.1.cell (p:=md.add y2) HX.a4.1).trans d1
       match i,ho,hL,hE,ai,hd with
       |0,rfl,_,_,_,_ =>exact yb rfl (zr qu ab 5) (jv _ _ _ (by decide)) (gone rfl)
       |1,rfl,_,_,_,hd =>exact jm rfl (j8 hd 0) (yy _ _ _ _ _ (T4)) (gone rfl)
       |2,rfl,_,_,_,_ =>exact yb rfl (zr qu ab 2) (jv _ _ _ (by decide)) (gone rfl)
       |3,rfl,_,_,_,hd =>exact jm rfl (j8 hd 2) (yy _ _ _ _ _ (T5)) (gone rfl)
       |4,rfl,_,_,_,_ =>exact jo (.inl rfl) ⟨_,rfl,fun _ h=>(zr qu ab 6).trans (osi h),rfl⟩
       |5,rfl,_,_,_,_ =>exact yb rfl (zr qu ab 2) (jv _ _ _ (by decide)) (gone rfl)
       |6,rfl,_,_,_,hd =>exact jm rfl (j8 hd 5) (qe0 _ _ _ (T6)) (gone rfl)
       |7,rfl,_,_,_,hd =>exact q0n rfl (j8 hd 4) (j8 hd 6) rfl (q2d xE _) (gone rfl)
       |8,rfl,_,_,_,_ =>exact jo (.inl rfl) ⟨_,rfl,fun _ h=>(zr qu ab 8).trans (osi h),rfl⟩
       |9,rfl,_,_,_,hd =>exact q0n rfl (j8 hd 7) (j8 hd 8) rfl (q1u sr _) (gone rfl)
       |10,rfl,_,_,_,hd =>exact q4r rfl (j8 hd 3) (j8 hd 9) (q0w _ _ _ _ _ iz) (gone rfl)
       |11,rfl,_,_,_,hd =>exact jm rfl (j8 hd 10) (qe0 _ _ _ (T7)) (gone rfl)
       |12,ho,hL,hE,ai,hd =>exact absurd (by decide) hE
       |13,ho,hL,hE,ai,hd =>exact absurd (by decide) hE
       |14,rfl,_,_,_,_ =>exact yb rfl (zr qu ab 5) (jv _ _ _ (by decide)) (gone rfl)
       |15,ho,hL,hE,ai,hd =>exact absurd rfl hL
       |i+16,ho,hL,hE,ai,hd =>have:i+16<16:=(gh.1 ho).1;omega
      case eff =>
       intro s i o hs ho a w' vs hl hT hd hr ab hsz
       match s,hs,hr,hl with
       |0,hs,hr,hl =>obtain rfl:=osi hs;obtain rfl:=osi ho;obtain rfl:=gl hl;have f11:a 38 V=x:=j8 hd 11;have hle:=gd HX.b5 hT.1.size;exact⟨rfl,q5z _ _ _ rfl #[(0,x)] (by rw[<-f11];simp[Act.eval]) _ _ (qv2 x w') ⟨_,rfl,hT.1.alloc hle _,qla x w',hT.2.alloc _⟩⟩
       |1,hs,hr,hl =>obtain rfl:=osi hs;obtain rfl:=osi ho;obtain⟨v1,rfl⟩:=List.length_eq_one_iff.1 hl;have f1:a 28 V=O oa cc oc:=j8 hd 1;have f12:a 39 V=v1:=hr 0 12 _ _ rfl rfl rfl (by decide);exact⟨rfl,qfe _ _ 23 rfl (w+3) 3 Tryz.xg Tryz.underlying23 rfl (by decide) (by decide) _ cc _ f1 hT.2.2 v1 1 (ints [x]) f12 hT.2.1 rfl (q65 _) (by have:=HX.a3;omega) (gd HX.b5 hT.1.size) fun v' w2 h1 h2=>⟨v',rfl,hT.1.trans h2,h1⟩⟩
       |s+2,hs,hr,hl=>cases hs
      case last =>intro o ho a w' vs hsz aO hl hT hf hr ab;obtain rfl:=osi ho;obtain⟨v1,v2,rfl⟩:=q51 hl;obtain⟨fa,fc,iI⟩:=qj hT.2;have g0:a 41 V=σ (Y ⟨w+1+1,3,Z⟩):=hf 14 _ _ rfl rfl (by kernel_rfl) (by decide) _ rfl;have g1:a 40 V=O fa (cc+1) fc:=(hr 1 13 _ _ rfl rfl rfl).trans iI;have DX:=hT.2;rw[iI,<-vk,<-HX.a1]at DX;refine⟨rfl,ju _ _ _ rfl _ _ g0 g1 (qbs _ _ _ _ _ _ ((hT.1.cell (p:=⟨w+1+1,3,Z⟩) (by simp)).trans e3) ((hT.1.frozen (p:=⟨w+1+1,3,Z⟩) (by simp)).trans nE.out.z3)) ?_⟩;refine aQ _ _ (Met.intro (hJ _ _ ⟨a 27 V,a 28 V,a 29 V,a 30 V,a 31 V,a 32 V,a 33 V,a 34 V,a 35 V,a 36 V,a 37 V,a 38 V,a 39 V,a 40 V,a 41 V,⟨w',fa,fc,(lhd ⟨DX,hT.1⟩),rfl⟩,(q8z hsz aO ab).trans ?_⟩));kernel_rfl
      case done=>exact fun _ _ h=>h
     case rest =>
      obtain⟨w2,fa,fc,KI,rfl⟩:=hcut;refine cD _ _ ?_;go_wp2;go_roundw
      case measure=>simp[vI];omega
      case rel =>
       refine⟨k+1,O fa (cc+1) fc,qh (by omega),by omega,(show Hid _ from ?_),(lhd ((aR.out.trans (KI.out.2.mono (by omega))).setCell (by simp) _))⟩;have e:i*bn+(k+1)=cc+1:=by rw[HX.a2,Nat.add_assoc]
       rw[e];have hg:=nE.out;exact hg.put KI.out.2 KI.out.1
    ·have aM:k=bn:=by omega
     have hmul:i*bn+k=(i+1)*bn:=by rw[aM,Nat.add_mul,Nat.one_mul]
     rw[hmul]at nE;clear aM hmul;go_wp2;go_roundw
     case measure=>simp[vI];omega
     case rel=>exact⟨i+1,o2,qh (by omega),by omega,nE,aR⟩
  ·have hie:i=r:=by omega
   have bX:∀ {c:Nat} {x:ε},W ⟨w+1,c,Z⟩=Y x->wr ⟨w+1,c,Z⟩=Y x:=fun hx=>(HB.out.cell (by simp)).trans hx
   obtain⟨s0,s1,s2,s3,sz,hw,aG,Ow⟩:=HC.b2;have r0:=bX s0;have r1:=bX s1;have r2:=bX s2;have r3:=bX s3;have z0:=(HB.out.frozen (p:=(w+1:Nat)) (by simp)).trans (sz 0);have z1:=(HB.out.frozen (p:=⟨w+1,1,Z⟩) (by simp)).trans (sz 1);have z2:=(HB.out.frozen (p:=⟨w+1,2,Z⟩) (by simp)).trans (sz 2);have z3:=(HB.out.frozen (p:=⟨w+1,3,Z⟩) (by simp)).trans (sz 3);have x0:=HR.out.c0;have x1:=HR.out.c1;have x2:=HR.out.c2;have x3:=HR.out.c3;have al:=HR.out.row;have hlen:(q3v M l).flatten.length=r*bn:=by rw[(qbk HH.a2 HH.a3).q1d,HH.b5]
   rw[hie,Ow,gr (by rw[hlen];exact nlr _)]at al;obtain⟨oa,oc,pq⟩:=qj al;subst pq;have HQ:=jg al (hw.trans (HB.out.mono (by omega)));clear bX s0 s1 s2 s3 sz hw aG Ow al hlen;go_wp2_with fail;obtain⟨e0,e1,e2,e3⟩:=q1f r0 r1 r2 r3;refine bodyPost_ret (v:=I #[p,r,bn,O oa (r*bn) oc]) (by simp[results,Tryz.results89,go_sem,e0,e1,e2,e3]) rfl ⟨O oa (r*bn) oc,rfl,?_,jj HQ.out.2 (by omega) _ _ _ _⟩;exact qf (vl HQ.out.1 (fun b hb=>by have:=(HQ.out.1.lt b hb).1;show b≠w+1;omega) _ _ _ _) (by omega)
end Go.Proofs.YtmkpbhaoalbhjaaGreatDoor
namespace Go.Cx
open Go.Proofs.YtmkpbhaoalbhjaaGreatDoor
theorem qlb {l m:List Sd}(h:l≠m):qbg l m=false:=by
 cases e:qbg l m with
 |false=>rfl
 |true=>exact absurd (q9g.1 e) h
end Go.Cx
namespace Go.Proofs.YtmkpbhaoalbhjaaGreatDoor
open Go.RowKit Go.Cx
attribute [local go_sem ↓] Go.wp_at_zero Go.wp_at_succ
def neS (t u:Sd):Bool:=!(t.c == u.c && t.g == u.g)
theorem qlc (t u:Sd):neS t u=false↔t=u:=by
 cases t;cases u
 simp only [neS,Bool.not_eq_false',Bool.and_eq_true,beq_iff_eq,Sd.mk.injEq]
theorem qv3 (w:δ)(tc uc tn un:Int) :
  (Go.binOp .neq 54 (I #[tc,tn]) (I #[uc,un])).run Tryz.prog w=.ok (τ (neS ⟨tc,tn⟩ ⟨uc,un⟩)) w:=by
 have hp:Tryz.prog.stoodInHeld 54=false:=by kernel_rfl
 by_cases h1:(tc == uc)=true <;> by_cases h2:(tn == un)=true <;> (try simp only [Bool.not_eq_true]at h1) <;> (try simp only [Bool.not_eq_true]at h2) <;>
  simp[neS,go_sem,h1,h2,hp]
theorem qv4:Tryz.prog.eqGuardType Tryz.prog.depth 54=false:=by kernel_rfl
theorem qil (v u:ε)(l m:List Sd)(w:δ)(h:Sl w 2 v (cat Sd.enc l))(k:Sl w 2 u (cat Sd.enc m)) :
  Calls Tryz.prog 81 #[v,u] w fun e w'=>e=.returned (τ (qbg l m))/\Below w w w':=by
 obtain⟨a,len,cap,rfl,h1,h2,h3,h4,h5⟩:=h;obtain⟨b,ay,dQ,rfl,k1,k2,k3,k4,k5⟩:=k;unfold maxLen at h2 k2;rw[qt Sd.qp]at h3 k3;have hl:l.length=len:=by omega
 have kl:m.length=ay:=by omega
 clear h3 k3;have Hl:=lhd hl;clear hl;have Kl:=lhd kl;clear kl;have H4:=lhd h4;clear h4;have H5:=lhd h5;clear h5;have K4:=lhd k4;clear k4;have K5:=lhd k5;clear k5;by_cases aW:len=ay
 ·subst aW;go_enter Tryz.func81,Tryz.ntmps81;go_wp2;go_loopw [13] (fun i wr=>∃k:Nat,i=k/\k<=len/\l.take k=m.take k/\Below w w wr) (fun i _=>len-(vI i).toNat)
  case atStart=>exact⟨0,rfl,gm _,rfl,q9⟩
  case round =>
   obtain⟨k,rfl,hk,he,hB⟩:=hrel;have He:=lhd he;clear he;by_cases ak:k<len
   ·obtain⟨ad,rfl⟩:=sadq H4.out (by omega)
    obtain⟨bd,rfl⟩:=sadq K4.out (by omega)
    obtain⟨⟨tc,tn⟩,ht⟩:∃t,l[k]? =Y t:=⟨_,gg (by rw[Hl.out];exact ak)⟩
    obtain⟨⟨uc,un⟩,hu⟩:∃t,m[k]? =Y t:=⟨_,gg (by rw[Kl.out];exact ak)⟩
    obtain⟨e0,e1⟩:=zw l k _ ht;obtain⟨e3,e4⟩:=zw m k _ hu;have d0:wr (ad.add (k*2))=tc:=keep hB (H5.out ad rfl _ _ e0);have d1:wr ⟨(ad.add (k*2)).block,(ad.add (k*2)).off+1,Z⟩=tn:=by rw[qi _ _ _ (by omega)];exact keep hB (H5.out ad rfl _ _ e1)
    have d3:wr (bd.add (k*2))=uc:=keep hB (K5.out bd rfl _ _ e3);have d4:wr ⟨(bd.add (k*2)).block,(bd.add (k*2)).off+1,Z⟩=un:=by rw[qi _ _ _ (by omega)];exact keep hB (K5.out bd rfl _ _ e4)
    clear e0 e1 e3 e4;have Ht:=lhd ht;clear ht;have Hu:=lhd hu;clear hu;obtain⟨q,hq⟩:∃q,neS ⟨tc,tn⟩ ⟨uc,un⟩=q:=⟨_,rfl⟩
    have ah:∀W:δ,(Go.binOp .neq 54 (I #[tc,tn]) (I #[uc,un])).run Tryz.prog W=.ok (τ q) W:=fun W=>by rw[<-hq];exact qv3 W tc uc tn un
    have Hq:=lhd hq;clear hq;have wj:=qv4;go_wp2
    go_quiet (fail)
    by_cases yL:q=true
    ·subst yL;go_wp2;go_ret;have fk:l≠m:=fun h=>by
      have e1:(⟨tc,tn⟩ : Sd)=⟨uc,un⟩:=by have:=Ht.out;rw[h,Hu.out]at this;exact(osi this).symm
      have e2:=(qlc _ _).2 e1;rw[Hq.out]at e2;cases e2
     exact⟨by rw[qlb fk];rfl,qb hB nq⟩
    ·have yM:q=false:=by simpa using yL
     subst yM;clear yL;go_wp2;go_roundw
     case measure=>simp[vI];omega
     case rel =>refine⟨k+1,qh (by omega),by omega,?_,qb hB nq⟩;rw[gC,gC,Ht.out,Hu.out,He.out,(qlc _ _).1 Hq.out]
   ·have aM:k=len:=by omega
    have qW:=lhd aM;clear aM;go_wp2;go_ret;have heq:l=m:=by
     have:=He.out
     rwa [qW.out,gr (Nat.le_of_eq Hl.out),gr (Nat.le_of_eq Kl.out)]at this
    exact⟨by rw[q9g.2 heq];rfl,hB⟩
 ·have Jm:((len:Int) == ay)=false:=by simp;omega
  have dD:=lhd aW;clear aW;go_enter Tryz.func81,Tryz.ntmps81;go_wp2;go_ret;have fk:l≠m:=fun h=>absurd (by rw[<-Hl.out,<-Kl.out,h]) dD.out
  exact⟨by rw[qlb fk];rfl,q9⟩
theorem qpf (x y:Ce)(w:δ)(hx:Sl w 2 x.sl (cat Sd.enc x.s))(hy:Sl w 2 y.sl (cat Sd.enc y.s)):Calls Tryz.prog 75 #[x.v,y.v] w fun e w'=>e=.returned (τ (clB x.cl y.cl))/\Below w w w':=by
 unfold Ce.sl at hx hy;obtain⟨W,hW⟩:=x4 ((w.alloc (.cells #[x.id,x.dim,O x.a x.n x.c] 52)).alloc (.cells #[y.id,y.dim,O y.a y.n y.c] 52));have hw:Below w w W:=by rw[hW];exact((q9).alloc (nlr _) _).alloc (by simp) _
 have hE:clB x.cl y.cl=(x.id == y.id && (x.dim == y.dim && qbg x.s y.s)):=rfl;rw[hE];have HC:=lhd (qil _ _ x.s y.s W (hx.keep hw) (hy.keep hw));have HW:=jg hW hw;unfold Ce.v;clear hx hy hW hw hE;by_cases h1:x.id=y.id
 ·have b1:(x.id == y.id)=true:=by simpa using h1
  clear h1;by_cases h2:x.dim=y.dim
  ·have b2:(x.dim == y.dim)=true:=by simpa using h2
   clear h2;rw[b1,b2,Bool.true_and,Bool.true_and];go_enter Tryz.func75,Tryz.ntmps75;go_wp2_with fail;rw[<-HW.out.1];refine HC.out.mono ?_;rintro e w1 ⟨rfl,hb⟩;have HB:=lhd ((btr HW.out.2 hb));clear hb;go_wp2_with fail;go_ret;exact⟨rfl,HB.out⟩
  ·have b2:(x.dim == y.dim)=false:=by simpa using h2
   clear h2;rw[b1,b2,Bool.true_and,Bool.false_and];go_enter Tryz.func75,Tryz.ntmps75;go_wp2_with fail;go_ret;exact⟨rfl,by have:=HW.out.2;rw[HW.out.1]at this;exact this⟩
 ·have b1:(x.id == y.id)=false:=by simpa using h1
  clear h1;rw[b1,Bool.false_and];go_enter Tryz.func75,Tryz.ntmps75;go_wp2_with fail;go_ret;exact⟨rfl,by have:=HW.out.2;rw[HW.out.1]at this;exact this⟩
end Go.Proofs.YtmkpbhaoalbhjaaGreatDoor
namespace Go.Cx
open Go.RowKit Go.Proofs.YtmkpbhaoalbhjaaGreatDoor
theorem qds {w:δ}{B:Nat}{x0 x1 x2:ε}(r0:w B=Y x0)(r1:w ⟨B,1,Z⟩=Y x1)(r2:w ⟨B,2,Z⟩=Y x2) :
  (∀a b c:ε,(((w.setCell B a).setCell ⟨B,1,Z⟩ b).setCell ⟨B,2,Z⟩ c) B=Y a)/\(∀a b c:ε,(((w.setCell B a).setCell ⟨B,1,Z⟩ b).setCell ⟨B,2,Z⟩ c) ⟨B,1,Z⟩=Y b) ∧
  (∀a b c:ε,(((w.setCell B a).setCell ⟨B,1,Z⟩ b).setCell ⟨B,2,Z⟩ c) ⟨B,2,Z⟩=Y c) :=
 ⟨fun a b c=>x8 (x8 (World.cell?_setCell_same' _ _ _ (by rw[r0];rfl)) (by simp)) (by simp),
  fun a b c=>x8 (World.cell?_setCell_same' _ _ _ (by rw[x8 r1 (by simp)];rfl)) (by simp),
  fun a b c=>World.cell?_setCell_same' _ _ _ (by rw[x8 (x8 r2 (by simp)) (by simp)];rfl)⟩
theorem q28 {b B:Nat}{w w':δ}(h:Below b w w')(hB:b<=B)(x0 x1 x2:ε):Below b w (((w'.setCell B x0).setCell ⟨B,1,Z⟩ x1).setCell ⟨B,2,Z⟩ x2) :=
 ((h.setCell (p:=B) hB _).setCell (p:=⟨B,1,Z⟩) hB _).setCell (p:=⟨B,2,Z⟩) hB _
theorem qim {w:δ}{R:Nat}{t:TypeId}{z:Nat×Nat}(hR:w.heap[R]? =Y (.cells #[H φ 0,H φ 0,O Z 0 0] t z)){ad:Addr}{n c:Nat}{s:List Sd}(h:Sl w 2 (O (Y ad) n c) (cat Sd.enc s))(hs:∀y∈s,y.c≠0)(h0:s≠[]):ad.block≠R:=by
 intro e;cases s with
 |nil=>exact h0 rfl
 |cons y s =>
  obtain⟨_,_,_,_,h6⟩:=h.open;have hc:=h6 ad rfl 0 y.c rfl;have e0:ad.add 0=ad:=rfl;have hy:=hs y (by simp);rw[e0]at hc;unfold World.cell? at hc;rw[e,hR]at hc
  dsimp only at hc
  split at hc
  ·cases hc
  ·rcases gG ad.off 3 with h3|h3
   ·rcases (by omega:ad.off=0\/ad.off=1\/ad.off=2)with e1|e1|e1 <;> rw[e1]at hc <;> simp at hc
    ·exact hy hc.symm
    ·exact hy hc.symm
   ·rw[Array.getElem?_eq_none (by simpa using h3)]at hc;cases hc
theorem qjp {w:δ}{R:Nat}{t:TypeId}{z:Nat×Nat}(hR:w.heap[R]? =Y (.cells #[H φ 0,H φ 0,O Z 0 0] t z)){v:ε}{s:List Sd}(h:Sl w 2 v (cat Sd.enc s))(hs:∀y∈s,y.c≠0)(a b c:ε) :
  Sl (((w.setCell R a).setCell ⟨R,1,Z⟩ b).setCell ⟨R,2,Z⟩ c) 2 v (cat Sd.enc s):=by
 obtain⟨va,n,cap,rfl⟩:=qg h;obtain⟨h2,h3,h4,h5,h6⟩:=h.open;refine⟨va,n,cap,rfl,h2,h3,h4,h5,fun ad bR j x hj=>?_⟩;subst bR;have ah:=qim hR h hs (fun e=>by subst e;simp[cat]at hj);have hb:(ad.add j).block=ad.block:=by unfold Addr.add;split <;> rfl
 exact xe (xe (xe (h6 ad rfl j x hj) (by rw[hb];exact ah)) (by rw[hb];exact ah)) (by rw[hb];exact ah)
end Go.Cx
namespace Go.Proofs.YtmkpbhaoalbhjaaGreatDoor
open Go.RowKit Go.Cx Go.Maps
attribute [local go_sem ↓] Go.wp_at_zero Go.wp_at_succ
theorem qpg (m:List Ce)(c:Int):(m.map Ce.cl).find? (fun y=>y.id == c)=(m.find? fun y=>y.id == c).map Ce.cl:=by
 induction m with
 |nil=>rfl
 |cons x m ih =>
  rw[bx];by_cases h:x.id=c
  ·have e:x.cl.id=c:=h;rw[List.find?_cons_of_pos (by simpa using e),List.find?_cons_of_pos (by simpa using h)];rfl
  ·have e:¬x.cl.id=c:=h;rw[List.find?_cons_of_neg (by simpa using e),List.find?_cons_of_neg (by simpa using h)];exact ih
theorem qtn (v:ε)(l:List Ce)(id:Int)(w:δ)(h:SlC w v l)(hl:l.length<=19)(fj:COk l)(hid:I64 id)(dv:∀x∈l,∀y∈x.s,y.c≠0) :
  Calls Tryz.prog 80 #[I #[v],id] w fun e w'=>Below w w w'/\((∃x:Ce,e=.returned (ψ #[x.v,τ true])/\(canon (l.map Ce.cl)).find? (fun y=>y.id == id)=Y x.cl/\Sl w' 2 x.sl (cat Sd.enc x.s)) ∨
   (e=.returned (ψ #[I #[H φ 0,H φ 0,O Z 0 0],τ false])/\(canon (l.map Ce.cl)).find? (fun y=>y.id == id)=Z)):=by
 obtain⟨a,n,cap,rfl⟩:=qg h.1;have pD:∀X∈canon (l.map Ce.cl),∀y∈X.s,y.c≠0:=fun X hX y hy=>by unfold canon at hX;obtain⟨As,hY,rfl⟩:=gj.1 hX;obtain⟨z,hz,rfl⟩:=gj.1 ((q2m _ _).1 hY);exact dv z hz y ((q2m _ _).1 hy)
 have HH:=yt h fj (yx hid) pD;clear h fj hid dv pD;go_enter Tryz.func80,Tryz.ntmps80;go_wp2_with fail;obtain⟨W0,aB⟩:=x4 ((w.alloc (.cells #[O a n cap] 36)).alloc (.cells #[H φ 0,H φ 0,O Z 0 0] 52));rw[<-aB];have fe:Below w w W0:=by rw[aB];exact((q9).alloc (nlr _) _).alloc (by simp) _
 have Ox:W0.heap[w.heap.size+1]? =Y (.cells #[H φ 0,H φ 0,O Z 0 0] 52 (0,0)):=by have:=heap_alloc_new (w.alloc (.cells #[O a n cap] 36)) (.cells #[H φ 0,H φ 0,O Z 0 0] 52);rw[World.size_alloc]at this;rw[aB];exact this
 have dg:w.heap.size+1<W0:=by rw[aB];simp
 clear aB;refine(qnb (O a n cap) l W0 (HH.out.1.keep fe) hl HH.a1).mono ?_;rintro e w1 ⟨T,rfl,⟨B,nB,vv,m,g1,g2,g3,g4,g5,g6,g7,g8⟩,ae⟩;have eh:=g5.qgy (e:=52) Tryz.underlying3 Tryz.underlying88 (zeroCell w1) HH.a2;have sx:=qpg m id;rw[g7]at sx;have BU:w1.heap[w.heap.size+1]? =Y (.cells #[H φ 0,H φ 0,O Z 0 0] 52 (0,0)):=(ae.block _ dg).trans Ox;have cU:w.heap.size+1<w1:=gz dg ae.size;have BV:∀o,(w1.alloc o).heap[w.heap.size+1]? =Y (.cells #[H φ 0,H φ 0,O Z 0 0] 52 (0,0)):=fun o=>((bal w1 o).block _ cU).trans BU
 have Oy:∀o,(w1.alloc o) (w+1:Nat)=H φ 0:=fun o=>by simp[World.cell?,BV]
 have GP:∀o,(w1.alloc o) ⟨w+1,1,Z⟩=H φ 0:=fun o=>by simp[World.cell?,BV]
 have GQ:∀o,(w1.alloc o) ⟨w+1,2,Z⟩=O Z 0 0:=fun o=>by simp[World.cell?,BV]
 have za:∀o i,(w1.alloc o).frozen? ⟨w+1,i,Z⟩=false:=fun o i=>jz (BV o) i
 have HG:=kp g7 g8 sx ((btr fe ae)) BV cU;clear g1 g2 g4 g5 g6 g7 g8 sx ae fe Ox BU BV dg cU;cases hf:m.find? (fun y=>y.id == id)with
 |none =>
  have hg:gOf m id=none:=by unfold gOf;rw[hf];rfl
  rw[hg]at eh;have uo:(Instr.lookup 88 (.map (Y B)) id true).run Tryz.prog w1=.ok (ψ #[I #[H φ 0,H φ 0,O Z 0 0],τ false]) w1:=eh;have HF:=lhd hf;clear eh hf hg;go_wp2_with fail;obtain⟨e0,e1,e2⟩:=qds (Oy (.cells #[H φ 0,H φ 0,O Z 0 0] 52)) (GP _) (GQ _);refine bodyPost_ret (v:=ψ #[I #[H φ 0,H φ 0,O Z 0 0],τ false]) (by simp[results,Tryz.results80,go_sem,e0,e1,e2]) rfl ⟨q28 (HG.a3.alloc HG.a3.size _) (by omega) _ _ _,.inr ⟨rfl,by rw[HG.a2,HF.out];rfl⟩⟩
 |some x =>
  have hg:gOf m id=Y x.v:=by unfold gOf;rw[hf];rfl
  rw[hg]at eh;have uo:(Instr.lookup 88 (.map (Y B)) id true).run Tryz.prog w1=.ok (ψ #[I #[x.id,x.dim,O x.a x.n x.c],τ true]) w1:=eh;have HF:=lhd hf;clear eh hf hg;go_wp2_with fail;obtain⟨e0,e1,e2⟩:=qds (Oy (.cells #[x.id,x.dim,O x.a x.n x.c] 52)) (GP _) (GQ _);have ee:=gR HF.out;have fs:x.cl∈canon (l.map Ce.cl):=by rw[<-HG.out.1];exact gj.2 ⟨x,ee,rfl⟩
  refine bodyPost_ret (v:=ψ #[I #[x.id,x.dim,O x.a x.n x.c],τ true]) (by simp[results,Tryz.results80,go_sem,e0,e1,e2]) rfl ⟨q28 (HG.a3.alloc HG.a3.size _) (by omega) _ _ _,.inl ⟨x,rfl,by rw[HG.a2,HF.out];rfl,?_⟩⟩;exact qjp (HG.a4 _) ((HG.a1 x ee).alloc _) (fun y hy=>HH.b3 x.cl fs y hy) _ _ _
end Go.Proofs.YtmkpbhaoalbhjaaGreatDoor
namespace Go.Cx
open Go.Proofs.YtmkpbhaoalbhjaaGreatDoor
theorem qaz {L:List Cl}{X:Cl}(h:X∈canon L):∃As∈L,X.id=As.id/\X.dim=As.dim/\X.s.length=As.s.length/\∀s,s∈X.s->s∈As.s:=by unfold canon at h;obtain⟨As,hY,rfl⟩:=gj.1 h;exact⟨As,(q2m _ _).1 hY,rfl,rfl,qdp _,fun s hs=>(q2m _ _).1 hs⟩
theorem qba {L:List Cl}(G:Good (canon L)):cellsOf L=canon L:=by unfold cellsOf;rw[q08 G.asc]
theorem qmz {L:List Cl}(G:Good (canon L))(d:Int):q04 L d=q04 (canon L) d:=by unfold q04;rw[qba G,G.cells.2]
theorem qna {L:List Cl}(h:chk L=(0,0)):chk (canon L)=(0,0):=by
 have G:=q0d h;obtain⟨h1,h2,h3⟩:=q4v.1 h;have e:cAt (canon L)=cAt L:=by
  funext c
  unfold cAt;rw[qba G,G.cells.2]
 refine q4v.2 ⟨by rw[q0z];exact h1,by rw[G.cells.1];exact h2,fun x hx=>?_⟩;rw[G.cells.1]at hx;rw[e];exact h3 x hx
end Go.Cx
namespace Go.Proofs.YtmkpbhaoalbhjaaGreatDoor
open Go.RowKit Go.Cx
attribute [local go_sem ↓] Go.wp_at_zero Go.wp_at_succ
theorem qb0 {l m:List Ce}(h:COk l)(e:m.map Ce.cl=canon (l.map Ce.cl)):COk m:=fun x hx=>by
 have h1:x.cl∈canon (l.map Ce.cl):=by rw[<-e];exact gj.2 ⟨x,hx,rfl⟩
 obtain⟨As,hY,h2,h3,h4,h5⟩:=qaz h1;obtain⟨y,hy,rfl⟩:=gj.1 hY;obtain⟨⟨k1,k2⟩,k3,k4⟩:=h y hy;have e1:x.id=y.id:=h2;have e2:x.dim=y.dim:=h3;have e3:x.s.length=y.s.length:=h4;exact⟨⟨by rw[e1];exact k1,by rw[e2];exact k2⟩,by rw[e3];exact k3,fun s hs=>k4 s (h5 s hs)⟩
def Kx (w:δ)(v:ε)(K:List Cl):Prop:=∃l s,v=I #[s]/\SlC w s l/\l.length<=8/\COk l/\chk (l.map Ce.cl)=(0,0)/\canon (l.map Ce.cl)=K
section
variable {w:δ}{v:ε}{K:List Cl}
theorem Kx.keep {w':δ}(h:Kx w v K)(hb:Below w w w'):Kx w' v K:=by obtain⟨l,s,h1,h2,h3⟩:=h;exact⟨l,s,h1,h2.keep hb,h3⟩
theorem Kx.alloc (h:Kx w v K)(o:Obj):Kx (w.alloc o) v K:=h.keep (bal w o)
theorem Kx.q1v (h:Kx w v K):Cx.Good K:=by obtain⟨l,s,_,_,_,_,h5,h6⟩:=h;rw[<-h6];exact q0d h5
theorem Kx.dm (h:Kx w v K):Dm K:=by obtain⟨l,s,_,_,_,_,h5,h6⟩:=h;rw[<-h6];exact qrh h5
theorem Kx.chk (h:Kx w v K):Cx.chk K=(0,0):=by obtain⟨l,s,_,_,_,_,h5,h6⟩:=h;rw[<-h6];exact qna h5
theorem Kx.shape (h:Kx w v K):∃a n c,v=I #[O a n c]:=by obtain⟨l,s,rfl,h2,_⟩:=h;obtain⟨a,n,c,rfl⟩:=qg h2.1;exact⟨a,n,c,rfl⟩
theorem q7v (h:Kx w v K):Calls Tryz.prog 46 #[v] w fun e w'=>e=.returned (ψ #[H φ 0,H φ 0])/\Below w w w':=by obtain⟨l,s,rfl,h2,h3,h4,h5,_⟩:=h;exact qlh s l w h2 (by omega) h4 h5
theorem qbb (h:Kx w v K)(d:Int):Calls Tryz.prog 33 #[v,d] w fun e w'=>∃r,e=.returned r/\w'.ownsRow w 3 1 r (nId K d) (ints (q04 K d))/\Below w w w':=by have G:=h.q1v;obtain⟨l,s,rfl,h2,h3,h4,h5,rfl⟩:=h;have:=qow s l d w h2 (by omega) h4;rw[qmz G]at this;exact this
theorem qld (h:Kx w v K):Calls Tryz.prog 72 #[v] w fun e w'=>∃u,e=.returned u/\Kx w' u K/\Below w w w':=by
 have hc:=h.chk;have G:=h.q1v;obtain⟨l,s,rfl,h2,h3,h4,h5,rfl⟩:=h;refine(q8l s l w h2 (by omega) (fun x hx=>(h4 x hx).2.1)).mono ?_;rintro e w' ⟨r,m,rfl,hm,hr,hs,hb⟩;have eW:m.length=l.length:=by have:=congrArg List.length hm;rwa [gp,q0z,gp]at this
 exact⟨_,rfl,⟨m,r,rfl,⟨Sl.qc hr,fun x hx=>Sl.qc (hs x hx)⟩,by omega,qb0 h4 hm,by rw[hm];exact hc,by rw[hm];exact G.cells.1⟩,hb⟩
theorem qjq (h:Kx w v K)(id:Int)(hid:I64 id):Calls Tryz.prog 80 #[v,id] w fun e w'=>Below w w w'/\((∃x:Ce,e=.returned (ψ #[x.v,τ true])/\K.find? (fun y=>y.id == id)=Y x.cl/\Sl w' 2 x.sl (cat Sd.enc x.s)) ∨
   (e=.returned (ψ #[I #[H φ 0,H φ 0,O Z 0 0],τ false])/\K.find? (fun y=>y.id == id)=Z)):=by
 obtain⟨l,s,rfl,h2,h3,h4,h5,rfl⟩:=h;refine qtn s l id w h2 (by omega) h4 hid fun x hx y hy=>?_
 have hc:(Cl.canon x.cl)∈canon (l.map Ce.cl):=by unfold canon;exact gj.2 ⟨x.cl,(q2m _ _).2 (gj.2 ⟨x,hx,rfl⟩),rfl⟩
 have hs:y∈(Cl.canon x.cl).s:=(q2m _ _).2 hy;obtain⟨z,hz,e,_⟩:=(q0d h5).sub _ hc y hs;have:=(q0d h5).pos z hz;omega
def q5e (w:δ)(T:Nat)(K:List Cl):Prop:=∃B nB vv m,w T=Value.map (Y B)/\w ⟨T,1,Z⟩=Y vv/\Mp Tryz.prog 3 w B nB (gOf m)/\Sl w 1 vv (ints (m.map Ce.id))/\m.map Ce.cl=K/\(∀x∈m,Sl w 2 x.sl (cat Sd.enc x.s))/\COk m
theorem q5e.keep {w':δ}{T:Nat}(h:q5e w T K)(hb:Below w w w'):q5e w' T K:=by obtain⟨B,nB,vv,m,h1,h2,h3,h4,h5,h6,h7⟩:=h;exact⟨B,nB,vv,m,J hb h1,J hb h2,h3.keep hb,h4.keep hb,h5,fun x hx=>(h6 x hx).keep hb,h7⟩
theorem qng (h:Kx w v K):Calls Tryz.prog 49 #[v] w fun e w'=>∃T,e=.returned (σ (Y ⟨T,0,Z⟩))/\q5e w' T K/\w.heap.size<=T/\Below w.heap.size w w':=by
 have G:=h.q1v;obtain⟨l,s,rfl,h2,h3,h4,h5,h6⟩:=h;refine(qnb s l w h2 (by omega) h4).mono ?_;rintro e w' ⟨T,rfl,⟨B,n,vv,m,k1,k2,k3,k4,k5,k6,k7,k8⟩,hb⟩;have hf:(xb Ce.id m).map Ce.id=m.map Ce.id:=by have e1:=q63 (key:=Ce.id) (key':=Cl.id) Ce.cl (fun _=>rfl) m;rw[k7,h6,q08 G.asc]at e1;have e2:=congrArg (List.map Cl.id) e1;rw[List.map_map,<-h6,<-k7,List.map_map]at e2;exact e2.symm
 rw[hf]at k6;exact⟨T,rfl,⟨B,n,vv,m,k3,k4,k5,k6,k7.trans h6,k8,qb0 h4 k7⟩,k1,hb⟩
end
end Go.Proofs.YtmkpbhaoalbhjaaGreatDoor
namespace Go.Proofs.YtmkpbhaoalbhjaaGreatDoor
open Go.RowKit Go.Cx Go.Maps
attribute [local go_sem ↓] Go.wp_at_zero Go.wp_at_succ
structure Vr (w0 w:δ)(T SE p1 p2 p3:Nat):Prop where
 below:Below w0 w0 w
 se:w0<=SE
 ne:p1≠SE/\p2≠SE/\p3≠SE
 c1:w p1=σ T
 c2:w p2=Value.map (Y SE)
 c3:w p3=Value.func (.func 110) #[] #[σ p1,σ p2,σ p3]
theorem Vr.gs {w0 w w':δ}{T SE p1 p2 p3:Nat}(h:Vr w0 w T SE p1 p2 p3)(k:Gs (fun b=>b=SE) w w'):Vr w0 w' T SE p1 p2 p3 where
 below:=⟨k.os.trans h.below.os,k.tape.trans h.below.tape,k.output.trans h.below.output,gd h.below.size k.size,fun b hb=>(k.blk b (gz hb h.below.size) (by have:=h.se;omega)).trans (h.below.block b hb)⟩
 se:=h.se
 ne:=h.ne
 c1:=k.cell h.ne.1 h.c1
 c2:=k.cell h.ne.2.1 h.c2
 c3:=k.cell h.ne.2.2 h.c3
theorem qph {m:List Ce}{i:Int}(h:i∈m.map Ce.id):∃x∈m,x.id=i:=by obtain⟨x,hx,e⟩:=gj.1 h;exact⟨x,hx,e⟩
theorem qb1 {m:List Ce}(h:Asc (m.map Ce.cl)){x:Ce}(hx:x∈m):gOf m x.id=Y x.v:=by
 unfold gOf;have hp:m.Pairwise fun a b=>a.id<b.id:=by unfold Asc at h;rw[List.pairwise_map]at h;exact h
 have:m.find? (fun y=>y.id == x.id)=Y x:=by
  clear h;induction m with
  |nil=>cases hx
  |cons y m ih =>
   obtain⟨h1,h2⟩:=gJ.1 hp;rcases gH.1 hx with rfl|hx
   ·rw[List.find?_cons_of_pos (by simp)]
   ·rw[List.find?_cons_of_neg (by have:=h1 x hx;simp;omega)];exact ih hx h2
 rw[this];rfl
theorem qrr {w0:δ}{T B nB:Nat}{m:List Ce}(G:Cx.Good (m.map Ce.cl))(hT:w0 T=Value.map (Y B))(hm:Mp Tryz.prog 3 w0 B nB (gOf m))(hs:∀x∈m,Sl w0 2 x.sl (cat Sd.enc x.s))(hI:∀x∈m,I64 x.id)
  (SE p1 p2 p3:Nat):∀(N:Nat) (i:Int) (k:Nat) (seen:Int->Bool) (w:δ),mu (m.map Ce.id) seen<=N->Vr w0 w T SE p1 p2 p3->Mp Tryz.prog 3 w SE k (sG seen)->i∈m.map Ce.id->k+mu (m.map Ce.id) seen<=1000000000 →
  Calls Tryz.prog 110 #[i,σ p1,σ p2,σ p3] w fun e w'=>e=.returned (ψ #[])/\Gs (fun b=>b=SE) w w' ∧
   ∃k' mV,Mp Tryz.prog 3 w' SE k' (sG mV)/\q6b (q87 (m.map Ce.cl)) 0 (fun d=>seen d=true) (fun d=>mV d=true)/\mV i=true/\k'+mu (m.map Ce.id) mV<=k+mu (m.map Ce.id) seen/\(∀d,mV d=true->seen d=true\/d=i\/Relation.TransGen (q87 (m.map Ce.cl)) i d):=by
 intro N;induction N using Nat.strongRecOn with
 |_ N ih =>
 intro i k seen w hN hV hS hi hk;obtain⟨x,hx,dW⟩:=qph hi;have BC:I64 i:=dW ▸ hI x hx;have eO:=yx BC;have sy:∀o,(Instr.lookup 125 (.map (Y SE)) i false).run Tryz.prog (w.alloc o)=.ok (τ (seen i)) (w.alloc o):=fun o=>by have:=(hS.keep (bal w o)).look Tryz.underlying3 Tryz.underlying125 (q21 (w.alloc o)) eO;rw[this];unfold sG;cases seen i <;> rfl
 have fq:gOf m i=Y x.v:=by rw[<-dW];exact qb1 G.asc hx
 have uo:(Instr.lookup 88 (.map (Y B)) i true).run Tryz.prog w=.ok (ψ #[I #[x.id,x.dim,O x.a x.n x.c],τ true]) w:=by have:=(hm.keep hV.below).qgy Tryz.underlying3 Tryz.underlying88 (zeroCell w) eO;rw[this,fq];rfl
 have qT:=J hV.below hT;obtain⟨q1,q2,q3⟩:=aiq hV.c1 (aiq hV.c2 hV.c3);cases hsi:seen i with
 |true =>
  have HR:=jg hS hsi;simp only [hsi]at sy;have Oz:∀o,(w.alloc o) p2=Value.map (Y SE):=fun o=>qk q2 o
  clear hsi ih hV hS hN hk hm hs hI G hT fq dW hx;go_enter Tryz.func110,Tryz.ntmps110;go_wp2_with fail;refine bodyPost_ret (v:=ψ #[]) (by simp[results,Tryz.results110]) rfl ?_;exact⟨rfl,Gs.xh ((q9).alloc (nlr _) _),k,seen,HR.out.1.keep ((q9).alloc (nlr _) _),q6b.refl _ _ _,HR.out.2,nlr _,fun d h=>.inl h⟩
 |false =>
  simp only [hsi]at sy;have hmul:=qe7 hi hsi;have HR:=kp hsi hmul hN hk hi hV;have ox:k<maxLen:=by unfold maxLen;omega
  have T8:SE<w:=hS.lt;have get:∀u,Gs (fun b=>b=SE) w u->u p1=σ T/\u p2=Value.map (Y SE) ∧
    u p3=Value.func (.func 110) #[] #[σ p1,σ p2,σ p3]/\Sl u 2 x.sl (cat Sd.enc x.s):=fun u hu=>by
   have v:=hV.gs hu;exact⟨v.c1,v.c2,v.c3,(hs x hx).keep v.below⟩
  have T9:=lhd get;have HI:=lhd ih;have dM:zq (m.map Ce.cl) i=x.s:=by rw[<-dW];exact q0b G.asc (x:=x.cl) (gj.2 ⟨x,hx,rfl⟩)
  have oZ:∀s∈x.s,s.c∈m.map Ce.id:=fun s hss=>by obtain⟨y,hy,e,_⟩:=G.sub x.cl (gj.2 ⟨x,hx,rfl⟩) s hss;obtain⟨z,hz,rfl⟩:=gj.1 hy;exact gj.2 ⟨z,hz,e⟩
  have xI:i≠0:=by have:=G.pos x.cl (gj.2 ⟨x,hx,rfl⟩);have e:x.cl.id=i:=dW;omega
  have dO:x.s.length=x.n:=by obtain⟨_,_,h3,_⟩:=(hs x hx).open;rw[qt Sd.qp]at h3;omega
  have uV:x.n<=64:=by have:=G.few x.cl (gj.2 ⟨x,hx,rfl⟩);have e:x.cl.s=x.s:=rfl;rw[e]at this;omega
  have lf:=yt dM oZ xI dO;have Oz:∀o,(w.alloc o) p2=Value.map (Y SE):=fun o=>qk q2 o
  clear ih hV hN hk hm hs hI G hT fq hsi hmul hi get dM oZ xI dO dW hx;go_enter Tryz.func110,Tryz.ntmps110;go_wp2_with (first
   |(at_mapUpdate;refine q1z rfl _ _ _ 125 rfl (hS.keep (bal w _)) Tryz.underlying3 Tryz.underlying125 ox i _ rfl rfl rfl eO ?_)
   |fail)
  intro w1 fP fp;rw[qo4]at fP;have O0:Gs (fun b=>b=SE) w (w.alloc (.cells #[x.id,x.dim,O x.a x.n x.c] 52)):=Gs.xh (bal w _);have Ah:Gs (fun b=>b=SE) (w.alloc (.cells #[x.id,x.dim,O x.a x.n x.c] 52)) w1:=(Gs.refl _ _).grown fp (fun k e=>by cases e;exact .inr rfl);have Ag:=O0.trans Ah;have c5:w1 ⟨w,2,Z⟩=O x.a x.n x.c:=Ah.cell (p:=⟨w,2,Z⟩) (by show ¬w=SE;omega) (xz w _ _ 2 rfl);clear hS fp sy q1 q2 q3 Oz uo qT O0 Ah;go_wp2_with fail;go_loopw [30] (fun y wr=>∃(j kk:Nat) (sk:Int->Bool),y=j/\j<=x.n/\Gs (fun b=>b=SE) w wr/\Hid (Mp Tryz.prog 3 wr SE kk (sG sk)/\q6b (q87 (m.map Ce.cl)) 0 (fun d=>mrk seen i d=true) (fun d=>sk d=true)/\(∀s∈x.s.take j,sk s.c=true)/\kk+mu (m.map Ce.id) sk<=k+1+mu (m.map Ce.id) (mrk seen i)/\(∀d,sk d=true->seen d=true\/d=i\/Relation.TransGen (q87 (m.map Ce.cl)) i d))) (fun y _=>x.n-(vI y).toNat)
  case atStart=>exact⟨0,k+1,mrk seen i,rfl,gm _,Ag,⟨fP,q6b.refl _ _ _,(fun d hd=>by simp at hd),nlr _,fun d hd=>by
   rcases (q98 _ _ _).1 hd with rfl|h
   ·exact .inr (.inl rfl)
   ·exact .inl h⟩⟩
  case round =>
   clear fP Ag c5;obtain⟨j,kk,sk,rfl,hj,hG,HF⟩:=hrel;obtain⟨a1,a2,a3,a4⟩:=T9.out wr hG;by_cases ak:j<x.n
   ·have KJ:(j:Int)<x.n:=by omega
    obtain⟨s,hss⟩:∃s,x.s[j]? =Y s:=⟨_,gg (by rw[lf.b3];exact ak)⟩
    unfold Ce.sl at a4;obtain⟨_,_,_,h5,h6⟩:=a4.open;obtain⟨ad,sA⟩:∃ad,x.a=Y ad:=by
     cases hxa:x.a with
     |none=>have:=h5 hxa;have:=a4.open.1;omega
     |some ad=>exact⟨ad,rfl⟩
    obtain⟨e0,e1⟩:=zw x.s j s hss;have d0:wr (ad.add (j*2))=s.c:=h6 ad sA _ _ e0;have d1:wr ⟨(ad.add (j*2)).block,(ad.add (j*2)).off+1,Z⟩=s.g:=by rw[qi _ _ _ (by omega)];exact h6 ad sA _ _ e1
    have KK:s.c∈m.map Ce.id:=lf.a1 s (gi hss);have dU:=qe8 (U:=m.map Ce.id) HF.a1.1;have jM:mu (m.map Ce.id) (mrk seen i)<mu (m.map Ce.id) seen:=HR.a1;have KL:Gs (fun b=>b=SE) wr (wr.alloc (.cells #[s.c,s.g] 54)):=Gs.xh (bal wr _);have aq:=HI.out (mu (m.map Ce.id) sk) (by have:=HR.a2;omega) s.c kk sk (wr.alloc (.cells #[s.c,s.g] 54)) (nlr _) (HR.b5.gs (hG.trans KL)) (HF.out.1.keep (bal wr _)) KK (by have:=HF.a3;have:=HR.a3;omega);have HC:=lhd aq;have HX:=yh hss KK KL;have Xp:∀o,(wr.alloc o) p3=Value.func (.func 110) #[] #[σ p1,σ p2,σ p3]:=fun o=>qk a3 o
    clear aq h5 h6 hss KK dU jM a4 a2 a1 a3 e0 e1 KL;rw[sA];go_wp2_with fail;refine HC.out.mono ?_;rintro e w2 ⟨rfl,BW,k2,s2,b1,b2,b3,b4,b5⟩;have H2:=kg b1 b2 b3 b4 b5;have TA:=(hG.trans HX.b2).trans BW;clear b1 b2 b3 b4 b5 BW;go_wp2_with fail;go_roundw
    case measure=>simp[vI];omega
    case rel =>
     refine⟨j+1,k2,s2,qh (by omega),by omega,TA,⟨H2.out.1,HF.a1.trans H2.a1,fun d hd=>?_,?_,fun d hd=>?_⟩⟩
     ·rw[gC,HX.out.1]at hd;rcases gO.1 hd with hd|hd
      ·exact H2.a1.1 d.c (HF.a2 d hd)
      ·simp at hd;rw[hd];exact H2.a2
     ·have:=H2.a3;have:=HF.a3;omega
     ·rcases H2.b4 d hd with h|h
      ·exact HF.b4 d h
      ·have hR:Relation.TransGen (q87 (m.map Ce.cl)) i s.c:=.single ⟨s,by rw[lf.out.1];exact gi HX.out.1,rfl⟩;rcases h with rfl|h
       ·exact .inr (.inr hR)
       ·exact .inr (.inr (hR.trans h))
   ·have np:x.s.take j=x.s:=gr (by rw[lf.b3];omega);have TB:=lhd np;clear np;go_wp2_with fail
    go_end0
    have h1:=HF.a2;rw[TB.out]at h1;refine⟨rfl,hG,kk,sk,HF.out.1,?_,HF.a1.1 i ((q98 _ _ _).2 (.inl rfl)),?_,HF.b4⟩
    ·refine q6b.visit (q6b.refl _ _ _) (q98 seen i) lf.a2 HF.a1 (fun c hc=>?_);obtain⟨s,cU,rfl⟩:=hc;rw[lf.out.1]at cU;exact h1 s cU
    ·have:=HF.a3;have h2:mu (m.map Ce.id) (mrk seen i)<mu (m.map Ce.id) seen:=HR.a1;omega
