/- Steps towards MorseParts. Conditions: none. -/
import Derived.Test.YtlhicnfeajejhaaGreatDoorGQr
set_option maxRecDepth 1000000
set_option maxHeartbeats 16000000
namespace Go.Cx
open Go.RowKit
def tK (l:List Ce):Int->Option Cl:=fun c=>(l.map Ce.cl).find? fun y=>y.id == c
theorem FR.form {w:World} {base:Nat} {t:TypeId} {R:List (Value×List Int)} (h:FR w base t R) {i:Nat} {v:Value} {L:List Int} (hi:R[i]? = some (v,L)) (hL:0 < L.length):∃ g c,v = .slice (some ⟨g,0,none⟩) L.length c/\base<=g/\g < w.heap.size/\(∀ (j:Nat) (z:Int),L[j]? = some z->w.cell? ⟨g,j,none⟩=some (.int .i64 z)/\w.frozen? ⟨g,j,none⟩=false)/\L.length<=c/\c<=Go.maxLen:=by have hr:=h.at hi;obtain⟨g,c,rfl,h1,h2⟩:=hr.form hL;obtain⟨h3,h4,_⟩:=(Sl.qc hr).open;refine⟨g,c,rfl,h1,h2,fun j z hj=>⟨?_,hr.frozenAt j⟩,h3,h4⟩;have:=hr.cellAt j (by rw[gL];exact(ge.1 hj).1);rw[this];simp[ints,hj]
theorem FR.len {w:World} {base:Nat} {t:TypeId} {R:List (Value×List Int)} (h:FR w base t R) {i:Nat} {v:Value} {L:List Int} (hi:R[i]? = some (v,L)):∃ a c,v = .slice a L.length c/\L.length<=c/\c<=Go.maxLen:=by obtain⟨a,c,rfl⟩:=qj (h.at hi);obtain⟨h3,h4,_⟩:=(Sl.qc (h.at hi)).open;exact⟨a,c,rfl,h3,h4⟩
theorem FR.qm9 {w w1:World} {base y:Nat} {t:TypeId} {R:List (Value×List Int)} (h:FR w base t R) {i:Nat} {v:Value} {L:List Int} (hi:R[i]? = some (v,L)) {g c:Nat} {x:Int}
  (hr:w1.ownsRow base t 1 (.slice (some ⟨g,0,none⟩) (L.length+1) c) (L.length+1) (ints L++[.int .i64 x])) (hg:(w.alloc (.cells [Value.int .i64 x].toArray t)).grownBy w1 v.ownBlock) (hl:v.ownBlock=some g\/g=w.heap.size+1) (zD:AV R y) (hy:y < w.heap.size) :
  FR w1 base t (R.set i (.slice (some ⟨g,0,none⟩) (L.length+1) c,L++[x]))/\AV (R.set i (.slice (some ⟨g,0,none⟩) (L.length+1) c,L++[x])) y/\(∀ j u,w.cell? ⟨y,j,none⟩=some u->w1.cell? ⟨y,j,none⟩=some u)/\y < w1.heap.size:=by
 have cC:w1.ownsRow base t 1 (.slice (some ⟨g,0,none⟩) (L.length+1) c) (L++[x]).length (ints (L++[x])):=by rw[j3,gc];exact hr
 refine⟨(h.q8 (bal w _)).app hi cC hg (hl.imp_right fun e=>by (try simp only[BwQ]);rw[World.size_alloc];exact e),zD.set i fun e=>?_,fun j u hu=>ql hg (Cx.q8 (bal w _) hu) fun b hb e=>zD _ (gh hi) (by rw[hb,<-e]),by have:=hg.size;(try simp only[BwQ] at this);rw[World.size_alloc] at this;omega⟩;have e:g=y:=by injection e
 subst e;rcases hl with hl | hl
 ·exact zD _ (gh hi) hl
 ·omega
theorem FR.cell {w:World} {base:Nat} {t:TypeId} {R:List (Value×List Int)} (h:FR w base t R) {i g n c j:Nat} {L:List Int} {z:Int} (hi:R[i]? = some (.slice (some ⟨g,0,none⟩) n c,L)) (hn:n=L.length) (hz:L[j]? = some z):w.cell? ⟨g,j,none⟩=some (.int .i64 z)/\w.frozen? ⟨g,j,none⟩=false:=by subst hn;have hr:=h.at hi;refine⟨?_,hr.frozenAt j⟩;rw[hr.cellAt j (by rw[gL];exact(ge.1 hz).1)];simp[ints,hz]
theorem qg4 (n:Nat):(madeCells #[.int .i64 0] n).toList=ints (List.replicate n 0):=by
 refine List.ext_getElem? fun i=>?_
 by_cases h:i < n
 ·have:=Go.Proofs.YtlhicnfeajejhaaGreatDoor.qi6 (.int .i64 0) n i h;rw[<-Array.getElem?_toList] at this;rw[this];simp[ints,h]
 ·rw[List.getElem?_eq_none (by rw[bu,size_madeCells];omega),List.getElem?_eq_none (by simp[ints];omega)]
end Go.Cx
namespace Go.Proofs.YtlhicnfeajejhaaGreatDoor
open Go.RowKit Go.Cx
attribute [local go_sem ↓] Go.wp_at_zero Go.wp_at_succ
theorem qjm (v:Value) (l:List Ce) (x:Ce) (w:World) (h:SlC w v l) (hl:l.length<=1000000) (lR:l.Pairwise fun x y=>x.id < y.id) (hs:Sl w 2 x.sl (cat Sd.enc x.s)) (hE:xx (tK l) x.cl=0) (hA:xv (tK l) x.cl=0) (bX:∀ y∈l,∀ s∈y.s,s.g=1\/s.g = -1) (hlen:∀ y∈l,y.s.length<=64) (dV:0 < x.s.length) :
  Calls Tryz.prog 157 #[v,x.v] w fun e w'=>e = .returned (.int .i64 0)/\Below w.heap.size w w':=by
 obtain⟨la,ln,lc,rfl⟩:=qg h.1;have mn:l.length=ln:=by obtain⟨_,_,h3,_⟩:=h.1.open;rw[qt Ce.qp] at h3;omega
 unfold Ce.sl at hs;obtain⟨h1,h2,h3,h4,h5⟩:=hs.open;rw[qt Sd.qp] at h3;have fE:x.s.length=x.n:=by omega
 unfold maxLen at h2;unfold Ce.v;obtain⟨q1,q2,_⟩:=q2f hE;have nu:=q2u hE;obtain⟨xn,iT⟩ : ∃ xn,xn=x.n:=⟨_,rfl⟩
 have fE:x.s.length=xn:=by omega
 have R9:xn<=64:=by have:x.cl.s.length=xn:=fE;omega
 rw[fE] at dV;rw[<-iT];rw[<-iT] at hs h1;obtain⟨xd,CH⟩ : ∃ xd,x.a=some xd:=by
  cases ha:x.a with
  | none=>have:=h4 ha;omega
  | some ad=>exact⟨ad,rfl⟩
 rw[CH] at hs ⊢;obtain⟨W,hW⟩ : ∃ W,W=w.alloc (.cells #[.int .i64 x.id,.int .i64 x.dim,.slice (some xd) xn x.c] 75):=⟨_,rfl⟩
 have bI:Below w.heap.size w W:=by rw[hW];exact bal w _
 have k2:W.cell? ⟨w.heap.size,2,none⟩=some (.slice (some xd) xn x.c):=by rw[hW];exact qd w _ _ (0,0) 2
 have hT:∀ c y,tK l c=some y->y.s.length<=64/\∀ s∈y.s,s.g=1\/s.g = -1:=fun c y hy=>by obtain⟨z,hz,rfl⟩:=gr.1 (bi hy);exact⟨hlen z hz,bX z hz⟩
 have side:∀ i,i < xn->∃ (s:Sd) (j:Nat) (y:Ce),x.s[i]? = some s/\l[j]? = some y/\y.id=s.c/\tK l s.c=some y.cl/\(s.g=1\/s.g = -1):=fun i hi=>by
  obtain⟨s,hs⟩ : ∃ s,x.s[i]? = some s:=⟨_,g8 (by rw[fE];exact hi)⟩
  obtain⟨⟨y,hy,_⟩,_⟩:=qjj (T:=tK l) (x:=x.cl) hs (nu i (by show i < x.s.length;omega));obtain⟨z,hz,rfl⟩:=gr.1 (bi hy);obtain⟨j,hj⟩:=bp hz;exact⟨s,j,z,hs,hj,by simpa [Ce.cl] using List.find?_some hy,hy,q2 s (gh hs)⟩
 have HX:=lhd (aiq (h.q8 bI) (aiq (hs.q8 bI) (aiq lR (aiq fE (aiq hT (aiq side (aiq hA (aiq mn (aiq q2 (aiq bI k2))))))))));have pV:W.heap.size=w.heap.size+1:=by rw[hW];simp
 have kQ:=qp7 xn (by omega) W;have It:=lhd kQ;have ZB:=lhd pV;have jF:=lhd (show ln<=1000000 by omega);clear h3 h4 h5 hs lR nu q1 q2 iT fE mn h bI hl hA hE bX hlen hT side CH pV;go_enter Tryz.func157,Tryz.ntmps157;go_upto_region 4 with fail;rw[<-hW];clear hW;go_wp2_with fail;obtain⟨U,hU⟩ : ∃ U,U=(W.alloc (.cells (madeCells #[.int .i64 0] xn) 3)).alloc (.cells #[] 3):=⟨_,rfl⟩
 obtain⟨B,qY⟩ : ∃ B,B=W.heap.size:=⟨_,rfl⟩
 have RA:FR U B 3 [(.slice none 0 0,[]),(.slice none 0 0,[]),(.slice none 0 0,[]),(.slice (some ⟨B,0,none⟩) xn xn,List.replicate xn 0),(.slice (some ⟨B+1,0,none⟩) 0 0,[])]:=by
  have hp:U.ownsRow B 3 1 (.slice (some ⟨B,0,none⟩) xn xn) (List.replicate xn (0:Int)).length (ints (List.replicate xn 0)):=by rw[hU,qY,<-qg4,List.length_replicate];exact(World.ownsRow_lit W _ xn (nlr _) (by unfold maxLen;omega) (by rw[size_madeCells,gL])).alloc _
  have hf:U.ownsRow B 3 1 (.slice (some ⟨B+1,0,none⟩) 0 0) ([] : List Int).length (ints []):=by have:=zj (W.alloc (.cells (madeCells #[.int .i64 0] xn) 3)) 3 1;(try simp only[BwQ] at this);rw[World.size_alloc,<-qY,<-hU] at this;exact qf this (by omega)
  have hn:U.ownsRow B 3 1 (.slice none 0 0) ([] : List Int).length (ints []):=World.ownsRow_nil _ _ _ _;refine(((((FR.nil U B 3).cons hf (fun b hb p hp=>(by cases hp))).cons hp (fun b hb p hp=>?_)).cons hn (fun b hb=>(by cases hb))).cons hn (fun b hb=>(by cases hb))).cons hn (fun b hb=>(by cases hb));simp at hp;subst hp;have:B=b:=by injection hb
  subst this;intro e;injection e with e
  have e:B+1=B:=e;omega
 have ej:Below B W U:=by rw[hU,qY];exact(bal W _).alloc (by simp) _
 have HU:=lhd (aiq RA ej);rw[<-qY,<-hU];have Xk:(0:Int) < xn:=by omega
 have Dg:=lhd qY;clear RA ej hU qY;go_loopw [5,6,7,9,10] (fun p5 p6 p7 p9 Gp wr=>∃ (i:Nat) (ids aL many dQ part:List Int),Gp = .int .i64 i/\i<=xn/\part.length=xn/\Hid (FR wr B 3 [(p5,ids),(p6,aL),(p7,many),(.slice (some ⟨B,0,none⟩) xn xn,part),(p9,dQ)]/\Sec i (oP (tK l) x.cl i 0) (fun _=>False) ids aL many dQ part/\Below B W wr/\ids.length<=(oP (tK l) x.cl i 0).length)) (fun _ _ _ _ Gp _=>xn - (vI Gp).toNat)
 case atStart=>exact⟨0,[],[],[],[],List.replicate xn 0,rfl,go _,by simp,(show Hid _ from⟨HU.out.1,by rw[qm6];exact Sec.start _ _,HU.out.2,go _⟩)⟩
 case round =>
  obtain⟨i,ids,aL,many,dQ,part,rfl,hi,cm,HI⟩:=hrel;obtain⟨a5,c5,rfl,DS,uj⟩:=HI.out.1.len (i:=0) rfl;obtain⟨a6,c6,rfl,RB,rJ⟩:=HI.out.1.len (i:=1) rfl;obtain⟨a7,c7,rfl,xM,kF⟩:=HI.out.1.len (i:=2) rfl;obtain⟨a9,c9,rfl,RC,Ei⟩:=HI.out.1.len (i:=4) rfl;unfold maxLen at uj rJ kF Ei;have bI:Below W.heap.size W wr:=by rw[<-Dg.out];exact HI.out.2.2.1
  have qX:wr.cell? ⟨w.heap.size,2,none⟩=some (.slice (some xd) xn x.c):=Cx.q8 bI HX.out.2.2.2.2.2.2.2.2.2.2;by_cases hlt:i < xn
  ·obtain⟨s,j0,y,hs,hj0,Df,hT,bX⟩:=HX.out.2.2.2.2.2.1 i hlt;have IZ:wr.ownsRow B 3 1 (.slice (some ⟨B,0,none⟩) xn xn) xn (ints part):=zm (HI.out.1.at (i:=3) rfl) cm;obtain⟨p0,Jr⟩ : ∃ p0,part[i]? = some p0:=⟨_,g8 (by rw[cm];exact hlt)⟩
   have d0:wr.cell? ⟨B,i,none⟩=some (.int .i64 p0):=(IZ.cellAt i (by omega)).trans (by simp[ints,Jr]);have z0:=IZ.frozenAt i;have Ix:(i:Int) < xn:=by omega
   obtain⟨e0,e1⟩:=zw x.s i s hs;obtain⟨_,_,_,_,h6⟩:=HX.out.2.1.open;have RD:=h6 xd rfl _ _ e0;have RE:W.cell? ⟨(xd.add (i*2)).block,(xd.add (i*2)).off+1,none⟩=some (.int .i64 s.g):=by rw[qi _ _ _ (by omega)];exact h6 xd rfl _ _ e1
   have mn:=HX.out.2.2.2.2.2.2.2.1;have Xl:j0 < ln:=by have:=(ge.1 hj0).1;omega
   obtain⟨m2,m3,_,m5,m6⟩:=HX.out.1.1.open;unfold maxLen at m3;obtain⟨ld,hld⟩:=sadq m5 (by omega)
   obtain⟨e2,e3,e4⟩:=zh l j0 y hj0;have y0:=m6 ld hld _ _ e2;have y1:W.cell? ⟨(ld.add (j0*3)).block,(ld.add (j0*3)).off+1,none⟩=some (.int .i64 y.dim):=by rw[qi _ _ _ (by omega)];exact m6 ld hld _ _ e3
   have y2:W.cell? ⟨(ld.add (j0*3)).block,(ld.add (j0*3)).off+2,none⟩=some (.slice y.a y.n y.c):=by rw[qi _ _ _ (by omega)];exact m6 ld hld _ _ e4
   have RF:=HX.out.1.2 y (gh hj0);have RG:(j0:Int) < ln:=by omega
   have HY:=lhd (aiq hs (aiq hj0 (aiq Df (aiq hT (aiq bX (aiq RF (aiq IZ hld)))))));have Gq:=lhd (aiq RD (aiq RE (aiq y0 (aiq y1 y2))));subst hld;clear hs hj0 hT bX e0 e1 e2 e3 e4 h6 m5 m6 RF IZ Jr RD RE y0 y1 y2 mn;go_upto_region 10 with fail;obtain⟨V1,CN⟩ : ∃ V1,V1=wr.setCell ⟨B,i,none⟩ (.int .i64 i):=⟨_,rfl⟩
   rw[<-CN];have ak:Below B W V1:=by rw[CN];exact HI.out.2.2.1.setCell (nlr _) _
   have lF:Below W.heap.size W V1:=by rw[<-Dg.out];exact ak
   have f1:FR V1 B 3 [(.slice a5 ids.length c5,ids),(.slice a6 aL.length c6,aL),(.slice a7 many.length c7,many),(.slice (some ⟨B,0,none⟩) xn xn,part.set i (i:Int)),(.slice a9 dQ.length c9,dQ)]:=by rw[CN];exact HI.out.1.put (i:=3) rfl cm.symm i (i:Int)
   have Xm:=Cx.q8 lF HX.out.2.2.2.2.2.2.2.2.2.2;have s0:=Cx.q8 lF Gq.out.1;have af:=qnm _ l j0 y V1 (HX.out.1.1.q8 lF) (by have h1:=HX.out.2.2.2.2.2.2.2.1;have h2:=jF.out;omega) HX.out.2.2.1 HY.out.2.1;rw[Df] at af;have H1:=lhd (aiq ak (aiq lF (aiq f1 af)));clear CN ak lF f1 af d0 z0 qX bI Df;go_wp2_with fail;refine H1.out.2.2.2.mono ?_;rintro e w2 ⟨rfl,aj⟩;have aw:Below W.heap.size W w2:=(btr H1.out.2.1 aj);have c0:=Cx.q8 aw Gq.out.2.2.1;have c1:=Cx.q8 aw Gq.out.2.2.2.1;have c2:=Cx.q8 aw Gq.out.2.2.2.2;have H2:=lhd (aiq aj aw);clear aj aw s0 Xm;go_wp2_with fail;obtain⟨W3,lC⟩ : ∃ W3,W3=w2.alloc (.cells #[.int .i64 y.id,.int .i64 y.dim,.slice y.a y.n y.c] 75):=⟨_,rfl⟩
   obtain⟨yb,wT⟩ : ∃ yb,yb=w2.heap.size:=⟨_,rfl⟩
   have aQ:Below w2.heap.size w2 W3:=by rw[lC];exact bal w2 _
   have wH:W3.cell? ⟨yb,2,none⟩=some (.slice y.a y.n y.c):=by rw[lC,wT];exact qd w2 _ _ (0,0) 2
   have f2:=H1.out.2.2.1.q8 H2.out.1;have f3:=f2.q8 aQ;have zD:AV [(.slice a5 ids.length c5,ids),(.slice a6 aL.length c6,aL),(.slice a7 many.length c7,many),(.slice (some ⟨B,0,none⟩) xn xn,part.set i (i:Int)),(.slice a9 dQ.length c9,dQ)] yb:=fun p hp e=>by have:=((f2.row p hp).lt yb e).2;omega
   have vG:y.s.length=y.n:=by obtain⟨_,_,h3,_⟩:=(show Sl W 2 (.slice y.a y.n y.c) _ from HY.out.2.2.2.2.2.1).open;rw[qt Sd.qp] at h3;omega
   have RH:y.n<=64:=by have:=(HX.out.2.2.2.2.1 _ _ HY.out.2.2.2.1).1;have:y.s.length<=64:=this;omega
   have ar:Below B W W3:=by have:=(btr H2.out.2 aQ);rw[Dg.out];exact this
   have RI:yb < W3.heap.size:=by rw[lC,wT];simp
   have Ka:B < yb:=by have:=((f2.at (i:=3) rfl).lt B rfl).2;omega
   have H3:=lhd (aiq f3 (aiq zD (aiq vG (aiq ar (aiq RI (aiq wH (HI.out.2.1.up (i:Int))))))));have MR:(part.set i (i:Int)).length=xn:=by rw[List.length_set];exact cm
   rw[<-wT,<-lC];clear c0 c1 c2 aQ wH f2 f3 zD vG ar RI lC wT;go_loopw [5,6,7,9,12] (fun p5 p6 p7 p9 tR wr=>∃ (j:Nat) (ids aL many dQ part:List Int),tR = .int .i64 j/\j<=y.n/\part.length=xn/\Hid (FR wr B 3 [(p5,ids),(p6,aL),(p7,many),(.slice (some ⟨B,0,none⟩) xn xn,part),(p9,dQ)]/\Sec (i+1) (oP (tK l) x.cl i j) (fun _=>False) ids aL many dQ part/\AV [(p5,ids),(p6,aL),(p7,many),(.slice (some ⟨B,0,none⟩) xn xn,part),(p9,dQ)] yb/\wr.cell? ⟨yb,2,none⟩=some (.slice y.a y.n y.c)/\Below B W wr/\yb < wr.heap.size/\ids.length<=(oP (tK l) x.cl i j).length)) (fun _ _ _ _ tR _=>y.n - (vI tR).toNat)
   case atStart=>exact⟨0,ids,aL,many,dQ,part.set i (i:Int),rfl,go _,MR,(show Hid _ from⟨H3.out.1,H3.out.2.2.2.2.2.2,H3.out.2.1,H3.out.2.2.2.2.2.1,H3.out.2.2.2.1,H3.out.2.2.2.2.1,HI.out.2.2.2⟩)⟩
   case round =>
    clear cm DS uj RB rJ xM kF RC Ei;obtain⟨j,ids,aL,many,dQ,part,rfl,hj,cm,HJ⟩:=hrel;obtain⟨a5,c5,rfl,DS,uj⟩:=HJ.out.1.len (i:=0) rfl;obtain⟨a6,c6,rfl,RB,rJ⟩:=HJ.out.1.len (i:=1) rfl;obtain⟨a7,c7,rfl,xM,kF⟩:=HJ.out.1.len (i:=2) rfl;obtain⟨a9,c9,rfl,RC,Ei⟩:=HJ.out.1.len (i:=4) rfl;unfold maxLen at uj rJ kF Ei;have wH:=HJ.out.2.2.2.1;by_cases ur:j < y.n
    ·obtain⟨r,hr⟩ : ∃ r,y.s[j]? = some r:=⟨_,g8 (by rw[H3.out.2.2.1];exact ur)⟩
     obtain⟨_,_,_,h5,h6⟩:=(show Sl W 2 (.slice y.a y.n y.c) _ from HY.out.2.2.2.2.2.1).open;obtain⟨yd,kV⟩ : ∃ ad,y.a=some ad:=by
      cases ha:y.a with
      | none=>have:=h5 ha;omega
      | some ad=>exact⟨ad,rfl⟩
     obtain⟨e0,e1⟩:=zw y.s j r hr;have RJ:=h6 yd kV _ _ e0;have RK:W.cell? ⟨(yd.add (j*2)).block,(yd.add (j*2)).off+1,none⟩=some (.int .i64 r.g):=by rw[qi _ _ _ (by omega)];exact h6 yd kV _ _ e1
     have kA:=(HX.out.2.2.2.2.1 _ _ HY.out.2.2.2.1).2 r (gh hr);have mV:∀ U,Below B W U->U.cell? ⟨w.heap.size,2,none⟩=some (.slice (some xd) xn x.c)/\U.cell? ⟨(xd.add (i*2)).block,(xd.add (i*2)).off+1,none⟩=some (.int .i64 s.g)/\U.cell? (yd.add (j*2))=some (.int .i64 r.c)/\U.cell? ⟨(yd.add (j*2)).block,(yd.add (j*2)).off+1,none⟩=some (.int .i64 r.g):=fun U hU=>by
      have tT:Below W.heap.size W U:=by rw[<-Dg.out];exact hU
      exact⟨Cx.q8 tT HX.out.2.2.2.2.2.2.2.2.2.2,Cx.q8 tT Gq.out.2.1,Cx.q8 tT RJ,Cx.q8 tT RK⟩
     rw[kV] at wH;have MS:(j:Int) < y.n:=by omega
     have HR:=lhd (aiq hr (aiq kA (aiq mV kV)));obtain⟨wo,de⟩ : ∃ wo,wo=wr:=⟨_,rfl⟩
     subst de;clear hr kV e0 e1 h5 h6 RJ RK kA mV;go_wp2_with fail;go_loopw [13] (fun p wr=>∃ k:Nat,p = .int .i64 k/\k<=ids.length/\Hid ((∀ j',j' < k->ids[j']?≠some r.c)/\Below wo.heap.size wo wr)) (fun p _=>ids.length - (vI p).toNat)
     case atStart=>exact⟨0,rfl,go _,(show Hid _ from⟨fun j' h=>by omega,Below.refl _ _⟩)⟩
     case round =>
      obtain⟨k,rfl,hk,HK⟩:=hrel;have aP:Below B W wr:=HJ.out.2.2.2.2.1.trans (HK.out.2.mono (gl (by have:=Dg.out;omega) HJ.out.2.2.2.2.1.size));have yk:=Cx.q8 HK.out.2 wH;have RL:=(HR.out.2.2.1 wr aP).2.2.1;have Ja:=lhd aP;by_cases oH:∃ z,ids[k]? = some z/\z≠r.c
      ·obtain⟨z,hz,Cb⟩:=oH;have bF:=(ge.1 hz).1;obtain⟨g5,q5,mW,_,_,cL,_⟩:=(HJ.out.1.q8 HK.out.2).form (i:=0) rfl (by omega);have mf:a5=some ⟨g5,0,none⟩:=by injection mW
       subst mf;have dz:=(cL k z hz).1;have hb:(z != r.c)=true:=by simpa using Cb
       have pq:decide ((k:Int) < (ids.length:Int))=true:=by simpa using bF
       have pj:(k:Int) < ids.length:=by omega
       have HZ:=lhd (aiq hz Cb);clear hz Cb cL mW aP;go_wp2_with fail
       go_quiet (fail)
       go_wp2_with fail;go_roundw
       case measure=>simp[vI];omega
       case rel =>
        refine⟨k+1,qh (by omega),by omega,(show Hid _ from⟨fun j' h=>?_,qb HK.out.2 _⟩)⟩;rcases gP j' k with h2 | h2
        ·exact HK.out.1 j' h2
        ·rw[show j'=k by omega,HZ.out.1];exact fun e=>HZ.out.2 (osi e)
      ·have wu:=qoo (T:=tK l) (x:=x.cl) (i:=i) (j:=j) (by have:=HX.out.2.2.2.1;show x.s.length<=64;omega) (fun c y hy=>(HX.out.2.2.2.2.1 c y hy).1) (by have:=HX.out.2.2.2.1;show i<=x.s.length;omega) (by omega);have wI:ids.length<=4160:=gl HJ.out.2.2.2.2.2.2 wu;have nw:k=ids.length->r.c ∉ ids:=fun he hm=>by obtain⟨j',nX⟩:=bp hm;exact HK.out.1 j' (by rw[he];exact(ge.1 nX).1) nX
       have tV:=HJ.out.2.1;have zF:=lhd (aiq wu (aiq wI (aiq nw tV)));have zG:=lhd (show aL.length=ids.length/\many.length=ids.length/\dQ.length=ids.length from⟨tV.l1,tV.l2,tV.l3⟩);clear wu wI nw tV;rcases gP k ids.length with bF | bF
       obtain⟨z,hz⟩ : ∃ z,ids[k]? = some z:=⟨_,g8 bF⟩
       have Cb:z=r.c:=be fun e=>oH ⟨z,hz,e⟩
       obtain⟨g5,q5,Gr,_,_,cL,_⟩:=(HJ.out.1.q8 HK.out.2).form (i:=0) rfl (by omega);obtain⟨g6,q6,Gt,_⟩:=(HJ.out.1.q8 HK.out.2).form (i:=1) rfl (by have:=zG.out;omega);obtain⟨g7,q7,Gu,_⟩:=(HJ.out.1.q8 HK.out.2).form (i:=2) rfl (by have:=zG.out;omega);obtain⟨g9,q9,Gv,_⟩:=(HJ.out.1.q8 HK.out.2).form (i:=4) rfl (by have:=zG.out;omega);have mf:a5=some ⟨g5,0,none⟩:=by injection Gr
       have tW:a6=some ⟨g6,0,none⟩:=by injection Gt
       have MT:a7=some ⟨g7,0,none⟩:=by injection Gu
       have MU:a9=some ⟨g9,0,none⟩:=by injection Gv
       subst mf tW MT MU;have dz:=(cL k z hz).1;have hb:(z != r.c)=false:=by simpa using Cb
       have pq:decide ((k:Int) < (ids.length:Int))=true:=by simpa using bF
       have pj:(k:Int) < ids.length:=by omega
       have bE:((k:Int) == (ids.length:Int))=false:=by simp;omega
       have HZ:=lhd (aiq hz Cb);clear hz Cb cL Gr Gt Gu Gv aP oH;go_wp2_with fail
       go_quiet (fail)
       go_upto_region 22 with fail;obtain⟨wz,pV⟩ : ∃ wz,wz=wr.drewN nq:=⟨_,rfl⟩
       have rT:Below wo.heap.size wo wz:=by rw[pV];exact qb HK.out.2 _
       have rC:Below B W wz:=by rw[pV];exact qb Ja.out _
       rw[<-pV];obtain⟨n5,Cc⟩ : ∃ n,n=ids.length:=⟨_,rfl⟩
       obtain⟨n6,Cd⟩ : ∃ n,n=aL.length:=⟨_,rfl⟩
       obtain⟨n7,Cf⟩ : ∃ n,n=many.length:=⟨_,rfl⟩
       obtain⟨n9,tL⟩ : ∃ n,n=dQ.length:=⟨_,rfl⟩
       have Jb:=lhd (show k < n5/\n6=n5/\n7=n5/\n9=n5 by have:=zG.out;omega);obtain⟨dR,cz,cA,eE,HT⟩ : ∃ dR cz cA eE:List Int,Hid (FR wz B 3 [(.slice (some ⟨g5,0,none⟩) n5 c5,dR),(.slice (some ⟨g6,0,none⟩) n6 c6,cz),(.slice (some ⟨g7,0,none⟩) n7 c7,cA),(.slice (some ⟨B,0,none⟩) xn xn,part),(.slice (some ⟨g9,0,none⟩) n9 c9,eE)]/\Sec (i+1) (oP (tK l) x.cl i j) (fun d=>d=r.c) dR cz cA eE part/\dR[k]? = some r.c/\AV [(.slice (some ⟨g5,0,none⟩) n5 c5,dR),(.slice (some ⟨g6,0,none⟩) n6 c6,cz),(.slice (some ⟨g7,0,none⟩) n7 c7,cA),(.slice (some ⟨B,0,none⟩) xn xn,part),(.slice (some ⟨g9,0,none⟩) n9 c9,eE)] yb/\Below B W wz/\yb < wz.heap.size/\wz.cell? ⟨yb,2,none⟩=some (.slice (some yd) y.n y.c)/\dR.length<=(oP (tK l) x.cl i j).length+1/\n6=cz.length/\n7=cA.length/\n9=eE.length/\(oP (tK l) x.cl i j).length<=4160):=by refine⟨ids,aL,many,dQ,(show Hid _ from ?_)⟩;rw[Cc,Cd,Cf,tL];exact⟨HJ.out.1.q8 rT,zF.out.2.2.2.mono (fun c h=>h.elim),by rw[HZ.out.1,HZ.out.2],HJ.out.2.2.1,rC,gM HJ.out.2.2.2.2.2.1 rT.size,Cx.q8 rT wH,by have:=HJ.out.2.2.2.2.2.2;omega,rfl,rfl,rfl,zF.out.1⟩
       rw[<-Cc,<-Cd,<-Cf,<-tL];clear pV rT rC Cc Cd Cf tL dz hb bE pq pj bF hk yk RL HZ zF HK wH Ja;rotate_left;have dH:k=ids.length:=by omega
       have Bf:=lhd (show ((k:Int) == (ids.length:Int))=true by simp[dH]);have pq:decide ((k:Int) < (ids.length:Int))=false:=by simp[dH]
       have MV:decide (k < ids.length)=false:=by simp[dH]
       have Gw:=zF.out.2.2.1 dH;have wI:=zF.out.2.1;have vP:=lhd (aiq dH Gw);clear dH Gw oH aP bF hk;go_wp2_with fail
       go_quiet (fail)
       have bE:=Bf.out;go_upto_region 18 with fail;obtain⟨V,hV⟩ : ∃ V,V=wr.drewN nq:=⟨_,rfl⟩
       have rT:Below wo.heap.size wo V:=by rw[hV];exact qb HK.out.2 _
       have rC:Below B W V:=by rw[hV];exact qb Ja.out _
       rw[<-hV];have yV:=Cx.q8 rT wH;have Xn:=(HR.out.2.2.1 V rC).2.2.1;have hF:=HJ.out.1.q8 rT;have RM:yb < V.heap.size:=gM HJ.out.2.2.2.2.2.1 rT.size;have aN:B<=V.heap.size:=by omega
       have HF:=lhd (aiq hF (aiq HJ.out.2.2.1 (aiq rC yV)));clear hF hV rT rC yk RL wH;go_wp2_with (at_builtin;refine q0p (W:=V) rfl _ _ 22 rfl B 3 Tryz.xg Tryz.underlying22 rfl (by decide) (by decide) _ _ _ rfl (HF.out.1.at (i:=0) rfl) [.int .i64 r.c] rfl rfl (q5v _) (by omega) (Below.refl _ _) aN ?_);intro g5 c5 w5 aZ e6 RN aB;have h5:=HF.out.1.qm9 (i:=0) rfl aZ e6 RN HF.out.2.1 RM;have Gx:B<=w5.heap.size:=by have:=h5.2.2.2;omega
       have H5:=lhd (aiq h5 (aiq aB (h5.2.2.1 2 _ HF.out.2.2.2)));clear aZ e6 RN aB h5 aN RM yV Xn;go_wp2_with (at_builtin;refine q0p (W:=w5) rfl _ _ 22 rfl B 3 Tryz.xg Tryz.underlying22 rfl (by decide) (by decide) _ _ _ rfl (H5.out.1.1.at (i:=1) rfl) [.int .i64 0] rfl rfl (q5v _) (by have:=zG.out;omega) (Below.refl _ _) Gx ?_);intro g6 c6 w6 dh pD RO dc;have h6:=H5.out.1.1.qm9 (i:=1) rfl dh pD RO H5.out.1.2.1 H5.out.1.2.2.2;have Gy:B<=w6.heap.size:=by have:=h6.2.2.2;omega
       have H6:=lhd (aiq h6 (aiq (H5.out.2.1.trans dc) (h6.2.2.1 2 _ H5.out.2.2)));clear dh pD RO dc h6 Gx;go_wp2_with (at_builtin;refine q0p (W:=w6) rfl _ _ 22 rfl B 3 Tryz.xg Tryz.underlying22 rfl (by decide) (by decide) _ _ _ rfl (H6.out.1.1.at (i:=2) rfl) [.int .i64 0] rfl rfl (q5v _) (by have:=zG.out;omega) (Below.refl _ _) Gy ?_);intro g7 c7 w7 iC dD RP fb;have h7:=H6.out.1.1.qm9 (i:=2) rfl iC dD RP H6.out.1.2.1 H6.out.1.2.2.2;have Gz:B<=w7.heap.size:=by have:=h7.2.2.2;omega
       have H7:=lhd (aiq h7 (aiq (H6.out.2.1.trans fb) (h7.2.2.1 2 _ H6.out.2.2)));clear iC dD RP fb h7 Gy;go_wp2_with (at_builtin;refine q0p (W:=w7) rfl _ _ 22 rfl B 3 Tryz.xg Tryz.underlying22 rfl (by decide) (by decide) _ _ _ rfl (H7.out.1.1.at (i:=4) rfl) [.int .i64 i] rfl rfl (q5v _) (by have:=zG.out;omega) (Below.refl _ _) Gz ?_);intro g9 c9 w9 sT IU RQ oG;have h9:=H7.out.1.1.qm9 (i:=4) rfl sT IU RQ H7.out.1.2.1 H7.out.1.2.2.2;have H9:=lhd (aiq h9 (aiq (H7.out.2.1.trans oG) (h9.2.2.1 2 _ H7.out.2.2)));clear sT IU RQ oG h9 Gz;go_upto_region 22 with fail;obtain⟨wz,pV⟩ : ∃ wz,wz=w9:=⟨_,rfl⟩
       obtain⟨n5,Cc⟩ : ∃ n,n=ids.length+1:=⟨_,rfl⟩
       obtain⟨n6,Cd⟩ : ∃ n,n=aL.length+1:=⟨_,rfl⟩
       obtain⟨n7,Cf⟩ : ∃ n,n=many.length+1:=⟨_,rfl⟩
       obtain⟨n9,tL⟩ : ∃ n,n=dQ.length+1:=⟨_,rfl⟩
       have Jb:=lhd (show k < n5/\n6=n5/\n7=n5/\n9=n5 by have:=vP.out.1;have:=zG.out;omega);obtain⟨dR,cz,cA,eE,HT⟩ : ∃ dR cz cA eE:List Int,Hid (FR wz B 3 [(.slice (some ⟨g5,0,none⟩) n5 c5,dR),(.slice (some ⟨g6,0,none⟩) n6 c6,cz),(.slice (some ⟨g7,0,none⟩) n7 c7,cA),(.slice (some ⟨B,0,none⟩) xn xn,part),(.slice (some ⟨g9,0,none⟩) n9 c9,eE)]/\Sec (i+1) (oP (tK l) x.cl i j) (fun d=>d=r.c) dR cz cA eE part/\dR[k]? = some r.c/\AV [(.slice (some ⟨g5,0,none⟩) n5 c5,dR),(.slice (some ⟨g6,0,none⟩) n6 c6,cz),(.slice (some ⟨g7,0,none⟩) n7 c7,cA),(.slice (some ⟨B,0,none⟩) xn xn,part),(.slice (some ⟨g9,0,none⟩) n9 c9,eE)] yb/\Below B W wz/\yb < wz.heap.size/\wz.cell? ⟨yb,2,none⟩=some (.slice (some yd) y.n y.c)/\dR.length<=(oP (tK l) x.cl i j).length+1/\n6=cz.length/\n7=cA.length/\n9=eE.length/\(oP (tK l) x.cl i j).length<=4160):=by refine⟨ids++[r.c],aL++[0],many++[0],dQ++[(i:Int)],(show Hid _ from ?_)⟩;rw[Cc,Cd,Cf,tL,pV];exact⟨H9.out.1.1,zF.out.2.2.2.new vP.out.2,by rw[vP.out.1,gU (nlr _),Nat.sub_self];rfl,H9.out.1.2.1,HF.out.2.2.1.trans H9.out.2.1,H9.out.1.2.2.2,H9.out.2.2,by have:=HJ.out.2.2.2.2.2.2;rw[gc];show ids.length+1<=_;omega,by simp,by simp,by simp,zF.out.1⟩
       rw[<-Cc,<-Cd,<-Cf,<-tL,<-pV];clear pV Cc Cd Cf tL bE pq MV vP zF HK Ja H5 H6 H7 H9 HF wI
       all_goals
        obtain⟨sv,rS⟩ : ∃ sv,cz[k]? = some sv:=⟨_,(HT.out.2.1.sm k _ HT.out.2.2.1).1⟩
        obtain⟨mv,MW⟩ : ∃ mv,cA[k]? = some mv:=⟨_,(HT.out.2.1.sm k _ HT.out.2.2.1).2⟩
        have Eb:=qg2 (oP (tK l) x.cl i j) (qpq (T:=tK l) (x:=x.cl) (i:=i) (j:=j) HX.out.2.2.2.2.2.2.2.2.1 (fun c y hy=>(HX.out.2.2.2.2.1 c y hy).2)) r.c;have G0:=osi (rS.symm.trans (HT.out.2.1.sm k _ HT.out.2.2.1).1);have MX:=osi (MW.symm.trans (HT.out.2.1.sm k _ HT.out.2.2.1).2);rw[<-G0] at Eb;have Xo:=HT.out.2.2.2.2.2.2.2.2.2.2.2;obtain⟨q,fW,lI,_⟩:=HT.out.2.1.fr k _ HT.out.2.2.1;obtain⟨ov,RS⟩ : ∃ ov,part[q]? = some ov:=⟨_,g8 (by omega)⟩
        obtain⟨nv,RT⟩ : ∃ nv,part[i]? = some nv:=⟨_,g8 (by omega)⟩
        have nQ:s.g*r.g=1\/s.g*r.g = -1:=by have h2:=HR.out.2.1;have h1:=HY.out.2.2.2.2.1;rcases h1 with h1 | h1 <;> rcases h2 with h2 | h2 <;> rw[h1,h2] <;> simp
        have oC:IntKind.i64.wrap (s.g*r.g)=s.g*r.g:=IntWalk.i64_in _ (by omega);have ZC:IntKind.i64.wrap (sv+s.g*r.g)=sv+s.g*r.g:=IntWalk.i64_in _ (by omega);have DP:IntKind.i64.wrap (mv+1)=mv+1:=IntWalk.i64_in _ (by omega);have Xp:(k:Int) < n6:=by have:=Jb.out;omega
        have Xq:(k:Int) < n7:=by have:=Jb.out;omega
        have Xr:(k:Int) < n9:=by have:=Jb.out;omega
        have RU:(q:Int) < xn:=by omega
        have HV:=lhd (aiq rS (aiq MW (aiq fW (aiq lI (aiq RS RT)))));have d6:=HT.out.1.cell (i:=1) rfl HT.out.2.2.2.2.2.2.2.2.1 rS;have d60:=d6.1;obtain⟨x2,xs,yr,yg⟩:=HR.out.2.2.1 wz HT.out.2.2.2.2.1;have y2:=HT.out.2.2.2.2.2.2.1;clear Eb G0 MX Xo nQ rS MW fW lI RS RT d6 yr
        go_still_tail 20,(by kernel_rfl)
        change wpList _ _ _ _ _ wz.drew;have hD:Below wz.heap.size wz wz.drew:=qb (Below.refl _ wz) 1;obtain⟨U,hU⟩ : ∃ U,U=wz.drew:=⟨_,rfl⟩
        rw[<-hU] at hD ⊢;have MY:=HT.out.1.q8 hD;obtain⟨d60,d61⟩:=MY.cell (i:=1) rfl HT.out.2.2.2.2.2.2.2.2.1 HV.out.1
        replace x2:=Cx.q8 hD x2
        replace xs:=Cx.q8 hD xs
        replace yg:=Cx.q8 hD yg
        replace y2:=Cx.q8 hD y2
        have HD:=lhd (aiq hD MY);clear hU hD MY;go_upto_region 23 with fail;obtain⟨U1,Dh⟩ : ∃ U1,U1=U.setCell ⟨g6,k,none⟩ (.int .i64 (sv+s.g*r.g)):=⟨_,rfl⟩
        rw[<-Dh];have h6:yb≠g6:=fun e=>HT.out.2.2.2.1 _ (gh (i:=1) rfl) (congrArg some e.symm)
        have h7:yb≠g7:=fun e=>HT.out.2.2.2.1 _ (gh (i:=2) rfl) (congrArg some e.symm)
        have Fx:FR U1 B 3 [(.slice (some ⟨g5,0,none⟩) n5 c5,dR),(.slice (some ⟨g6,0,none⟩) n6 c6,cz.set k (sv+s.g*r.g)),(.slice (some ⟨g7,0,none⟩) n7 c7,cA),(.slice (some ⟨B,0,none⟩) xn xn,part),(.slice (some ⟨g9,0,none⟩) n9 c9,eE)]:=by rw[Dh];exact HD.out.2.put (i:=1) rfl HT.out.2.2.2.2.2.2.2.2.1 k _
        have y3:U1.cell? ⟨yb,2,none⟩=some (.slice (some yd) y.n y.c):=by rw[Dh];exact xe y2 h6
        obtain⟨d70,d71⟩:=Fx.cell (i:=2) rfl HT.out.2.2.2.2.2.2.2.2.2.1 HV.out.2.1;have ej:Below B W U:=HT.out.2.2.2.2.1.trans (HD.out.1.mono (by have:=HT.out.2.2.2.2.1.size;have:=Dg.out;omega));have ak:Below B W U1:=by rw[Dh];exact ej.setCell (((HD.out.2.at (i:=1) rfl).lt g6 rfl).1) _
        have iM:yb < U1.heap.size:=by rw[Dh];have:=HD.out.1.size;have:=HT.out.2.2.2.2.2.1;simp;omega
        have H1:=lhd (aiq Fx (aiq y3 (aiq ak (aiq iM h7))));clear Dh h6 h7 Fx ej ak iM x2 xs yg y2 d60 d61 y3;go_upto_region 24 with fail;obtain⟨U2,tT⟩ : ∃ U2,U2=U1.setCell ⟨g7,k,none⟩ (.int .i64 (mv+1)):=⟨_,rfl⟩
        rw[<-tT];have eL:FR U2 B 3 [(.slice (some ⟨g5,0,none⟩) n5 c5,dR),(.slice (some ⟨g6,0,none⟩) n6 c6,cz.set k (sv+s.g*r.g)),(.slice (some ⟨g7,0,none⟩) n7 c7,cA.set k (mv+1)),(.slice (some ⟨B,0,none⟩) xn xn,part),(.slice (some ⟨g9,0,none⟩) n9 c9,eE)]:=by rw[tT];exact H1.out.1.put (i:=2) rfl HT.out.2.2.2.2.2.2.2.2.2.1 k _
        have y4:U2.cell? ⟨yb,2,none⟩=some (.slice (some yd) y.n y.c):=by rw[tT];exact xe H1.out.2.1 H1.out.2.2.2.2
        have aw:Below B W U2:=by rw[tT];exact H1.out.2.2.1.setCell (((H1.out.1.at (i:=2) rfl).lt g7 rfl).1) _
        have dy:yb < U2.heap.size:=by rw[tT];have:=H1.out.2.2.2.1;simpa using this
        have d9:=(eL.cell (i:=4) rfl HT.out.2.2.2.2.2.2.2.2.2.2.1 HV.out.2.2.2.1).1;have dq:=(eL.cell (i:=3) rfl cm.symm HV.out.2.2.2.2.1).1;have di:=(eL.cell (i:=3) rfl cm.symm HV.out.2.2.2.2.2).1;have H2:=lhd (aiq eL (aiq y4 (aiq aw dy)));clear tT eL aw dy y4 d70 d71;go_wp2_with fail;go_loopw [16] (fun p wr=>∃ m:Nat,p = .int .i64 m/\m<=i+1/\Hid (FR wr B 3 [(.slice (some ⟨g5,0,none⟩) n5 c5,dR),(.slice (some ⟨g6,0,none⟩) n6 c6,cz.set k (sv+s.g*r.g)),(.slice (some ⟨g7,0,none⟩) n7 c7,cA.set k (mv+1)),(.slice (some ⟨B,0,none⟩) xn xn,rlb part m ov nv),(.slice (some ⟨g9,0,none⟩) n9 c9,eE)]/\wr.cell? ⟨yb,2,none⟩=some (.slice (some yd) y.n y.c)/\Below B W wr/\yb < wr.heap.size)) (fun p _=>i+1 - (vI p).toNat)
        case atStart=>exact⟨0,rfl,go _,(show Hid _ from by rw[qjd];exact H2.out)⟩
        case round =>
         obtain⟨m,rfl,hm,HM⟩:=hrel;by_cases iI:m < i+1
         ·obtain⟨vm,wJ⟩ : ∃ vm,part[m]? = some vm:=⟨_,g8 (by omega)⟩
          have Cg:(rlb part m ov nv)[m]? = some vm:=by rw[q0w,wJ];simp
          have lE:xn=(rlb part m ov nv).length:=by rw[q9k];exact cm.symm
          obtain⟨dm,fm⟩:=HM.out.1.cell (i:=3) rfl lE Cg;have Li:(m:Int)<=i:=by omega
          have qF:(m:Int) < xn:=by omega
          by_cases he:vm=nv
          ·have hb:(vm == nv)=true:=by simpa using he
           have HE:=lhd (aiq he (aiq wJ lE));clear he wJ Cg lE d9 dq di;go_wp2_with fail;go_roundw
           case measure=>simp[vI];omega
           case rel =>
            have Xs:yb≠B:=by omega
            refine⟨m+1,qh (by omega),by omega,(show Hid _ from⟨?_,xe HM.out.2.1 Xs,HM.out.2.2.1.setCell (nlr _) _,by have:=HM.out.2.2.2;simpa using this⟩)⟩;rw[qm3 part m ov nv (by rw[HE.out.2.1,HE.out.1])];exact HM.out.1.put (i:=3) rfl HE.out.2.2 m ov
          ·have hb:(vm == nv)=false:=by simpa using he
           have HE:=lhd (aiq he wJ);clear he wJ Cg lE d9 dq di;go_wp2_with fail;go_roundw
           case measure=>simp[vI];omega
           case rel=>exact⟨m+1,qh (by omega),by omega,(show Hid _ from by rw[qje part m ov nv vm HE.out.2 HE.out.1];exact HM.out)⟩
         ·have MZ:m=i+1:=by omega
          subst MZ;have Li:¬ ((i+1:Nat):Int)<=i:=by omega
          clear d9 dq di iI;go_wp2_with fail;go_roundw
          case measure=>simp[vI];omega
          case rel =>
           have zD:AV [(.slice (some ⟨g5,0,none⟩) n5 c5,dR),(.slice (some ⟨g6,0,none⟩) n6 c6,cz.set k (sv+s.g*r.g)),(.slice (some ⟨g7,0,none⟩) n7 c7,cA.set k (mv+1)),(.slice (some ⟨B,0,none⟩) xn xn,rlb part (i+1) ov nv),(.slice (some ⟨g9,0,none⟩) n9 c9,eE)] yb:=by
            intro p hp;simp only [List.mem_cons,List.not_mem_nil,or_false] at hp;rcases hp with rfl | rfl | rfl | rfl | rfl
            ·exact HT.out.2.2.2.1 (.slice (some ⟨g5,0,none⟩) n5 c5,dR) (by simp)
            ·exact HT.out.2.2.2.1 (.slice (some ⟨g6,0,none⟩) n6 c6,cz) (by simp)
            ·exact HT.out.2.2.2.1 (.slice (some ⟨g7,0,none⟩) n7 c7,cA) (by simp)
            ·exact HT.out.2.2.2.1 (.slice (some ⟨B,0,none⟩) xn xn,part) (by simp)
            ·exact HT.out.2.2.2.1 (.slice (some ⟨g9,0,none⟩) n9 c9,eE) (by simp)
           have ho:oP (tK l) x.cl i (j+1)=oP (tK l) x.cl i j++[(r.c,i,s.g*r.g)]:=qm4 (x:=x.cl) HY.out.1 HY.out.2.2.2.1 HR.out.1;refine⟨j+1,dR,cz.set k (sv+s.g*r.g),cA.set k (mv+1),eE,rlb part (i+1) ov nv,qh (by omega),by omega,by rw[q9k];exact cm,(show Hid _ from⟨HM.out.1,?_,zD,by rw[HR.out.2.2.2];exact HM.out.2.1,HM.out.2.2.1,HM.out.2.2.2,?_⟩)⟩
           ·rw[ho];exact HT.out.2.1.put (fun d h=>h) HT.out.2.2.1 HV.out.1 HV.out.2.1 HV.out.2.2.2.1 HV.out.2.2.2.2.1 HV.out.2.2.2.2.2
           ·rw[ho,gc];exact HT.out.2.2.2.2.2.2.2.1
    ·have dM:j=y.n:=by omega
     have L0:=lhd dM;have MS:¬ (j:Int) < y.n:=by omega
     clear dM;go_wp2_with fail;go_roundw
     case measure=>simp[vI];omega
     case rel =>
      obtain⟨q1,q2,q3,q4,q5,q6,q7⟩:=HJ.out;have e:y.cl.s.length=j:=by show y.s.length=j;rw[L0.out];exact H3.out.2.2.1
      have ho:oP (tK l) x.cl (i+1) 0=oP (tK l) x.cl i j:=by rw[<-qm5 (x:=x.cl) HY.out.1 HY.out.2.2.2.1,e]
      exact⟨i+1,ids,aL,many,dQ,part,qh (by omega),by omega,cm,(show Hid _ from by rw[ho];exact⟨q1,q2,q5,q7⟩)⟩
  ·have cP:i=xn:=by omega
   subst cP;have hd:=HI.out.2.1;rw[show (oP (tK l) x.cl i 0)=occ (tK l) x.cl by rw[<-qon];congr 1;exact HX.out.2.2.2.1.symm] at hd;obtain⟨d1,d2,d3⟩:=hd.done HX.out.2.2.2.2.2.2.1;have HD:=lhd (aiq d1 (aiq d2 (aiq d3 hd)));have bG:=lhd bI;obtain⟨wo,de⟩ : ∃ wo,wo=wr:=⟨_,rfl⟩
   subst de;clear d1 d2 d3 hd bI;go_wp2_with fail;go_loopw [17] (fun p wr=>∃ k:Nat,p = .int .i64 k/\k<=aL.length/\Hid (Below wo.heap.size wo wr)) (fun p _=>aL.length - (vI p).toNat)
   case atStart=>exact⟨0,rfl,go _,(show Hid _ from Below.refl _ _)⟩
   case round =>
    obtain⟨k,rfl,hk,HB⟩:=hrel;by_cases hlt:k < aL.length
    ·obtain⟨g,c,mW,_,_,cL,_⟩:=(HI.out.1.q8 HB.out).form (i:=1) rfl (by omega);have mf:a6=some ⟨g,0,none⟩:=by injection mW
     have tW:c6=c:=by injection mW
     subst mf tW;obtain⟨z,hz⟩ : ∃ z,aL[k]? = some z:=⟨_,g8 hlt⟩
     have aF:=HD.out.1 z (gh hz);subst aF;have d0:=(cL k 0 hz).1;have pj:(k:Int) < aL.length:=by omega
     have pU:=lhd cL;clear cL hz mW;go_wp2_with fail;go_roundw
     case measure=>simp[vI];omega
     case rel=>exact⟨k+1,qh (by omega),by omega,HB⟩
    ·have pj:¬ (k:Int) < aL.length:=by omega
     obtain⟨w5,FF⟩ : ∃ w5,w5=wr:=⟨_,rfl⟩
     subst FF;go_wp2_with fail;go_loopw [18] (fun p wr=>∃ k:Nat,p = .int .i64 k/\k<=many.length/\Hid (Below wo.heap.size wo wr)) (fun p _=>many.length - (vI p).toNat)
     case atStart=>exact⟨0,rfl,go _,HB⟩
     case round =>
      obtain⟨k,rfl,hk,HB⟩:=hrel;by_cases hlt:k < many.length
      ·obtain⟨g,c,mW,_,_,cL,_⟩:=(HI.out.1.q8 HB.out).form (i:=2) rfl (by omega);have mf:a7=some ⟨g,0,none⟩:=by injection mW
       have tW:c7=c:=by injection mW
       subst mf tW;obtain⟨z,hz⟩ : ∃ z,many[k]? = some z:=⟨_,g8 hlt⟩
       have aF:=HD.out.2.1 z (gh hz);subst aF;have d0:=(cL k 2 hz).1;have pj:(k:Int) < many.length:=by omega
       have pU:=lhd cL;clear cL hz mW;go_wp2_with fail;go_roundw
       case measure=>simp[vI];omega
       case rel=>exact⟨k+1,qh (by omega),by omega,HB⟩
      ·have pj:¬ (k:Int) < many.length:=by omega
       obtain⟨w6,mC⟩ : ∃ w6,w6=wr:=⟨_,rfl⟩
       subst mC;go_wp2_with fail;go_loopw [19] (fun p wr=>∃ k:Nat,p = .int .i64 k/\k<=i/\Hid (Below wo.heap.size wo wr)) (fun p _=>i - (vI p).toNat)
       case atStart=>exact⟨0,rfl,go _,HB⟩
       case round =>
        obtain⟨k,rfl,hk,HB⟩:=hrel;by_cases hlt:k < i
        ·obtain⟨g,c,mW,_,_,cL,_⟩:=(HI.out.1.q8 HB.out).form (i:=3) rfl (by rw[cm];omega);have mf:B=g:=by injection mW with h1;injection h1 with h1;injection h1
         subst mf;obtain⟨z,hz⟩ : ∃ z,part[k]? = some z:=⟨_,g8 (by rw[cm];exact hlt)⟩
         have aF:=HD.out.2.2.1 k (by show k < x.s.length;have:=HX.out.2.2.2.1;omega);rw[hz] at aF;have d0:=(cL k z hz).1;have d1:=(cL 0 z aF.symm).1;have pj:(k:Int) < i:=by omega
         have pU:=lhd cL;clear cL hz mW aF;go_wp2_with fail
         go_quiet (fail)
         go_wp2;go_roundw
         case measure=>simp[vI];omega
         case rel=>exact⟨k+1,qh (by omega),by omega,(show Hid _ from qb HB.out _)⟩
        ·have pj:¬ (k:Int) < i:=by omega
         go_wp2_with fail;go_ret;exact⟨rfl,HX.out.2.2.2.2.2.2.2.2.2.1.trans (((btr bG.out HB.out)).mono HX.out.2.2.2.2.2.2.2.2.2.1.size)⟩
end Go.Proofs.YtlhicnfeajejhaaGreatDoor
namespace Go.Cx
open Go.Proofs.YtlhicnfeajejhaaGreatDoor
theorem qcz {K:List Cl} (G:Good K) (hc:chk K=(0,0)):(∀ x∈K,xx (fun c=>K.find? fun y=>y.id == c) x=0)/\∀ x∈K,1 < x.dim->xv (fun c=>K.find? fun y=>y.id == c) x=0:=by
 have h1:canon K=K:=G.cells.1;have h2:cAt K=fun c=>K.find? fun y=>y.id == c:=by
  funext c
  unfold cAt;rw[G.cells.2]
 unfold chk at hc;rw[h1,h2] at hc;split at hc
 ·cases hc
 cases h3:q0a (fun c=>K.find? fun y=>y.id == c) 0 K with
 | some e =>rw[h3] at hc;have h4:=q1i h3;have h5:e=(0,0):=hc;rw[h5] at h4;exact absurd rfl h4
 | none =>
  rw[h3] at hc;have hc:(qox (fun c=>K.find? fun y=>y.id == c) K).getD (0,0)=(0,0):=hc;refine⟨fun x hx=>((q4f h3).1 x hx).2,?_⟩;have key:∀ L:List Cl,(qox (fun c=>K.find? fun y=>y.id == c) L).getD (0,0)=(0,0)->∀ x∈L,1 < x.dim->xv (fun c=>K.find? fun y=>y.id == c) x=0:=fun L=>by
   induction L with
   | nil=>intro _ x hx;cases hx
   | cons y L ih =>
    intro h x hx hd;unfold qox at h;split at h
    ·rename_i hy;have h6:xv (fun c=>K.find? fun y=>y.id == c) y=0:=(Prod.mk.inj h).2;exact absurd h6 hy.2
    ·rename_i hy;rcases gx.1 hx with rfl | hx
     ·exact be fun e=>hy ⟨hd,e⟩
     ·exact ih h x hx hd
  exact key K hc
theorem qg5 {K:List Cl} (G:Good K):q26 K=K:=by
 rw[qap G.asc]
 conv=>rhs;rw[<-List.map_id K]
 refine List.map_congr_left fun x hx=>?_
 show (⟨x.id,x.dim,zx x.s⟩ : Cl)=x;rw[qek ((G.sasc x hx).imp fun h=>by omega)]
end Go.Cx
namespace Go.Proofs.YtlhicnfeajejhaaGreatDoor
open Go.RowKit Go.Cx
attribute [local go_sem ↓] Go.wp_at_zero Go.wp_at_succ
theorem qma (v:Value) (l:List Ce) (w:World) (h:SlC w v l) (hl:l.length<=4000) (aK:∀ x∈l,x.s.length<=1099511627776) (G:Cx.Good (l.map Ce.cl)) (hc:chk (l.map Ce.cl)=(0,0)) :
  Calls Tryz.prog 104 #[.agg #[v]] w fun e w'=>e = .returned (.tuple #[.int .i64 0,.int .i64 0])/\Below w.heap.size w w':=by
 obtain⟨a,n,cap,rfl⟩:=qg h.1;have hlen:l.length=n:=by obtain⟨_,_,h3,_⟩:=h.1.open;rw[qt Ce.qp] at h3;omega
 obtain⟨W,hW⟩ : ∃ W:World,W=w.alloc (.cells #[.slice a n cap] 26):=⟨_,rfl⟩
 have hB:Below w.heap.size w W:=by rw[hW];exact bal w _
 have b0:W.cell? ⟨w.heap.size,0,none⟩=some (.slice a n cap):=by rw[hW];exact qd w _ _ (0,0) 0
 obtain⟨gf,ga⟩:=qcz G hc;have HH:=lhd (aiq (h.q8 hB) (aiq aK (aiq G (aiq gf (aiq ga (aiq hlen hB))))));have hn:n<=4000:=by omega
 have ZD:¬ (4000:Int) < n:=by omega
 clear h aK G hc hlen hB hl gf ga;go_enter Tryz.func104,Tryz.ntmps104;go_upto_region 3 with fail;rw[<-hW];clear hW;go_wp2_with fail;refine(q7s n _ l W HH.out.2.2.2.2.2.1 HH.out.1 (by have:=HH.out.2.2.2.2.2.1;omega) HH.out.2.1).mono ?_;rintro e w1 ⟨r,M,rfl,hM,hR,ai⟩;rw[qg5 HH.out.2.2.1] at hM;have na:M.length=n:=by have:=congrArg List.length hM;rw[gn,gn,HH.out.2.2.2.2.2.1] at this;exact this
 obtain⟨ma,mc,iX⟩:=qj hR.1;subst iX;rw[na] at hR ⊢;have ak:Below w.heap.size w w1:=(btr HH.out.2.2.2.2.2.2 ai);have fH:=HH.out.1.q8 ai
 replace b0:=Cx.q8 ai b0
 have RV:SlC w1 (.slice ma n mc) M:=⟨Sl.qc hR.1,fun x hx=>Sl.qc (hR.2 x hx)⟩
 have H1:=lhd (aiq hM (aiq na (aiq RV (aiq ak fH))));clear hM na hR ak fH RV ai;go_wp2_with fail;refine(qdz _ l w1 H1.out.2.2.2.2 (by have:=HH.out.2.2.2.2.2.1;omega) HH.out.2.1).mono ?_;rintro e w2 ⟨r2,O,rfl,hO,G1,aj⟩;rw[q4v HH.out.2.2.1] at hO;have lK:O.length=n:=by have:=congrArg List.length hO;rw[gn,gn,HH.out.2.2.2.2.2.1] at this;exact this
 obtain⟨oa,oc,iX⟩:=qj G1.1;subst iX;rw[lK] at G1 ⊢;have RW:O.Pairwise fun x y=>x.id < y.id:=by have h3:=HH.out.2.2.1.asc;rw[<-hO] at h3;exact(List.pairwise_map (f:=Ce.cl) (R:=fun x y:Cl=>x.id < y.id)).1 h3
 have RX:M.Pairwise fun x y=>x.id < y.id:=by have h3:=HH.out.2.2.1.asc;rw[<-H1.out.1] at h3;exact(List.pairwise_map (f:=Ce.cl) (R:=fun x y:Cl=>x.id < y.id)).1 h3
 have RY:tK O=fun c=>(l.map Ce.cl).find? fun y=>y.id == c:=by unfold tK;rw[hO]
 have RZ:tK M=fun c=>(l.map Ce.cl).find? fun y=>y.id == c:=by unfold tK;rw[H1.out.1]
 have eK:SlC w2 (.slice ma n mc) M:=H1.out.2.2.1.q8 aj;have Sa:SlC w2 (.slice oa n oc) O:=⟨Sl.qc G1.1,fun x hx=>Sl.qc (G1.2 x hx)⟩
 have cP:∀ x∈M,x.cl∈l.map Ce.cl:=fun x hx=>by rw[<-H1.out.1];exact gr.2 ⟨x,hx,rfl⟩
 have aw:Below w.heap.size w w2:=(btr H1.out.2.2.2.1 aj);obtain⟨_,Ej,_⟩:=eK.1.open;unfold maxLen at Ej;have H2:=lhd (aiq lK (aiq RW (aiq RX (aiq RY (aiq RZ (aiq eK (aiq Sa (aiq cP aw))))))));clear hO lK RW RX RY RZ eK Sa cP aw G1 aj b0;have cL:∀ U,Below w2.heap.size w2 U->∀ (i:Nat) (x:Ce),M[i]? = some x->∃ ad,ma=some ad/\U.cell? (ad.add (i*3))=some (.int .i64 x.id)/\U.cell? ⟨(ad.add (i*3)).block,(ad.add (i*3)).off+1,none⟩=some (.int .i64 x.dim)/\U.cell? ⟨(ad.add (i*3)).block,(ad.add (i*3)).off+2,none⟩=some (.slice x.a x.n x.c):=fun U hU i x hx=>by
  obtain⟨_,_,_,h5,h6⟩:=(H2.out.2.2.2.2.2.1.q8 hU).1.open;obtain⟨ad,aT⟩ : ∃ ad,ma=some ad:=by
   cases ma with
   | none=>have h1:=h5 rfl;have h2:=(ge.1 hx).1;have:=H1.out.2.1;omega
   | some ad=>exact⟨ad,rfl⟩
  obtain⟨e0,e1,e2⟩:=zh M i x hx;refine⟨ad,aT,h6 ad aT _ _ e0,?_,?_⟩
  ·rw[qi _ _ _ (by omega)];exact h6 ad aT _ _ e1
  ·rw[qi _ _ _ (by omega)];exact h6 ad aT _ _ e2
 have pU:=lhd cL;clear cL;go_wp2_with fail;go_loopw [6] (fun p wr=>∃ k:Nat,p = .int .i64 k/\k<=n/\Hid (Below w2.heap.size w2 wr)) (fun p _=>n - (vI p).toNat)
 case atStart=>exact⟨0,rfl,go _,(show Hid _ from Below.refl _ _)⟩
 case round =>
  obtain⟨k,rfl,hk,HB⟩:=hrel;by_cases hlt:k < n
  ·obtain⟨x,hx⟩ : ∃ x,M[k]? = some x:=⟨_,g8 (by rw[H1.out.2.1];exact hlt)⟩
   obtain⟨ad,aT,d0,d1,d2⟩:=pU.out wr HB.out k x hx;have fK:=gh hx;have vJ:=HH.out.2.2.1.pos _ (H2.out.2.2.2.2.2.2.2.1 x fK);have Xt:decide (x.id < 1)=false:=by have:0 < x.id:=vJ;simp;omega
   have pj:(k:Int) < n:=by omega
   have hf:=HH.out.2.2.2.1 _ (H2.out.2.2.2.2.2.2.2.1 x fK);have af:∀ U,Below w2.heap.size w2 U->Calls Tryz.prog 156 #[.slice oa n oc,x.v] U fun e w'=>e = .returned (.int .i64 0)/\Below U.heap.size U w':=fun U hU =>qm7 _ O x U (H2.out.2.2.2.2.2.2.1.q8 hU).1 (by have:=H2.out.1;omega) H2.out.2.1 ((H2.out.2.2.2.2.2.1.q8 hU).2 x fK) (by have:=H2.out.2.2.2.1;unfold tK at this;rw[this];exact hf)
   unfold Ce.v at af;have HC:=lhd (aiq hx af);subst aT;clear hx fK vJ hf af;by_cases dH:0 < k;obtain⟨mm,dL⟩ : ∃ mm,k=mm+1:=⟨k - 1,by omega⟩
   have pq:decide ((0:Int) < (k:Int))=true:=by simpa using dH
   have fZ:IntKind.i64.wrap ((k:Int) - 1)=(mm:Int):=by rw[IntWalk.i64_left,IntWalk.wrap64_in _ (by omega)];omega
   have xT:(0:Int)<=(mm:Int):=by omega
   have fA:(mm:Int) < (n:Int):=by omega
   obtain⟨y,hy⟩ : ∃ y,M[mm]? = some y:=⟨_,g8 (by rw[H1.out.2.1];omega)⟩
   obtain⟨ad2,zH,r0,_⟩:=pU.out wr HB.out mm y hy;have G3:ad2=ad:=by injection zH with e;exact e.symm
   subst G3;have hq:(x.id == y.id)=false:=by obtain⟨h1,e1⟩:=ge.1 hy;obtain⟨h2,e2⟩:=ge.1 HC.out.1;have:=gN.1 H2.out.2.2.1 mm k h1 h2 (by omega);rw[e1,e2] at this;simp;omega
   clear hy dL zH;go_wp2_with fail
   go_quiet (fail)
   rotate_left;have pq:decide ((0:Int) < (k:Int))=false:=by simpa using dH
   go_wp2_with fail
   go_quiet (fail)
   all_goals
    obtain⟨V,hV⟩ : ∃ V,V=wr.drewN nq:=⟨_,rfl⟩
    have aN:Below w2.heap.size w2 V:=by rw[hV];exact qb HB.out _
    rw[<-hV];obtain⟨ZE,zI,v0,v1,v2⟩:=pU.out V aN k x HC.out.1;obtain rfl:=osi zI;have HV:=lhd aN;clear hV aN zI d0 d1 d2 pq;go_wp2_with fail;refine(HC.out.2 V HV.out).mono ?_;rintro e w4 ⟨rfl,aM⟩;have H4:=lhd ((btr HV.out aM));clear aM v0 v1 v2;go_wp2_with fail;go_roundw
    case measure=>simp[vI];omega
    case rel=>exact⟨k+1,qh (by omega),by omega,(show Hid _ from H4.out)⟩
  ·have HW:=lhd HB.out;go_wp2_with fail;go_loopw [8] (fun p wr=>∃ k:Nat,p = .int .i64 k/\k<=n/\Hid (Below w2.heap.size w2 wr)) (fun p _=>n - (vI p).toNat)
   case atStart=>exact⟨0,rfl,go _,(show Hid _ from HW.out)⟩
   case round =>
    obtain⟨k,rfl,hk,HB⟩:=hrel;by_cases hlt:k < n
    ·obtain⟨x,hx⟩ : ∃ x,M[k]? = some x:=⟨_,g8 (by rw[H1.out.2.1];exact hlt)⟩
     obtain⟨ad,aT,d0,d1,d2⟩:=pU.out wr HB.out k x hx;have fK:=gh hx;have pj:(k:Int) < n:=by omega
     by_cases cj:x.dim < 2
     ·subst aT;clear hx fK d0 d2;go_wp2_with fail;go_roundw
      case measure=>simp[vI];omega
      case rel=>exact⟨k+1,qh (by omega),by omega,HB⟩
     ·have Ca:=H2.out.2.2.2.2.2.2.2.1 x fK;have hf:=HH.out.2.2.2.1 _ Ca;have ha:=HH.out.2.2.2.2.1 _ Ca (by show 1 < x.dim;omega);have hp:=(q2f hf).1;have dV:0 < x.s.length:=by have h1:x.cl.dim=x.dim:=rfl;have h2:x.cl.s.length=x.s.length:=rfl;omega
      have af:Calls Tryz.prog 157 #[.slice ma n mc,x.v] wr fun e w'=>e = .returned (.int .i64 0)/\Below wr.heap.size wr w' :=
       qjm _ M x wr (H2.out.2.2.2.2.2.1.q8 HB.out) (by have:=H1.out.2.1;omega) H2.out.2.2.1 ((H2.out.2.2.2.2.2.1.q8 HB.out).2 x fK) (by rw[H2.out.2.2.2.2.1];exact hf) (by rw[H2.out.2.2.2.2.1];exact ha) (fun y hy=>HH.out.2.2.1.sg _ (H2.out.2.2.2.2.2.2.2.1 y hy)) (fun y hy=>HH.out.2.2.1.few _ (H2.out.2.2.2.2.2.2.2.1 y hy)) dV
      unfold Ce.v at af;have HC:=lhd af;subst aT;clear hx fK Ca hf ha hp dV af;go_wp2_with fail;refine HC.out.mono ?_;rintro e w4 ⟨rfl,aM⟩;have H4:=lhd ((btr HB.out aM));clear aM;go_wp2_with fail;go_roundw
      case measure=>simp[vI];omega
      case rel=>exact⟨k+1,qh (by omega),by omega,(show Hid _ from H4.out)⟩
    ·go_wp2_with fail;go_ret2;exact⟨rfl,(btr H2.out.2.2.2.2.2.2.2.2 HB.out)⟩
end Go.Proofs.YtlhicnfeajejhaaGreatDoor
