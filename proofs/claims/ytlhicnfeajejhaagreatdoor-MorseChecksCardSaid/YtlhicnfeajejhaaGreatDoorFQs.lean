/- Steps towards MorseChecks. Conditions: none. -/
import Derived.Test.YtlhicnfeajejhaaGreatDoorFQr
set_option maxRecDepth 1000000
set_option maxHeartbeats 16000000
namespace Go.Cx
open Go.RowKit
def tK (l:List Ce):Int->Option Cl:=fun c=>(l.map Ce.cl).find? fun y=>y.id == c
theorem FR.form {w:World} {base:Nat} {t:TypeId} {R:List (Value×List Int)} (h:FR w base t R) {i:Nat} {v:Value} {L:List Int} (hi:R[i]? = some (v,L)) (hL:0 < L.length):∃ g c,v = .slice (some ⟨g,0,none⟩) L.length c/\base<=g/\g < w.heap.size/\(∀ (j:Nat) (z:Int),L[j]? = some z->w.cell? ⟨g,j,none⟩=some (.int .i64 z)/\w.frozen? ⟨g,j,none⟩=false)/\L.length<=c/\c<=Go.maxLen:=by
 have hr:=h.at hi;obtain⟨g,c,rfl,h1,h2⟩:=hr.form hL;obtain⟨h3,h4,_⟩:=(Sl.qc hr).open;refine⟨g,c,rfl,h1,h2,fun j z hj=>⟨?_,hr.frozenAt j⟩,h3,h4⟩;have:=hr.cellAt j (by rw[gK];exact(gc.1 hj).1);rw[this];simp[ints,hj]
theorem FR.len {w:World} {base:Nat} {t:TypeId} {R:List (Value×List Int)} (h:FR w base t R) {i:Nat} {v:Value} {L:List Int} (hi:R[i]? = some (v,L)):∃ a c,v = .slice a L.length c/\L.length<=c/\c<=Go.maxLen:=by
 obtain⟨a,c,rfl⟩:=qj (h.at hi);obtain⟨h3,h4,_⟩:=(Sl.qc (h.at hi)).open;exact⟨a,c,rfl,h3,h4⟩
theorem FR.qm9 {w w1:World} {base y:Nat} {t:TypeId} {R:List (Value×List Int)} (h:FR w base t R) {i:Nat} {v:Value} {L:List Int} (hi:R[i]? = some (v,L)) {g c:Nat} {x:Int}
  (hr:w1.ownsRow base t 1 (.slice (some ⟨g,0,none⟩) (L.length+1) c) (L.length+1) (ints L++[.int .i64 x])) (hg:(w.alloc (.cells [Value.int .i64 x].toArray t)).grownBy w1 v.ownBlock) (hl:v.ownBlock=some g\/g=w.heap.size+1) (vG:AV R y) (hy:y < w.heap.size) :
  FR w1 base t (R.set i (.slice (some ⟨g,0,none⟩) (L.length+1) c,L++[x]))/\AV (R.set i (.slice (some ⟨g,0,none⟩) (L.length+1) c,L++[x])) y/\(∀ j u,w.cell? ⟨y,j,none⟩=some u->w1.cell? ⟨y,j,none⟩=some u)/\y < w1.heap.size:=by
 have cB:w1.ownsRow base t 1 (.slice (some ⟨g,0,none⟩) (L.length+1) c) (L++[x]).length (ints (L++[x])):=by
  rw[j3,gl];exact hr
 refine⟨(h.q8 ((Below.refl _ w).alloc (nlr _) _)).app hi cB hg (hl.imp_right fun e=>by rw[World.size_alloc];exact e),vG.set i fun e=>?_,fun j u hu=>ql hg (Cx.q8 ((Below.refl _ w).alloc (nlr _) _) hu) fun b hb e=>vG _ (gd hi) (by rw[hb,<-e]),by have:=hg.size;rw[World.size_alloc] at this;omega⟩;have e:g=y:=by injection e
 subst e;rcases hl with hl | hl
 ·exact vG _ (gd hi) hl
 ·omega
theorem FR.cell {w:World} {base:Nat} {t:TypeId} {R:List (Value×List Int)} (h:FR w base t R) {i g n c j:Nat} {L:List Int} {z:Int} (hi:R[i]? = some (.slice (some ⟨g,0,none⟩) n c,L)) (hn:n=L.length) (hz:L[j]? = some z):w.cell? ⟨g,j,none⟩=some (.int .i64 z)/\w.frozen? ⟨g,j,none⟩=false:=by
 subst hn;have hr:=h.at hi;refine⟨?_,hr.frozenAt j⟩;rw[hr.cellAt j (by rw[gK];exact(gc.1 hz).1)];simp[ints,hz]
theorem qg4 (n:Nat):(madeCells #[.int .i64 0] n).toList=ints (List.replicate n 0):=by
 refine List.ext_getElem? fun i=>?_
 by_cases h:i < n
 ·have:=Go.Proofs.YtlhicnfeajejhaaGreatDoor.qi6 (.int .i64 0) n i h;rw[<-Array.getElem?_toList] at this;rw[this];simp[ints,h]
 ·rw[List.getElem?_eq_none (by rw[bi,size_madeCells];omega),List.getElem?_eq_none (by simp[ints];omega)]
end Go.Cx
namespace Go.Proofs.YtlhicnfeajejhaaGreatDoor
open Go.RowKit Go.Cx
attribute [local go_sem ↓] Go.wp_at_zero Go.wp_at_succ
theorem qjm (v:Value) (l:List Ce) (x:Ce) (w:World) (h:SlC w v l) (hl:l.length<=1000000) (eF:l.Pairwise fun x y=>x.id < y.id) (hs:Sl w 2 x.sl (cat Sd.enc x.s)) (hE:xx (tK l) x.cl=0) (hA:xv (tK l) x.cl=0) (cr:∀ y∈l,∀ s∈y.s,s.g=1\/s.g = -1) (hlen:∀ y∈l,y.s.length<=64) (cG:0 < x.s.length) :
  Calls Tryz.prog 157 #[v,x.v] w fun e w'=>e = .returned (.int .i64 0)/\Below w.heap.size w w':=by
 obtain⟨la,ln,lc,rfl⟩:=qg h.1;have fS:l.length=ln:=by
  obtain⟨_,_,h3,_⟩:=h.1.open;rw[qt Ce.qp] at h3;omega
 unfold Ce.sl at hs;obtain⟨h1,h2,h3,h4,h5⟩:=hs.open;rw[qt Sd.qp] at h3;have dx:x.s.length=x.n:=by omega
 unfold maxLen at h2;unfold Ce.v;obtain⟨q1,q2,_⟩:=q2f hE;have dE:=q2u hE;obtain⟨xn,eL⟩ : ∃ xn,xn=x.n:=⟨_,rfl⟩
 have dx:x.s.length=xn:=by omega
 have P2:xn<=64:=by
  have:x.cl.s.length=xn:=dx;omega
 rw[dx] at cG;rw[<-eL];rw[<-eL] at hs h1;obtain⟨xd,uu⟩ : ∃ xd,x.a=some xd:=by
  cases ha:x.a with
  | none=>have:=h4 ha;omega
  | some ad=>exact⟨ad,rfl⟩
 rw[uu] at hs ⊢;obtain⟨W,hW⟩ : ∃ W,W=w.alloc (.cells #[.int .i64 x.id,.int .i64 x.dim,.slice (some xd) xn x.c] 75):=⟨_,rfl⟩
 have aK:Below w.heap.size w W:=by rw[hW];exact(Below.refl _ w).alloc (nlr _) _
 have k2:W.cell? ⟨w.heap.size,2,none⟩=some (.slice (some xd) xn x.c):=by rw[hW];exact qd w _ _ (0,0) 2
 have hT:∀ c y,tK l c=some y->y.s.length<=64/\∀ s∈y.s,s.g=1\/s.g = -1:=fun c y hy=>by
  obtain⟨z,hz,rfl⟩:=go.1 (gT hy);exact⟨hlen z hz,cr z hz⟩
 have side:∀ i,i < xn->∃ (s:Sd) (j:Nat) (y:Ce),x.s[i]? = some s/\l[j]? = some y/\y.id=s.c/\tK l s.c=some y.cl/\(s.g=1\/s.g = -1):=fun i hi=>by
  obtain⟨s,hs⟩ : ∃ s,x.s[i]? = some s:=⟨_,g8 (by rw[dx];exact hi)⟩
  obtain⟨⟨y,hy,_⟩,_⟩:=qjj (T:=tK l) (x:=x.cl) hs (dE i (by show i < x.s.length;omega));obtain⟨z,hz,rfl⟩:=go.1 (gT hy);obtain⟨j,hj⟩:=gY hz;exact⟨s,j,z,hs,hj,by simpa [Ce.cl] using List.find?_some hy,hy,q2 s (gd hs)⟩
 have HX:=lhd (aiq (h.q8 aK) (aiq (hs.q8 aK) (aiq eF (aiq dx (aiq hT (aiq side (aiq hA (aiq fS (aiq q2 (aiq aK k2))))))))));have qQ:W.heap.size=w.heap.size+1:=by rw[hW];simp
 have iy:=qp7 xn (by omega) W;have EV:=lhd iy;have WW:=lhd qQ;have fp:=lhd (show ln<=1000000 by omega);clear h3 h4 h5 hs eF dE q1 q2 eL dx fS h aK hl hA hE cr hlen hT side uu qQ;go_enter Tryz.func157,Tryz.ntmps157;go_upto_region 4 with fail;rw[<-hW];clear hW;go_wp2_with fail;obtain⟨U,hU⟩ : ∃ U,U=(W.alloc (.cells (madeCells #[.int .i64 0] xn) 3)).alloc (.cells #[] 3):=⟨_,rfl⟩
 obtain⟨B,nH⟩ : ∃ B,B=W.heap.size:=⟨_,rfl⟩
 have P3:FR U B 3 [(.slice none 0 0,[]),(.slice none 0 0,[]),(.slice none 0 0,[]),(.slice (some ⟨B,0,none⟩) xn xn,List.replicate xn 0),(.slice (some ⟨B+1,0,none⟩) 0 0,[])]:=by
  have hp:U.ownsRow B 3 1 (.slice (some ⟨B,0,none⟩) xn xn) (List.replicate xn (0:Int)).length (ints (List.replicate xn 0)):=by
   rw[hU,nH,<-qg4,List.length_replicate];exact(World.ownsRow_lit W _ xn (nlr _) (by unfold maxLen;omega) (by rw[size_madeCells,gK])).alloc _
  have hf:U.ownsRow B 3 1 (.slice (some ⟨B+1,0,none⟩) 0 0) ([] : List Int).length (ints []):=by
   have:=zj (W.alloc (.cells (madeCells #[.int .i64 0] xn) 3)) 3 1;rw[World.size_alloc,<-nH,<-hU] at this;exact qf this (by omega)
  have hn:U.ownsRow B 3 1 (.slice none 0 0) ([] : List Int).length (ints []):=World.ownsRow_nil _ _ _ _;refine(((((FR.nil U B 3).cons hf (fun b hb p hp=>(by cases hp))).cons hp (fun b hb p hp=>?_)).cons hn (fun b hb=>(by cases hb))).cons hn (fun b hb=>(by cases hb))).cons hn (fun b hb=>(by cases hb));simp at hp;subst hp;have:B=b:=by injection hb
  subst this;intro e;injection e with e
  have e:B+1=B:=e;omega
 have cW:Below B W U:=by rw[hU,nH];exact((Below.refl _ W).alloc (nlr _) _).alloc (by simp) _
 have HU:=lhd (aiq P3 cW);rw[<-nH,<-hU];have U3:(0:Int) < xn:=by omega
 have AG:=lhd nH;clear P3 cW hU nH;go_loopw [5,6,7,9,10] (fun p5 p6 p7 p9 KC wr=>∃ (i:Nat) (ids aC many cL part:List Int),KC = .int .i64 i/\i<=xn/\part.length=xn/\Hid (FR wr B 3 [(p5,ids),(p6,aC),(p7,many),(.slice (some ⟨B,0,none⟩) xn xn,part),(p9,cL)]/\Sec i (oP (tK l) x.cl i 0) (fun _=>False) ids aC many cL part/\Below B W wr/\ids.length<=(oP (tK l) x.cl i 0).length)) (fun _ _ _ _ KC _=>xn - (vI KC).toNat)
 case atStart=>exact⟨0,[],[],[],[],List.replicate xn 0,rfl,gp _,by simp,(show Hid _ from⟨HU.out.1,by rw[qm6];exact Sec.start _ _,HU.out.2,gp _⟩)⟩
 case round =>
  obtain⟨i,ids,aC,many,cL,part,rfl,hi,cD,HI⟩:=hrel;obtain⟨a5,c5,rfl,BE,ri⟩:=HI.out.1.len (i:=0) rfl;obtain⟨a6,c6,rfl,P4,o6⟩:=HI.out.1.len (i:=1) rfl;obtain⟨a7,c7,rfl,ub,fL⟩:=HI.out.1.len (i:=2) rfl;obtain⟨a9,c9,rfl,P5,BV⟩:=HI.out.1.len (i:=4) rfl;unfold maxLen at ri o6 fL BV;have aK:Below W.heap.size W wr:=by rw[<-AG.out];exact HI.out.2.2.1
  have jS:wr.cell? ⟨w.heap.size,2,none⟩=some (.slice (some xd) xn x.c):=Cx.q8 aK HX.out.2.2.2.2.2.2.2.2.2.2;by_cases hlt:i < xn
  ·obtain⟨s,j0,y,hs,hj0,lT,hT,cr⟩:=HX.out.2.2.2.2.2.1 i hlt;have FM:wr.ownsRow B 3 1 (.slice (some ⟨B,0,none⟩) xn xn) xn (ints part):=zm (HI.out.1.at (i:=3) rfl) cD;obtain⟨p0,Ge⟩ : ∃ p0,part[i]? = some p0:=⟨_,g8 (by rw[cD];exact hlt)⟩
   have d0:wr.cell? ⟨B,i,none⟩=some (.int .i64 p0):=(FM.cellAt i (by omega)).trans (by simp[ints,Ge]);have z0:=FM.frozenAt i;have Nr:(i:Int) < xn:=by omega
   obtain⟨e0,e1⟩:=zw x.s i s hs;obtain⟨_,_,_,_,h6⟩:=HX.out.2.1.open;have P6:=h6 xd rfl _ _ e0;have P7:W.cell? ⟨(xd.add (i*2)).block,(xd.add (i*2)).off+1,none⟩=some (.int .i64 s.g):=by rw[qi _ _ _ (by omega)];exact h6 xd rfl _ _ e1
   have fS:=HX.out.2.2.2.2.2.2.2.1;have U4:j0 < ln:=by have:=(gc.1 hj0).1;omega
   obtain⟨m2,m3,_,m5,m6⟩:=HX.out.1.1.open;unfold maxLen at m3;obtain⟨ld,hld⟩ : ∃ ad,la=some ad:=by
    cases la with
    | none=>have:=m5 rfl;omega
    | some ad=>exact⟨ad,rfl⟩
   obtain⟨e2,e3,e4⟩:=zh l j0 y hj0;have y0:=m6 ld hld _ _ e2;have y1:W.cell? ⟨(ld.add (j0*3)).block,(ld.add (j0*3)).off+1,none⟩=some (.int .i64 y.dim):=by rw[qi _ _ _ (by omega)];exact m6 ld hld _ _ e3
   have y2:W.cell? ⟨(ld.add (j0*3)).block,(ld.add (j0*3)).off+2,none⟩=some (.slice y.a y.n y.c):=by rw[qi _ _ _ (by omega)];exact m6 ld hld _ _ e4
   have P8:=HX.out.1.2 y (gd hj0);have WX:(j0:Int) < ln:=by omega
   have HY:=lhd (aiq hs (aiq hj0 (aiq lT (aiq hT (aiq cr (aiq P8 (aiq FM hld)))))));have DU:=lhd (aiq P6 (aiq P7 (aiq y0 (aiq y1 y2))));subst hld;clear hs hj0 hT cr e0 e1 e2 e3 e4 h6 m5 m6 P8 FM Ge P6 P7 y0 y1 y2 fS;go_upto_region 10 with fail;obtain⟨V1,Am⟩ : ∃ V1,V1=wr.setCell ⟨B,i,none⟩ (.int .i64 i):=⟨_,rfl⟩
   rw[<-Am];have al:Below B W V1:=by rw[Am];exact HI.out.2.2.1.setCell (nlr _) _
   have iB:Below W.heap.size W V1:=by rw[<-AG.out];exact al
   have f1:FR V1 B 3 [(.slice a5 ids.length c5,ids),(.slice a6 aC.length c6,aC),(.slice a7 many.length c7,many),(.slice (some ⟨B,0,none⟩) xn xn,part.set i (i:Int)),(.slice a9 cL.length c9,cL)]:=by
    rw[Am];exact HI.out.1.put (i:=3) rfl cD.symm i (i:Int)
   have U5:=Cx.q8 iB HX.out.2.2.2.2.2.2.2.2.2.2;have s0:=Cx.q8 iB DU.out.1;have ae:=qnm _ l j0 y V1 (HX.out.1.1.q8 iB) (by have h1:=HX.out.2.2.2.2.2.2.2.1;have h2:=fp.out;omega) HX.out.2.2.1 HY.out.2.1;rw[lT] at ae;have H1:=lhd (aiq al (aiq iB (aiq f1 ae)));clear Am al iB f1 ae d0 z0 jS aK lT;go_wp2_with fail;refine H1.out.2.2.2.mono ?_;rintro e w2 ⟨rfl,ag⟩;have aw:Below W.heap.size W w2:=H1.out.2.1.trans (ag.mono H1.out.2.1.size);have c0:=Cx.q8 aw DU.out.2.2.1;have c1:=Cx.q8 aw DU.out.2.2.2.1;have c2:=Cx.q8 aw DU.out.2.2.2.2;have H2:=lhd (aiq ag aw);clear ag aw s0 U5;go_wp2_with fail;obtain⟨W3,i6⟩ : ∃ W3,W3=w2.alloc (.cells #[.int .i64 y.id,.int .i64 y.dim,.slice y.a y.n y.c] 75):=⟨_,rfl⟩
   obtain⟨yb,vP⟩ : ∃ yb,yb=w2.heap.size:=⟨_,rfl⟩
   have ct:Below w2.heap.size w2 W3:=by rw[i6];exact(Below.refl _ w2).alloc (nlr _) _
   have ti:W3.cell? ⟨yb,2,none⟩=some (.slice y.a y.n y.c):=by rw[i6,vP];exact qd w2 _ _ (0,0) 2
   have f2:=H1.out.2.2.1.q8 H2.out.1;have f3:=f2.q8 ct;have vG:AV [(.slice a5 ids.length c5,ids),(.slice a6 aC.length c6,aC),(.slice a7 many.length c7,many),(.slice (some ⟨B,0,none⟩) xn xn,part.set i (i:Int)),(.slice a9 cL.length c9,cL)] yb:=fun p hp e=>by
    have:=((f2.row p hp).lt yb e).2;omega
   have Ai:y.s.length=y.n:=by
    obtain⟨_,_,h3,_⟩:=(show Sl W 2 (.slice y.a y.n y.c) _ from HY.out.2.2.2.2.2.1).open;rw[qt Sd.qp] at h3;omega
   have P9:y.n<=64:=by
    have:=(HX.out.2.2.2.2.1 _ _ HY.out.2.2.2.1).1;have:y.s.length<=64:=this;omega
   have aB:Below B W W3:=by
    have:=H2.out.2.trans (ct.mono H2.out.2.size);rw[AG.out];exact this
   have PA:yb < W3.heap.size:=by rw[i6,vP];simp
   have GS:B < yb:=by
    have:=((f2.at (i:=3) rfl).lt B rfl).2;omega
   have H3:=lhd (aiq f3 (aiq vG (aiq Ai (aiq aB (aiq PA (aiq ti (HI.out.2.1.up (i:Int))))))));have KD:(part.set i (i:Int)).length=xn:=by rw[List.length_set];exact cD
   rw[<-vP,<-i6];clear c0 c1 c2 ct ti f2 f3 vG Ai aB PA i6 vP;go_loopw [5,6,7,9,12] (fun p5 p6 p7 p9 KE wr=>∃ (j:Nat) (ids aC many cL part:List Int),KE = .int .i64 j/\j<=y.n/\part.length=xn/\Hid (FR wr B 3 [(p5,ids),(p6,aC),(p7,many),(.slice (some ⟨B,0,none⟩) xn xn,part),(p9,cL)]/\Sec (i+1) (oP (tK l) x.cl i j) (fun _=>False) ids aC many cL part/\AV [(p5,ids),(p6,aC),(p7,many),(.slice (some ⟨B,0,none⟩) xn xn,part),(p9,cL)] yb/\wr.cell? ⟨yb,2,none⟩=some (.slice y.a y.n y.c)/\Below B W wr/\yb < wr.heap.size/\ids.length<=(oP (tK l) x.cl i j).length)) (fun _ _ _ _ KE _=>y.n - (vI KE).toNat)
   case atStart=>exact⟨0,ids,aC,many,cL,part.set i (i:Int),rfl,gp _,KD,(show Hid _ from⟨H3.out.1,H3.out.2.2.2.2.2.2,H3.out.2.1,H3.out.2.2.2.2.2.1,H3.out.2.2.2.1,H3.out.2.2.2.2.1,HI.out.2.2.2⟩)⟩
   case round =>
    clear cD BE ri P4 o6 ub fL P5 BV;obtain⟨j,ids,aC,many,cL,part,rfl,hj,cD,HJ⟩:=hrel;obtain⟨a5,c5,rfl,BE,ri⟩:=HJ.out.1.len (i:=0) rfl;obtain⟨a6,c6,rfl,P4,o6⟩:=HJ.out.1.len (i:=1) rfl;obtain⟨a7,c7,rfl,ub,fL⟩:=HJ.out.1.len (i:=2) rfl;obtain⟨a9,c9,rfl,P5,BV⟩:=HJ.out.1.len (i:=4) rfl;unfold maxLen at ri o6 fL BV;have ti:=HJ.out.2.2.2.1;by_cases tM:j < y.n
    ·obtain⟨r,hr⟩ : ∃ r,y.s[j]? = some r:=⟨_,g8 (by rw[H3.out.2.2.1];exact tM)⟩
     obtain⟨_,_,_,h5,h6⟩:=(show Sl W 2 (.slice y.a y.n y.c) _ from HY.out.2.2.2.2.2.1).open;obtain⟨yd,jJ⟩ : ∃ ad,y.a=some ad:=by
      cases ha:y.a with
      | none=>have:=h5 ha;omega
      | some ad=>exact⟨ad,rfl⟩
     obtain⟨e0,e1⟩:=zw y.s j r hr;have PB:=h6 yd jJ _ _ e0;have PC:W.cell? ⟨(yd.add (j*2)).block,(yd.add (j*2)).off+1,none⟩=some (.int .i64 r.g):=by rw[qi _ _ _ (by omega)];exact h6 yd jJ _ _ e1
     have fH:=(HX.out.2.2.2.2.1 _ _ HY.out.2.2.2.1).2 r (gd hr);have oZ:∀ U,Below B W U->U.cell? ⟨w.heap.size,2,none⟩=some (.slice (some xd) xn x.c)/\U.cell? ⟨(xd.add (i*2)).block,(xd.add (i*2)).off+1,none⟩=some (.int .i64 s.g)/\U.cell? (yd.add (j*2))=some (.int .i64 r.c)/\U.cell? ⟨(yd.add (j*2)).block,(yd.add (j*2)).off+1,none⟩=some (.int .i64 r.g):=fun U hU=>by
      have qR:Below W.heap.size W U:=by rw[<-AG.out];exact hU
      exact⟨Cx.q8 qR HX.out.2.2.2.2.2.2.2.2.2.2,Cx.q8 qR DU.out.2.1,Cx.q8 qR PB,Cx.q8 qR PC⟩
     rw[jJ] at ti;have KF:(j:Int) < y.n:=by omega
     have HR:=lhd (aiq hr (aiq fH (aiq oZ jJ)));obtain⟨wo,db⟩ : ∃ wo,wo=wr:=⟨_,rfl⟩
     subst db;clear hr jJ e0 e1 h5 h6 PB PC fH oZ;go_wp2_with fail;go_loopw [13] (fun p wr=>∃ k:Nat,p = .int .i64 k/\k<=ids.length/\Hid ((∀ j',j' < k->ids[j']?≠some r.c)/\Below wo.heap.size wo wr)) (fun p _=>ids.length - (vI p).toNat)
     case atStart=>exact⟨0,rfl,gp _,(show Hid _ from⟨fun j' h=>by omega,Below.refl _ _⟩)⟩
     case round =>
      obtain⟨k,rfl,hk,HK⟩:=hrel;have aL:Below B W wr:=HJ.out.2.2.2.2.1.trans (HK.out.2.mono (gn (by have:=AG.out;omega) HJ.out.2.2.2.2.1.size));have yk:=Cx.q8 HK.out.2 ti;have PD:=(HR.out.2.2.1 wr aL).2.2.1;have FO:=lhd aL;by_cases rD:∃ z,ids[k]? = some z/\z≠r.c
      ·obtain⟨z,hz,zC⟩:=rD;have aR:=(gc.1 hz).1;obtain⟨g5,q5,ij,_,_,bK,_⟩:=(HJ.out.1.q8 HK.out.2).form (i:=0) rfl (by omega);have iS:a5=some ⟨g5,0,none⟩:=by injection ij
       subst iS;have dz:=(bK k z hz).1;have hb:(z != r.c)=true:=by simpa using zC
       have kR:decide ((k:Int) < (ids.length:Int))=true:=by simpa using aR
       have om:(k:Int) < ids.length:=by omega
       have HZ:=lhd (aiq hz zC);clear hz zC bK ij aL;go_wp2_with fail
       go_quiet (fail)
       go_wp2_with fail;go_roundw
       case measure=>simp[vI];omega
       case rel =>
        refine⟨k+1,qh (by omega),by omega,(show Hid _ from⟨fun j' h=>?_,qb HK.out.2 _⟩)⟩;rcases gL j' k with h2 | h2
        ·exact HK.out.1 j' h2
        ·rw[show j'=k by omega,HZ.out.1];exact fun e=>HZ.out.2 (osi e)
      ·have AA:=qoo (T:=tK l) (x:=x.cl) (i:=i) (j:=j) (by have:=HX.out.2.2.2.1;show x.s.length<=64;omega) (fun c y hy=>(HX.out.2.2.2.2.1 c y hy).1) (by have:=HX.out.2.2.2.1;show i<=x.s.length;omega) (by omega);have tj:ids.length<=4160:=gn HJ.out.2.2.2.2.2.2 AA;have jT:k=ids.length->r.c ∉ ids:=fun he hm=>by
        obtain⟨j',mi⟩:=gY hm;exact HK.out.1 j' (by rw[he];exact(gc.1 mi).1) mi
       have qS:=HJ.out.2.1;have vH:=lhd (aiq AA (aiq tj (aiq jT qS)));have vJ:=lhd (show aC.length=ids.length/\many.length=ids.length/\cL.length=ids.length from⟨qS.l1,qS.l2,qS.l3⟩);clear AA tj jT qS;rcases gL k ids.length with aR | aR
       obtain⟨z,hz⟩ : ∃ z,ids[k]? = some z:=⟨_,g8 aR⟩
       have zC:z=r.c:=gR fun e=>rD ⟨z,hz,e⟩
       obtain⟨g5,q5,DV,_,_,bK,_⟩:=(HJ.out.1.q8 HK.out.2).form (i:=0) rfl (by omega);obtain⟨g6,q6,DZ,_⟩:=(HJ.out.1.q8 HK.out.2).form (i:=1) rfl (by have:=vJ.out;omega);obtain⟨g7,q7,Ea,_⟩:=(HJ.out.1.q8 HK.out.2).form (i:=2) rfl (by have:=vJ.out;omega);obtain⟨g9,q9,Eb,_⟩:=(HJ.out.1.q8 HK.out.2).form (i:=4) rfl (by have:=vJ.out;omega);have iS:a5=some ⟨g5,0,none⟩:=by injection DV
       have qT:a6=some ⟨g6,0,none⟩:=by injection DZ
       have KG:a7=some ⟨g7,0,none⟩:=by injection Ea
       have KH:a9=some ⟨g9,0,none⟩:=by injection Eb
       subst iS qT KG KH;have dz:=(bK k z hz).1;have hb:(z != r.c)=false:=by simpa using zC
       have kR:decide ((k:Int) < (ids.length:Int))=true:=by simpa using aR
       have om:(k:Int) < ids.length:=by omega
       have bJ:((k:Int) == (ids.length:Int))=false:=by simp;omega
       have HZ:=lhd (aiq hz zC);clear hz zC bK DV DZ Ea Eb aL rD;go_wp2_with fail
       go_quiet (fail)
       go_upto_region 22 with fail;obtain⟨wz,qQ⟩ : ∃ wz,wz=wr.drewN nq:=⟨_,rfl⟩
       have tk:Below wo.heap.size wo wz:=by rw[qQ];exact qb HK.out.2 _
       have oo:Below B W wz:=by rw[qQ];exact qb FO.out _
       rw[<-qQ];obtain⟨n5,zD⟩ : ∃ n,n=ids.length:=⟨_,rfl⟩
       obtain⟨n6,zF⟩ : ∃ n,n=aC.length:=⟨_,rfl⟩
       obtain⟨n7,zG⟩ : ∃ n,n=many.length:=⟨_,rfl⟩
       obtain⟨n9,qN⟩ : ∃ n,n=cL.length:=⟨_,rfl⟩
       have FP:=lhd (show k < n5/\n6=n5/\n7=n5/\n9=n5 by have:=vJ.out;omega);obtain⟨cN,bN,bP,dp,HT⟩ : ∃ cN bN bP dp:List Int,Hid (FR wz B 3 [(.slice (some ⟨g5,0,none⟩) n5 c5,cN),(.slice (some ⟨g6,0,none⟩) n6 c6,bN),(.slice (some ⟨g7,0,none⟩) n7 c7,bP),(.slice (some ⟨B,0,none⟩) xn xn,part),(.slice (some ⟨g9,0,none⟩) n9 c9,dp)]/\Sec (i+1) (oP (tK l) x.cl i j) (fun d=>d=r.c) cN bN bP dp part/\cN[k]? = some r.c/\AV [(.slice (some ⟨g5,0,none⟩) n5 c5,cN),(.slice (some ⟨g6,0,none⟩) n6 c6,bN),(.slice (some ⟨g7,0,none⟩) n7 c7,bP),(.slice (some ⟨B,0,none⟩) xn xn,part),(.slice (some ⟨g9,0,none⟩) n9 c9,dp)] yb/\Below B W wz/\yb < wz.heap.size/\wz.cell? ⟨yb,2,none⟩=some (.slice (some yd) y.n y.c)/\cN.length<=(oP (tK l) x.cl i j).length+1/\n6=bN.length/\n7=bP.length/\n9=dp.length/\(oP (tK l) x.cl i j).length<=4160):=by
        refine⟨ids,aC,many,cL,(show Hid _ from ?_)⟩;rw[zD,zF,zG,qN];exact⟨HJ.out.1.q8 tk,vH.out.2.2.2.mono (fun c h=>h.elim),by rw[HZ.out.1,HZ.out.2],HJ.out.2.2.1,oo,gZ HJ.out.2.2.2.2.2.1 tk.size,Cx.q8 tk ti,by have:=HJ.out.2.2.2.2.2.2;omega,rfl,rfl,rfl,vH.out.1⟩
       rw[<-zD,<-zF,<-zG,<-qN];clear qQ tk oo zD zF zG qN dz hb bJ kR om aR hk yk PD HZ vH HK ti FO;rotate_left;have dr:k=ids.length:=by omega
       have xS:=lhd (show ((k:Int) == (ids.length:Int))=true by simp[dr]);have kR:decide ((k:Int) < (ids.length:Int))=false:=by simp[dr]
       have KI:decide (k < ids.length)=false:=by simp[dr]
       have Ec:=vH.out.2.2.1 dr;have tj:=vH.out.2.1;have sL:=lhd (aiq dr Ec);clear dr Ec rD aL aR hk;go_wp2_with fail
       go_quiet (fail)
       have bJ:=xS.out;go_upto_region 18 with fail;obtain⟨V,hV⟩ : ∃ V,V=wr.drewN nq:=⟨_,rfl⟩
       have tk:Below wo.heap.size wo V:=by rw[hV];exact qb HK.out.2 _
       have oo:Below B W V:=by rw[hV];exact qb FO.out _
       rw[<-hV];have yV:=Cx.q8 tk ti;have U6:=(HR.out.2.2.1 V oo).2.2.1;have hF:=HJ.out.1.q8 tk;have PE:yb < V.heap.size:=gZ HJ.out.2.2.2.2.2.1 tk.size;have aD:B<=V.heap.size:=by omega
       have HF:=lhd (aiq hF (aiq HJ.out.2.2.1 (aiq oo yV)));clear hF hV tk oo yk PD ti;go_wp2_with (at_builtin;refine q0p (W:=V) rfl _ _ 22 rfl B 3 Tryz.xg Tryz.underlying22 rfl (by decide) (by decide) _ _ _ rfl (HF.out.1.at (i:=0) rfl) [.int .i64 r.c] rfl rfl (q5v _) (by omega) (Below.refl _ _) aD ?_);intro g5 c5 w5 cH ed PF aT;have h5:=HF.out.1.qm9 (i:=0) rfl cH ed PF HF.out.2.1 PE;have Ed:B<=w5.heap.size:=by have:=h5.2.2.2;omega
       have H5:=lhd (aiq h5 (aiq aT (h5.2.2.1 2 _ HF.out.2.2.2)));clear cH ed PF aT h5 aD PE yV U6;go_wp2_with (at_builtin;refine q0p (W:=w5) rfl _ _ 22 rfl B 3 Tryz.xg Tryz.underlying22 rfl (by decide) (by decide) _ _ _ rfl (H5.out.1.1.at (i:=1) rfl) [.int .i64 0] rfl rfl (q5v _) (by have:=vJ.out;omega) (Below.refl _ _) Ed ?_);intro g6 c6 w6 dB uw PG fJ;have h6:=H5.out.1.1.qm9 (i:=1) rfl dB uw PG H5.out.1.2.1 H5.out.1.2.2.2;have Ee:B<=w6.heap.size:=by have:=h6.2.2.2;omega
       have H6:=lhd (aiq h6 (aiq (H5.out.2.1.trans fJ) (h6.2.2.1 2 _ H5.out.2.2)));clear dB uw PG fJ h6 Ed;go_wp2_with (at_builtin;refine q0p (W:=w6) rfl _ _ 22 rfl B 3 Tryz.xg Tryz.underlying22 rfl (by decide) (by decide) _ _ _ rfl (H6.out.1.1.at (i:=2) rfl) [.int .i64 0] rfl rfl (q5v _) (by have:=vJ.out;omega) (Below.refl _ _) Ee ?_);intro g7 c7 w7 mo de PH iH;have h7:=H6.out.1.1.qm9 (i:=2) rfl mo de PH H6.out.1.2.1 H6.out.1.2.2.2;have Ef:B<=w7.heap.size:=by have:=h7.2.2.2;omega
       have H7:=lhd (aiq h7 (aiq (H6.out.2.1.trans iH) (h7.2.2.1 2 _ H6.out.2.2)));clear mo de PH iH h7 Ee;go_wp2_with (at_builtin;refine q0p (W:=w7) rfl _ _ 22 rfl B 3 Tryz.xg Tryz.underlying22 rfl (by decide) (by decide) _ _ _ rfl (H7.out.1.1.at (i:=4) rfl) [.int .i64 i] rfl rfl (q5v _) (by have:=vJ.out;omega) (Below.refl _ _) Ef ?_);intro g9 c9 w9 pG FJ PI l9;have h9:=H7.out.1.1.qm9 (i:=4) rfl pG FJ PI H7.out.1.2.1 H7.out.1.2.2.2;have H9:=lhd (aiq h9 (aiq (H7.out.2.1.trans l9) (h9.2.2.1 2 _ H7.out.2.2)));clear pG FJ PI l9 h9 Ef;go_upto_region 22 with fail;obtain⟨wz,qQ⟩ : ∃ wz,wz=w9:=⟨_,rfl⟩
       obtain⟨n5,zD⟩ : ∃ n,n=ids.length+1:=⟨_,rfl⟩
       obtain⟨n6,zF⟩ : ∃ n,n=aC.length+1:=⟨_,rfl⟩
       obtain⟨n7,zG⟩ : ∃ n,n=many.length+1:=⟨_,rfl⟩
       obtain⟨n9,qN⟩ : ∃ n,n=cL.length+1:=⟨_,rfl⟩
       have FP:=lhd (show k < n5/\n6=n5/\n7=n5/\n9=n5 by have:=sL.out.1;have:=vJ.out;omega);obtain⟨cN,bN,bP,dp,HT⟩ : ∃ cN bN bP dp:List Int,Hid (FR wz B 3 [(.slice (some ⟨g5,0,none⟩) n5 c5,cN),(.slice (some ⟨g6,0,none⟩) n6 c6,bN),(.slice (some ⟨g7,0,none⟩) n7 c7,bP),(.slice (some ⟨B,0,none⟩) xn xn,part),(.slice (some ⟨g9,0,none⟩) n9 c9,dp)]/\Sec (i+1) (oP (tK l) x.cl i j) (fun d=>d=r.c) cN bN bP dp part/\cN[k]? = some r.c/\AV [(.slice (some ⟨g5,0,none⟩) n5 c5,cN),(.slice (some ⟨g6,0,none⟩) n6 c6,bN),(.slice (some ⟨g7,0,none⟩) n7 c7,bP),(.slice (some ⟨B,0,none⟩) xn xn,part),(.slice (some ⟨g9,0,none⟩) n9 c9,dp)] yb/\Below B W wz/\yb < wz.heap.size/\wz.cell? ⟨yb,2,none⟩=some (.slice (some yd) y.n y.c)/\cN.length<=(oP (tK l) x.cl i j).length+1/\n6=bN.length/\n7=bP.length/\n9=dp.length/\(oP (tK l) x.cl i j).length<=4160):=by
        refine⟨ids++[r.c],aC++[0],many++[0],cL++[(i:Int)],(show Hid _ from ?_)⟩;rw[zD,zF,zG,qN,qQ];exact⟨H9.out.1.1,vH.out.2.2.2.new sL.out.2,by rw[sL.out.1,gO (nlr _),Nat.sub_self];rfl,H9.out.1.2.1,HF.out.2.2.1.trans H9.out.2.1,H9.out.1.2.2.2,H9.out.2.2,by have:=HJ.out.2.2.2.2.2.2;rw[gl];show ids.length+1<=_;omega,by simp,by simp,by simp,vH.out.1⟩
       rw[<-zD,<-zF,<-zG,<-qN,<-qQ];clear qQ zD zF zG qN bJ kR KI sL vH HK FO H5 H6 H7 H9 HF tj
       all_goals
        obtain⟨sv,oJ⟩ : ∃ sv,bN[k]? = some sv:=⟨_,(HT.out.2.1.sm k _ HT.out.2.2.1).1⟩
        obtain⟨mv,KJ⟩ : ∃ mv,bP[k]? = some mv:=⟨_,(HT.out.2.1.sm k _ HT.out.2.2.1).2⟩
        have BO:=qg2 (oP (tK l) x.cl i j) (qpq (T:=tK l) (x:=x.cl) (i:=i) (j:=j) HX.out.2.2.2.2.2.2.2.2.1 (fun c y hy=>(HX.out.2.2.2.2.1 c y hy).2)) r.c;have Eg:=osi (oJ.symm.trans (HT.out.2.1.sm k _ HT.out.2.2.1).1);have KL:=osi (KJ.symm.trans (HT.out.2.1.sm k _ HT.out.2.2.1).2);rw[<-Eg] at BO;have U7:=HT.out.2.2.2.2.2.2.2.2.2.2.2;obtain⟨q,eR,iF,_⟩:=HT.out.2.1.fr k _ HT.out.2.2.1;obtain⟨ov,PJ⟩ : ∃ ov,part[q]? = some ov:=⟨_,g8 (by omega)⟩
        obtain⟨nv,PK⟩ : ∃ nv,part[i]? = some nv:=⟨_,g8 (by omega)⟩
        have mP:s.g*r.g=1\/s.g*r.g = -1:=by
         have h2:=HR.out.2.1;have h1:=HY.out.2.2.2.2.1;rcases h1 with h1 | h1 <;> rcases h2 with h2 | h2 <;> rw[h1,h2] <;> simp
        have ly:IntKind.i64.wrap (s.g*r.g)=s.g*r.g:=IntWalk.i64_in _ (by omega);have WY:IntKind.i64.wrap (sv+s.g*r.g)=sv+s.g*r.g:=IntWalk.i64_in _ (by omega);have Aa:IntKind.i64.wrap (mv+1)=mv+1:=IntWalk.i64_in _ (by omega);have U8:(k:Int) < n6:=by have:=FP.out;omega
        have U9:(k:Int) < n7:=by have:=FP.out;omega
        have UA:(k:Int) < n9:=by have:=FP.out;omega
        have WZ:(q:Int) < xn:=by omega
        have HV:=lhd (aiq oJ (aiq KJ (aiq eR (aiq iF (aiq PJ PK)))));have d6:=HT.out.1.cell (i:=1) rfl HT.out.2.2.2.2.2.2.2.2.1 oJ;have d60:=d6.1;obtain⟨x2,xs,yr,yg⟩:=HR.out.2.2.1 wz HT.out.2.2.2.2.1;have y2:=HT.out.2.2.2.2.2.2.1;clear BO Eg KL U7 mP oJ KJ eR iF PJ PK d6 yr
        go_still_tail 20,(by kernel_rfl)
        change wpList _ _ _ _ _ wz.drew;have hD:Below wz.heap.size wz wz.drew:=qb (Below.refl _ wz) 1;obtain⟨U,hU⟩ : ∃ U,U=wz.drew:=⟨_,rfl⟩
        rw[<-hU] at hD ⊢;have KM:=HT.out.1.q8 hD;obtain⟨d60,d61⟩:=KM.cell (i:=1) rfl HT.out.2.2.2.2.2.2.2.2.1 HV.out.1
        replace x2:=Cx.q8 hD x2
        replace xs:=Cx.q8 hD xs
        replace yg:=Cx.q8 hD yg
        replace y2:=Cx.q8 hD y2
        have HD:=lhd (aiq hD KM);clear hU hD KM;go_upto_region 23 with fail;obtain⟨U1,AH⟩ : ∃ U1,U1=U.setCell ⟨g6,k,none⟩ (.int .i64 (sv+s.g*r.g)):=⟨_,rfl⟩
        rw[<-AH];have h6:yb≠g6:=fun e=>HT.out.2.2.2.1 _ (gd (i:=1) rfl) (congrArg some e.symm)
        have h7:yb≠g7:=fun e=>HT.out.2.2.2.1 _ (gd (i:=2) rfl) (congrArg some e.symm)
        have Dc:FR U1 B 3 [(.slice (some ⟨g5,0,none⟩) n5 c5,cN),(.slice (some ⟨g6,0,none⟩) n6 c6,bN.set k (sv+s.g*r.g)),(.slice (some ⟨g7,0,none⟩) n7 c7,bP),(.slice (some ⟨B,0,none⟩) xn xn,part),(.slice (some ⟨g9,0,none⟩) n9 c9,dp)]:=by
         rw[AH];exact HD.out.2.put (i:=1) rfl HT.out.2.2.2.2.2.2.2.2.1 k _
        have y3:U1.cell? ⟨yb,2,none⟩=some (.slice (some yd) y.n y.c):=by rw[AH];exact xe y2 h6
        obtain⟨d70,d71⟩:=Dc.cell (i:=2) rfl HT.out.2.2.2.2.2.2.2.2.2.1 HV.out.2.1;have cW:Below B W U:=HT.out.2.2.2.2.1.trans (HD.out.1.mono (by have:=HT.out.2.2.2.2.1.size;have:=AG.out;omega));have al:Below B W U1:=by rw[AH];exact cW.setCell (((HD.out.2.at (i:=1) rfl).lt g6 rfl).1) _
        have ep:yb < U1.heap.size:=by rw[AH];have:=HD.out.1.size;have:=HT.out.2.2.2.2.2.1;simp;omega
        have H1:=lhd (aiq Dc (aiq y3 (aiq al (aiq ep h7))));clear AH h6 h7 Dc cW al ep x2 xs yg y2 d60 d61 y3;go_upto_region 24 with fail;obtain⟨U2,qR⟩ : ∃ U2,U2=U1.setCell ⟨g7,k,none⟩ (.int .i64 (mv+1)):=⟨_,rfl⟩
        rw[<-qR];have dF:FR U2 B 3 [(.slice (some ⟨g5,0,none⟩) n5 c5,cN),(.slice (some ⟨g6,0,none⟩) n6 c6,bN.set k (sv+s.g*r.g)),(.slice (some ⟨g7,0,none⟩) n7 c7,bP.set k (mv+1)),(.slice (some ⟨B,0,none⟩) xn xn,part),(.slice (some ⟨g9,0,none⟩) n9 c9,dp)]:=by
         rw[qR];exact H1.out.1.put (i:=2) rfl HT.out.2.2.2.2.2.2.2.2.2.1 k _
        have y4:U2.cell? ⟨yb,2,none⟩=some (.slice (some yd) y.n y.c):=by rw[qR];exact xe H1.out.2.1 H1.out.2.2.2.2
        have aw:Below B W U2:=by rw[qR];exact H1.out.2.2.1.setCell (((H1.out.1.at (i:=2) rfl).lt g7 rfl).1) _
        have dh:yb < U2.heap.size:=by rw[qR];have:=H1.out.2.2.2.1;simpa using this
        have d9:=(dF.cell (i:=4) rfl HT.out.2.2.2.2.2.2.2.2.2.2.1 HV.out.2.2.2.1).1;have dq:=(dF.cell (i:=3) rfl cD.symm HV.out.2.2.2.2.1).1;have di:=(dF.cell (i:=3) rfl cD.symm HV.out.2.2.2.2.2).1;have H2:=lhd (aiq dF (aiq y4 (aiq aw dh)));clear qR dF aw dh y4 d70 d71;go_wp2_with fail;go_loopw [16] (fun p wr=>∃ m:Nat,p = .int .i64 m/\m<=i+1/\Hid (FR wr B 3 [(.slice (some ⟨g5,0,none⟩) n5 c5,cN),(.slice (some ⟨g6,0,none⟩) n6 c6,bN.set k (sv+s.g*r.g)),(.slice (some ⟨g7,0,none⟩) n7 c7,bP.set k (mv+1)),(.slice (some ⟨B,0,none⟩) xn xn,rlb part m ov nv),(.slice (some ⟨g9,0,none⟩) n9 c9,dp)]/\wr.cell? ⟨yb,2,none⟩=some (.slice (some yd) y.n y.c)/\Below B W wr/\yb < wr.heap.size)) (fun p _=>i+1 - (vI p).toNat)
        case atStart=>exact⟨0,rfl,gp _,(show Hid _ from by rw[qjd];exact H2.out)⟩
        case round =>
         obtain⟨m,rfl,hm,HM⟩:=hrel;by_cases eS:m < i+1
         ·obtain⟨vm,Eh⟩ : ∃ vm,part[m]? = some vm:=⟨_,g8 (by omega)⟩
          have zH:(rlb part m ov nv)[m]? = some vm:=by rw[q0w,Eh];simp
          have nf:xn=(rlb part m ov nv).length:=by rw[q9k];exact cD.symm
          obtain⟨dm,fm⟩:=HM.out.1.cell (i:=3) rfl nf zH;have IP:(m:Int)<=i:=by omega
          have lk:(m:Int) < xn:=by omega
          by_cases he:vm=nv
          ·have hb:(vm == nv)=true:=by simpa using he
           have HE:=lhd (aiq he (aiq Eh nf));clear he Eh zH nf d9 dq di;go_wp2_with fail;go_roundw
           case measure=>simp[vI];omega
           case rel =>
            have UB:yb≠B:=by omega
            refine⟨m+1,qh (by omega),by omega,(show Hid _ from⟨?_,xe HM.out.2.1 UB,HM.out.2.2.1.setCell (nlr _) _,by have:=HM.out.2.2.2;simpa using this⟩)⟩;rw[qm3 part m ov nv (by rw[HE.out.2.1,HE.out.1])];exact HM.out.1.put (i:=3) rfl HE.out.2.2 m ov
          ·have hb:(vm == nv)=false:=by simpa using he
           have HE:=lhd (aiq he Eh);clear he Eh zH nf d9 dq di;go_wp2_with fail;go_roundw
           case measure=>simp[vI];omega
           case rel=>exact⟨m+1,qh (by omega),by omega,(show Hid _ from by rw[qje part m ov nv vm HE.out.2 HE.out.1];exact HM.out)⟩
         ·have UC:m=i+1:=by omega
          subst UC;have IP:¬ ((i+1:Nat):Int)<=i:=by omega
          clear d9 dq di eS;go_wp2_with fail;go_roundw
          case measure=>simp[vI];omega
          case rel =>
           have vG:AV [(.slice (some ⟨g5,0,none⟩) n5 c5,cN),(.slice (some ⟨g6,0,none⟩) n6 c6,bN.set k (sv+s.g*r.g)),(.slice (some ⟨g7,0,none⟩) n7 c7,bP.set k (mv+1)),(.slice (some ⟨B,0,none⟩) xn xn,rlb part (i+1) ov nv),(.slice (some ⟨g9,0,none⟩) n9 c9,dp)] yb:=by
            intro p hp;simp only [List.mem_cons,List.not_mem_nil,or_false] at hp;rcases hp with rfl | rfl | rfl | rfl | rfl
            ·exact HT.out.2.2.2.1 (.slice (some ⟨g5,0,none⟩) n5 c5,cN) (by simp)
            ·exact HT.out.2.2.2.1 (.slice (some ⟨g6,0,none⟩) n6 c6,bN) (by simp)
            ·exact HT.out.2.2.2.1 (.slice (some ⟨g7,0,none⟩) n7 c7,bP) (by simp)
            ·exact HT.out.2.2.2.1 (.slice (some ⟨B,0,none⟩) xn xn,part) (by simp)
            ·exact HT.out.2.2.2.1 (.slice (some ⟨g9,0,none⟩) n9 c9,dp) (by simp)
           have ho:oP (tK l) x.cl i (j+1)=oP (tK l) x.cl i j++[(r.c,i,s.g*r.g)]:=qm4 (x:=x.cl) HY.out.1 HY.out.2.2.2.1 HR.out.1;refine⟨j+1,cN,bN.set k (sv+s.g*r.g),bP.set k (mv+1),dp,rlb part (i+1) ov nv,qh (by omega),by omega,by rw[q9k];exact cD,(show Hid _ from⟨HM.out.1,?_,vG,by rw[HR.out.2.2.2];exact HM.out.2.1,HM.out.2.2.1,HM.out.2.2.2,?_⟩)⟩
           ·rw[ho];exact HT.out.2.1.put (fun d h=>h) HT.out.2.2.1 HV.out.1 HV.out.2.1 HV.out.2.2.2.1 HV.out.2.2.2.2.1 HV.out.2.2.2.2.2
           ·rw[ho,gl];exact HT.out.2.2.2.2.2.2.2.1
    ·have cX:j=y.n:=by omega
     have Jg:=lhd cX;have KF:¬ (j:Int) < y.n:=by omega
     clear cX;go_wp2_with fail;go_roundw
     case measure=>simp[vI];omega
     case rel =>
      obtain⟨q1,q2,q3,q4,q5,q6,q7⟩:=HJ.out;have e:y.cl.s.length=j:=by show y.s.length=j;rw[Jg.out];exact H3.out.2.2.1
      have ho:oP (tK l) x.cl (i+1) 0=oP (tK l) x.cl i j:=by rw[<-qm5 (x:=x.cl) HY.out.1 HY.out.2.2.2.1,e]
      exact⟨i+1,ids,aC,many,cL,part,qh (by omega),by omega,cD,(show Hid _ from by rw[ho];exact⟨q1,q2,q5,q7⟩)⟩
  ·have dN:i=xn:=by omega
   subst dN;have hd:=HI.out.2.1;rw[show (oP (tK l) x.cl i 0)=occ (tK l) x.cl by rw[<-qon];congr 1;exact HX.out.2.2.2.1.symm] at hd;obtain⟨d1,d2,d3⟩:=hd.done HX.out.2.2.2.2.2.2.1;have HD:=lhd (aiq d1 (aiq d2 (aiq d3 hd)));have aF:=lhd aK;obtain⟨wo,db⟩ : ∃ wo,wo=wr:=⟨_,rfl⟩
   subst db;clear d1 d2 d3 hd aK;go_wp2_with fail;go_loopw [17] (fun p wr=>∃ k:Nat,p = .int .i64 k/\k<=aC.length/\Hid (Below wo.heap.size wo wr)) (fun p _=>aC.length - (vI p).toNat)
   case atStart=>exact⟨0,rfl,gp _,(show Hid _ from Below.refl _ _)⟩
   case round =>
    obtain⟨k,rfl,hk,HB⟩:=hrel;by_cases hlt:k < aC.length
    ·obtain⟨g,c,ij,_,_,bK,_⟩:=(HI.out.1.q8 HB.out).form (i:=1) rfl (by omega);have iS:a6=some ⟨g,0,none⟩:=by injection ij
     have qT:c6=c:=by injection ij
     subst iS qT;obtain⟨z,hz⟩ : ∃ z,aC[k]? = some z:=⟨_,g8 hlt⟩
     have bL:=HD.out.1 z (gd hz);subst bL;have d0:=(bK k 0 hz).1;have om:(k:Int) < aC.length:=by omega
     have iR:=lhd bK;clear bK hz ij;go_wp2_with fail;go_roundw
     case measure=>simp[vI];omega
     case rel=>exact⟨k+1,qh (by omega),by omega,HB⟩
    ·have om:¬ (k:Int) < aC.length:=by omega
     obtain⟨w5,Dt⟩ : ∃ w5,w5=wr:=⟨_,rfl⟩
     subst Dt;go_wp2_with fail;go_loopw [18] (fun p wr=>∃ k:Nat,p = .int .i64 k/\k<=many.length/\Hid (Below wo.heap.size wo wr)) (fun p _=>many.length - (vI p).toNat)
     case atStart=>exact⟨0,rfl,gp _,HB⟩
     case round =>
      obtain⟨k,rfl,hk,HB⟩:=hrel;by_cases hlt:k < many.length
      ·obtain⟨g,c,ij,_,_,bK,_⟩:=(HI.out.1.q8 HB.out).form (i:=2) rfl (by omega);have iS:a7=some ⟨g,0,none⟩:=by injection ij
       have qT:c7=c:=by injection ij
       subst iS qT;obtain⟨z,hz⟩ : ∃ z,many[k]? = some z:=⟨_,g8 hlt⟩
       have bL:=HD.out.2.1 z (gd hz);subst bL;have d0:=(bK k 2 hz).1;have om:(k:Int) < many.length:=by omega
       have iR:=lhd bK;clear bK hz ij;go_wp2_with fail;go_roundw
       case measure=>simp[vI];omega
       case rel=>exact⟨k+1,qh (by omega),by omega,HB⟩
      ·have om:¬ (k:Int) < many.length:=by omega
       obtain⟨w6,oA⟩ : ∃ w6,w6=wr:=⟨_,rfl⟩
       subst oA;go_wp2_with fail;go_loopw [19] (fun p wr=>∃ k:Nat,p = .int .i64 k/\k<=i/\Hid (Below wo.heap.size wo wr)) (fun p _=>i - (vI p).toNat)
       case atStart=>exact⟨0,rfl,gp _,HB⟩
       case round =>
        obtain⟨k,rfl,hk,HB⟩:=hrel;by_cases hlt:k < i
        ·obtain⟨g,c,ij,_,_,bK,_⟩:=(HI.out.1.q8 HB.out).form (i:=3) rfl (by rw[cD];omega);have iS:B=g:=by injection ij with h1;injection h1 with h1;injection h1
         subst iS;obtain⟨z,hz⟩ : ∃ z,part[k]? = some z:=⟨_,g8 (by rw[cD];exact hlt)⟩
         have bL:=HD.out.2.2.1 k (by show k < x.s.length;have:=HX.out.2.2.2.1;omega);rw[hz] at bL;have d0:=(bK k z hz).1;have d1:=(bK 0 z bL.symm).1;have om:(k:Int) < i:=by omega
         have iR:=lhd bK;clear bK hz ij bL;go_wp2_with fail
         go_quiet (fail)
         go_wp2;go_roundw
         case measure=>simp[vI];omega
         case rel=>exact⟨k+1,qh (by omega),by omega,(show Hid _ from qb HB.out _)⟩
        ·have om:¬ (k:Int) < i:=by omega
         go_wp2_with fail;go_ret;exact⟨rfl,HX.out.2.2.2.2.2.2.2.2.2.1.trans ((aF.out.trans (HB.out.mono aF.out.size)).mono HX.out.2.2.2.2.2.2.2.2.2.1.size)⟩
end Go.Proofs.YtlhicnfeajejhaaGreatDoor
namespace Go.Cx
open Go.Proofs.YtlhicnfeajejhaaGreatDoor
theorem qcz {K:List Cl} (G:Good K) (hc:chk K=(0,0)):(∀ x∈K,xx (fun c=>K.find? fun y=>y.id == c) x=0)/\∀ x∈K,1 < x.dim->xv (fun c=>K.find? fun y=>y.id == c) x=0:=by
 have h1:canon K=K:=G.cells.1;have h2:cAt K=fun c=>K.find? fun y=>y.id == c:=by
  funext c
  unfold cAt;rw[G.cells.2]
 unfold chk at hc;rw[h1,h2] at hc;split at hc
 ·cases hc
 cases h3:q0a (fun c=>K.find? fun y=>y.id == c) 0 K with
 | some e =>
  rw[h3] at hc;have h4:=q1i h3;have h5:e=(0,0):=hc;rw[h5] at h4;exact absurd rfl h4
 | none =>
  rw[h3] at hc;have hc:(k9 (fun c=>K.find? fun y=>y.id == c) K).getD (0,0)=(0,0):=hc;refine⟨fun x hx=>((q4f h3).1 x hx).2,?_⟩;have key:∀ L:List Cl,(k9 (fun c=>K.find? fun y=>y.id == c) L).getD (0,0)=(0,0)->∀ x∈L,1 < x.dim->xv (fun c=>K.find? fun y=>y.id == c) x=0:=fun L=>by
   induction L with
   | nil=>intro _ x hx;cases hx
   | cons y L ih =>
    intro h x hx hd;unfold k9 at h;split at h
    ·rename_i hy;have h6:xv (fun c=>K.find? fun y=>y.id == c) y=0:=(Prod.mk.inj h).2;exact absurd h6 hy.2
    ·rename_i hy;rcases gt.1 hx with rfl | hx
     ·exact gR fun e=>hy ⟨hd,e⟩
     ·exact ih h x hx hd
  exact key K hc
theorem qg5 {K:List Cl} (G:Good K):q26 K=K:=by
 rw[qap G.asc]
 conv=>rhs;rw[<-List.map_id K]
 refine List.map_congr_left fun x hx=>?_
 show (⟨x.id,x.dim,zx x.s⟩ : Cl)=x;rw[qek ((G.sasc x hx).imp fun h=>by omega)]
end Go.Cx
namespace Go.Proofs.YtlhicnfeajejhaaGreatDoor
open Go.RowKit Go.Cx
attribute [local go_sem ↓] Go.wp_at_zero Go.wp_at_succ
theorem qma (v:Value) (l:List Ce) (w:World) (h:SlC w v l) (hl:l.length<=4000) (aX:∀ x∈l,x.s.length<=1099511627776) (G:Cx.Good (l.map Ce.cl)) (hc:chk (l.map Ce.cl)=(0,0)) :
  Calls Tryz.prog 104 #[.agg #[v]] w fun e w'=>e = .returned (.tuple #[.int .i64 0,.int .i64 0])/\Below w.heap.size w w':=by
 obtain⟨a,n,cap,rfl⟩:=qg h.1;have hlen:l.length=n:=by
  obtain⟨_,_,h3,_⟩:=h.1.open;rw[qt Ce.qp] at h3;omega
 obtain⟨W,hW⟩ : ∃ W:World,W=w.alloc (.cells #[.slice a n cap] 26):=⟨_,rfl⟩
 have hB:Below w.heap.size w W:=by rw[hW];exact(Below.refl _ w).alloc (nlr _) _
 have b0:W.cell? ⟨w.heap.size,0,none⟩=some (.slice a n cap):=by rw[hW];exact qd w _ _ (0,0) 0
 obtain⟨gf,ga⟩:=qcz G hc;have HH:=lhd (aiq (h.q8 hB) (aiq aX (aiq G (aiq gf (aiq ga (aiq hlen hB))))));have hn:n<=4000:=by omega
 have UD:¬ (4000:Int) < n:=by omega
 clear h aX G hc hlen hB hl gf ga;go_enter Tryz.func104,Tryz.ntmps104;go_upto_region 3 with fail;rw[<-hW];clear hW;go_wp2_with fail;refine(q7s n _ l W HH.out.2.2.2.2.2.1 HH.out.1 (by have:=HH.out.2.2.2.2.2.1;omega) HH.out.2.1).mono ?_;rintro e w1 ⟨r,M,rfl,hM,hR,ai⟩;rw[qg5 HH.out.2.2.1] at hM;have px:M.length=n:=by have:=congrArg List.length hM;rw[gm,gm,HH.out.2.2.2.2.2.1] at this;exact this
 obtain⟨ma,mc,fM⟩:=qj hR.1;subst fM;rw[px] at hR ⊢;have al:Below w.heap.size w w1:=HH.out.2.2.2.2.2.2.trans (ai.mono HH.out.2.2.2.2.2.2.size);have eI:=HH.out.1.q8 ai
 replace b0:=Cx.q8 ai b0
 have Ei:SlC w1 (.slice ma n mc) M:=⟨Sl.qc hR.1,fun x hx=>Sl.qc (hR.2 x hx)⟩
 have H1:=lhd (aiq hM (aiq px (aiq Ei (aiq al eI))));clear hM px hR al eI Ei ai;go_wp2_with fail;refine(qdz _ l w1 H1.out.2.2.2.2 (by have:=HH.out.2.2.2.2.2.1;omega) HH.out.2.1).mono ?_;rintro e w2 ⟨r2,O,rfl,hO,qU,ag⟩;rw[q4v HH.out.2.2.1] at hO;have oE:O.length=n:=by have:=congrArg List.length hO;rw[gm,gm,HH.out.2.2.2.2.2.1] at this;exact this
 obtain⟨oa,oc,fM⟩:=qj qU.1;subst fM;rw[oE] at qU ⊢;have Ej:O.Pairwise fun x y=>x.id < y.id:=by
  have h3:=HH.out.2.2.1.asc;rw[<-hO] at h3;exact(List.pairwise_map (f:=Ce.cl) (R:=fun x y:Cl=>x.id < y.id)).1 h3
 have Ek:M.Pairwise fun x y=>x.id < y.id:=by
  have h3:=HH.out.2.2.1.asc;rw[<-H1.out.1] at h3;exact(List.pairwise_map (f:=Ce.cl) (R:=fun x y:Cl=>x.id < y.id)).1 h3
 have tl:tK O=fun c=>(l.map Ce.cl).find? fun y=>y.id == c:=by unfold tK;rw[hO]
 have El:tK M=fun c=>(l.map Ce.cl).find? fun y=>y.id == c:=by unfold tK;rw[H1.out.1]
 have cV:SlC w2 (.slice ma n mc) M:=H1.out.2.2.1.q8 ag;have Em:SlC w2 (.slice oa n oc) O:=⟨Sl.qc qU.1,fun x hx=>Sl.qc (qU.2 x hx)⟩
 have dN:∀ x∈M,x.cl∈l.map Ce.cl:=fun x hx=>by rw[<-H1.out.1];exact go.2 ⟨x,hx,rfl⟩
 have aw:Below w.heap.size w w2:=H1.out.2.2.2.1.trans (ag.mono H1.out.2.2.2.1.size);obtain⟨_,ug,_⟩:=cV.1.open;unfold maxLen at ug;have H2:=lhd (aiq oE (aiq Ej (aiq Ek (aiq tl (aiq El (aiq cV (aiq Em (aiq dN aw))))))));clear hO oE Ej Ek tl El cV Em dN aw qU ag b0;have bK:∀ U,Below w2.heap.size w2 U->∀ (i:Nat) (x:Ce),M[i]? = some x->∃ ad,ma=some ad/\U.cell? (ad.add (i*3))=some (.int .i64 x.id)/\U.cell? ⟨(ad.add (i*3)).block,(ad.add (i*3)).off+1,none⟩=some (.int .i64 x.dim)/\U.cell? ⟨(ad.add (i*3)).block,(ad.add (i*3)).off+2,none⟩=some (.slice x.a x.n x.c):=fun U hU i x hx=>by
  obtain⟨_,_,_,h5,h6⟩:=(H2.out.2.2.2.2.2.1.q8 hU).1.open;obtain⟨ad,aM⟩ : ∃ ad,ma=some ad:=by
   cases ma with
   | none=>have h1:=h5 rfl;have h2:=(gc.1 hx).1;have:=H1.out.2.1;omega
   | some ad=>exact⟨ad,rfl⟩
  obtain⟨e0,e1,e2⟩:=zh M i x hx;refine⟨ad,aM,h6 ad aM _ _ e0,?_,?_⟩
  ·rw[qi _ _ _ (by omega)];exact h6 ad aM _ _ e1
  ·rw[qi _ _ _ (by omega)];exact h6 ad aM _ _ e2
 have iR:=lhd bK;clear bK;go_wp2_with fail;go_loopw [6] (fun p wr=>∃ k:Nat,p = .int .i64 k/\k<=n/\Hid (Below w2.heap.size w2 wr)) (fun p _=>n - (vI p).toNat)
 case atStart=>exact⟨0,rfl,gp _,(show Hid _ from Below.refl _ _)⟩
 case round =>
  obtain⟨k,rfl,hk,HB⟩:=hrel;by_cases hlt:k < n
  ·obtain⟨x,hx⟩ : ∃ x,M[k]? = some x:=⟨_,g8 (by rw[H1.out.2.1];exact hlt)⟩
   obtain⟨ad,aM,d0,d1,d2⟩:=iR.out wr HB.out k x hx;have dQ:=gd hx;have lC:=HH.out.2.2.1.pos _ (H2.out.2.2.2.2.2.2.2.1 x dQ);have KN:decide (x.id < 1)=false:=by
    have:0 < x.id:=lC;simp;omega
   have om:(k:Int) < n:=by omega
   have hf:=HH.out.2.2.2.1 _ (H2.out.2.2.2.2.2.2.2.1 x dQ);have ae:∀ U,Below w2.heap.size w2 U->Calls Tryz.prog 156 #[.slice oa n oc,x.v] U fun e w'=>e = .returned (.int .i64 0)/\Below U.heap.size U w':=fun U hU =>
    qm7 _ O x U (H2.out.2.2.2.2.2.2.1.q8 hU).1 (by have:=H2.out.1;omega) H2.out.2.1 ((H2.out.2.2.2.2.2.1.q8 hU).2 x dQ) (by have:=H2.out.2.2.2.1;unfold tK at this;rw[this];exact hf)
   unfold Ce.v at ae;have HC:=lhd (aiq hx ae);subst aM;clear hx dQ lC hf ae;by_cases dr:0 < k;obtain⟨mm,cC⟩ : ∃ mm,k=mm+1:=⟨k - 1,by omega⟩
   have kR:decide ((0:Int) < (k:Int))=true:=by simpa using dr
   have eO:IntKind.i64.wrap ((k:Int) - 1)=(mm:Int):=by rw[IntWalk.i64_left,IntWalk.wrap64_in _ (by omega)];omega
   have ru:(0:Int)<=(mm:Int):=by omega
   have cO:(mm:Int) < (n:Int):=by omega
   obtain⟨y,hy⟩ : ∃ y,M[mm]? = some y:=⟨_,g8 (by rw[H1.out.2.1];omega)⟩
   obtain⟨KQ,kE,r0,_⟩:=iR.out wr HB.out mm y hy;have qV:KQ=ad:=by injection kE with e;exact e.symm
   subst qV;have hq:(x.id == y.id)=false:=by
    obtain⟨h1,e1⟩:=gc.1 hy;obtain⟨h2,e2⟩:=gc.1 HC.out.1;have:=gG.1 H2.out.2.2.1 mm k h1 h2 (by omega);rw[e1,e2] at this;simp;omega
   clear hy cC kE;go_wp2_with fail
   go_quiet (fail)
   rotate_left;have kR:decide ((0:Int) < (k:Int))=false:=by simpa using dr
   go_wp2_with fail
   go_quiet (fail)
   all_goals
    obtain⟨V,hV⟩ : ∃ V,V=wr.drewN nq:=⟨_,rfl⟩
    have aD:Below w2.heap.size w2 V:=by rw[hV];exact qb HB.out _
    rw[<-hV];obtain⟨UE,kF,v0,v1,v2⟩:=iR.out V aD k x HC.out.1;obtain rfl:=osi kF;have HV:=lhd aD;clear hV aD kF d0 d1 d2 kR;go_wp2_with fail;refine(HC.out.2 V HV.out).mono ?_;rintro e w4 ⟨rfl,cP⟩;have H4:=lhd (HV.out.trans (cP.mono HV.out.size));clear cP v0 v1 v2;go_wp2_with fail;go_roundw
    case measure=>simp[vI];omega
    case rel=>exact⟨k+1,qh (by omega),by omega,(show Hid _ from H4.out)⟩
  ·have HW:=lhd HB.out;go_wp2_with fail;go_loopw [8] (fun p wr=>∃ k:Nat,p = .int .i64 k/\k<=n/\Hid (Below w2.heap.size w2 wr)) (fun p _=>n - (vI p).toNat)
   case atStart=>exact⟨0,rfl,gp _,(show Hid _ from HW.out)⟩
   case round =>
    obtain⟨k,rfl,hk,HB⟩:=hrel;by_cases hlt:k < n
    ·obtain⟨x,hx⟩ : ∃ x,M[k]? = some x:=⟨_,g8 (by rw[H1.out.2.1];exact hlt)⟩
     obtain⟨ad,aM,d0,d1,d2⟩:=iR.out wr HB.out k x hx;have dQ:=gd hx;have om:(k:Int) < n:=by omega
     by_cases bQ:x.dim < 2
     ·subst aM;clear hx dQ d0 d2;go_wp2_with fail;go_roundw
      case measure=>simp[vI];omega
      case rel=>exact⟨k+1,qh (by omega),by omega,HB⟩
     ·have mN:=H2.out.2.2.2.2.2.2.2.1 x dQ;have hf:=HH.out.2.2.2.1 _ mN;have ha:=HH.out.2.2.2.2.1 _ mN (by show 1 < x.dim;omega);have hp:=(q2f hf).1;have cG:0 < x.s.length:=by
       have h1:x.cl.dim=x.dim:=rfl;have h2:x.cl.s.length=x.s.length:=rfl;omega
      have ae:Calls Tryz.prog 157 #[.slice ma n mc,x.v] wr fun e w'=>e = .returned (.int .i64 0)/\Below wr.heap.size wr w' :=
       qjm _ M x wr (H2.out.2.2.2.2.2.1.q8 HB.out) (by have:=H1.out.2.1;omega) H2.out.2.2.1 ((H2.out.2.2.2.2.2.1.q8 HB.out).2 x dQ) (by rw[H2.out.2.2.2.2.1];exact hf) (by rw[H2.out.2.2.2.2.1];exact ha) (fun y hy=>HH.out.2.2.1.sg _ (H2.out.2.2.2.2.2.2.2.1 y hy)) (fun y hy=>HH.out.2.2.1.few _ (H2.out.2.2.2.2.2.2.2.1 y hy)) cG
      unfold Ce.v at ae;have HC:=lhd ae;subst aM;clear hx dQ mN hf ha hp cG ae;go_wp2_with fail;refine HC.out.mono ?_;rintro e w4 ⟨rfl,cP⟩;have H4:=lhd (HB.out.trans (cP.mono HB.out.size));clear cP;go_wp2_with fail;go_roundw
      case measure=>simp[vI];omega
      case rel=>exact⟨k+1,qh (by omega),by omega,(show Hid _ from H4.out)⟩
    ·go_wp2_with fail;go_ret2;exact⟨rfl,H2.out.2.2.2.2.2.2.2.2.trans (HB.out.mono H2.out.2.2.2.2.2.2.2.2.size)⟩
end Go.Proofs.YtlhicnfeajejhaaGreatDoor
