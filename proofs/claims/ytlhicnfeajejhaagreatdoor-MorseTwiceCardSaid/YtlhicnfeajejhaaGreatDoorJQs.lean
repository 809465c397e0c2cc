/- cocycleref06.second, for a cell whose boundary is right. Conditions: none. cocycleref06.Check, for a complex that passes it; Canon. Conditions: none. -/
import Derived.Test.YtlhicnfeajejhaaGreatDoorJQr
set_option maxRecDepth 1000000
set_option maxHeartbeats 16000000
namespace Go.Cx
open Go.RowKit
def tK (l:List Ce):Int->Option Cl:=fun c=>(l.map Ce.cl).find? fun y=>y.id == c
theorem FR.form {w:World} {base:Nat} {t:TypeId} {R:List (Value×List Int)} (h:FR w base t R) {i:Nat} {v:Value} {L:List Int} (hi:R[i]? = some (v,L)) (hL:0 < L.length):∃ g c,v = .slice (some ⟨g,0,none⟩) L.length c/\base<=g/\g < w.heap.size/\(∀ (j:Nat) (z:Int),L[j]? = some z->w.cell? ⟨g,j,none⟩=some (.int .i64 z)/\w.frozen? ⟨g,j,none⟩=false)/\L.length<=c/\c<=Go.maxLen:=by
 have hr:=h.at hi;obtain⟨g,c,rfl,h1,h2⟩:=hr.form hL;obtain⟨h3,h4,_⟩:=(Sl.qc hr).open;refine⟨g,c,rfl,h1,h2,fun j z hj=>⟨?_,hr.frozenAt j⟩,h3,h4⟩;have:=hr.cellAt j (by rw[Nat.mul_one];exact(List.getElem?_eq_some_iff.1 hj).1);rw[this];simp[ints,hj]
theorem FR.len {w:World} {base:Nat} {t:TypeId} {R:List (Value×List Int)} (h:FR w base t R) {i:Nat} {v:Value} {L:List Int} (hi:R[i]? = some (v,L)):∃ a c,v = .slice a L.length c/\L.length<=c/\c<=Go.maxLen:=by
 obtain⟨a,c,rfl⟩:=qj (h.at hi);obtain⟨h3,h4,_⟩:=(Sl.qc (h.at hi)).open;exact⟨a,c,rfl,h3,h4⟩
theorem FR.qm9 {w w1:World} {base y:Nat} {t:TypeId} {R:List (Value×List Int)} (h:FR w base t R) {i:Nat} {v:Value} {L:List Int} (hi:R[i]? = some (v,L)) {g c:Nat} {x:Int}
  (hr:w1.ownsRow base t 1 (.slice (some ⟨g,0,none⟩) (L.length+1) c) (L.length+1) (ints L++[.int .i64 x])) (hg:(w.alloc (.cells [Value.int .i64 x].toArray t)).grownBy w1 v.ownBlock) (hl:v.ownBlock=some g\/g=w.heap.size+1) (hav:AV R y) (hy:y < w.heap.size) :
  FR w1 base t (R.set i (.slice (some ⟨g,0,none⟩) (L.length+1) c,L++[x]))/\AV (R.set i (.slice (some ⟨g,0,none⟩) (L.length+1) c,L++[x])) y/\(∀ j u,w.cell? ⟨y,j,none⟩=some u->w1.cell? ⟨y,j,none⟩=some u)/\y < w1.heap.size:=by
 have hr2:w1.ownsRow base t 1 (.slice (some ⟨g,0,none⟩) (L.length+1) c) (L++[x]).length (ints (L++[x])):=by
  rw[j3,List.length_append];exact hr
 refine⟨(h.q8 ((Below.refl _ w).alloc (nlr _) _)).app hi hr2 hg (hl.imp_right fun e=>by rw[World.size_alloc];exact e),hav.set i fun e=>?_,fun j u hu=>ql hg (Cx.q8 ((Below.refl _ w).alloc (nlr _) _) hu) fun b hb e=>hav _ (List.mem_of_getElem? hi) (by rw[hb,<-e]),by have:=hg.size;rw[World.size_alloc] at this;omega⟩;have e:g=y:=by injection e
 subst e;rcases hl with hl | hl
 ·exact hav _ (List.mem_of_getElem? hi) hl
 ·omega
theorem FR.cell {w:World} {base:Nat} {t:TypeId} {R:List (Value×List Int)} (h:FR w base t R) {i g n c j:Nat} {L:List Int} {z:Int} (hi:R[i]? = some (.slice (some ⟨g,0,none⟩) n c,L)) (hn:n=L.length) (hz:L[j]? = some z):w.cell? ⟨g,j,none⟩=some (.int .i64 z)/\w.frozen? ⟨g,j,none⟩=false:=by
 subst hn;have hr:=h.at hi;refine⟨?_,hr.frozenAt j⟩;rw[hr.cellAt j (by rw[Nat.mul_one];exact(List.getElem?_eq_some_iff.1 hz).1)];simp[ints,hz]
theorem qg4 (n:Nat):(madeCells #[.int .i64 0] n).toList=ints (List.replicate n 0):=by
 refine List.ext_getElem? fun i=>?_
 by_cases h:i < n
 ·have:=Go.Proofs.YtlhicnfeajejhaaGreatDoor.qi6 (.int .i64 0) n i h;rw[<-Array.getElem?_toList] at this;rw[this];simp[ints,h]
 ·rw[List.getElem?_eq_none (by rw[Array.length_toList,size_madeCells];omega),List.getElem?_eq_none (by simp[ints];omega)]
end Go.Cx
namespace Go.Proofs.YtlhicnfeajejhaaGreatDoor
open Go.RowKit Go.Cx
attribute [local go_sem ↓] Go.wp_at_zero Go.wp_at_succ
theorem qjm (v:Value) (l:List Ce) (x:Ce) (w:World) (h:SlC w v l) (hl:l.length<=1000000) (hpw:l.Pairwise fun x y=>x.id < y.id) (hs:Sl w 2 x.sl (cat Sd.enc x.s)) (hE:xx (tK l) x.cl=0) (hA:yi (tK l) x.cl=0) (hsg:∀ y∈l,∀ s∈y.s,s.g=1\/s.g = -1) (hlen:∀ y∈l,y.s.length<=64) (hx0:0 < x.s.length) :
  Calls Tryz.prog 157 #[v,x.v] w fun e w'=>e = .returned (.int .i64 0)/\Below w.heap.size w w':=by
 obtain⟨la,ln,lc,rfl⟩:=qg h.1;have hln:l.length=ln:=by
  obtain⟨_,_,h3,_⟩:=h.1.open;rw[qt Ce.qp] at h3;omega
 unfold Ce.sl at hs;obtain⟨h1,h2,h3,h4,h5⟩:=hs.open;rw[qt Sd.qp] at h3;have hxl:x.s.length=x.n:=by omega
 unfold maxLen at h2;unfold Ce.v;obtain⟨q1,q2,_⟩:=q2f hE;have hbad:=q2u hE;obtain⟨xn,hxn⟩ : ∃ xn,xn=x.n:=⟨_,rfl⟩
 have hxl:x.s.length=xn:=by omega
 have hxn64:xn<=64:=by
  have:x.cl.s.length=xn:=hxl;omega
 rw[hxl] at hx0;rw[<-hxn];rw[<-hxn] at hs h1;obtain⟨xd,hxd⟩ : ∃ xd,x.a=some xd:=by
  cases ha:x.a with
  | none=>have:=h4 ha;omega
  | some ad=>exact⟨ad,rfl⟩
 rw[hxd] at hs ⊢;obtain⟨W,hW⟩ : ∃ W,W=w.alloc (.cells #[.int .i64 x.id,.int .i64 x.dim,.slice (some xd) xn x.c] 75):=⟨_,rfl⟩
 have hBW:Below w.heap.size w W:=by rw[hW];exact(Below.refl _ w).alloc (nlr _) _
 have k2:W.cell? ⟨w.heap.size,2,none⟩=some (.slice (some xd) xn x.c):=by rw[hW];exact qd w _ _ (0,0) 2
 have hT:∀ c y,tK l c=some y->y.s.length<=64/\∀ s∈y.s,s.g=1\/s.g = -1:=fun c y hy=>by
  obtain⟨z,hz,rfl⟩:=List.mem_map.1 (List.mem_of_find?_eq_some hy);exact⟨hlen z hz,hsg z hz⟩
 have side:∀ i,i < xn->∃ (s:Sd) (j:Nat) (y:Ce),x.s[i]? = some s/\l[j]? = some y/\y.id=s.c/\tK l s.c=some y.cl/\(s.g=1\/s.g = -1):=fun i hi=>by
  obtain⟨s,hs⟩ : ∃ s,x.s[i]? = some s:=⟨_,List.getElem?_eq_getElem (by rw[hxl];exact hi)⟩
  obtain⟨⟨y,hy,_⟩,_⟩:=qjj (T:=tK l) (x:=x.cl) hs (hbad i (by show i < x.s.length;omega));obtain⟨z,hz,rfl⟩:=List.mem_map.1 (List.mem_of_find?_eq_some hy);obtain⟨j,hj⟩:=List.getElem?_of_mem hz;exact⟨s,j,z,hs,hj,by simpa [Ce.cl] using List.find?_some hy,hy,q2 s (List.mem_of_getElem? hs)⟩
 have HX:=lhd (aiq (h.q8 hBW) (aiq (hs.q8 hBW) (aiq hpw (aiq hxl (aiq hT (aiq side (aiq hA (aiq hln (aiq q2 (aiq hBW k2))))))))));have hwz:W.heap.size=w.heap.size+1:=by rw[hW];simp
 have hmk:=qp7 xn (by omega) W;have HMK:=lhd hmk;have HWZ:=lhd hwz;have HLL:=lhd (show ln<=1000000 by omega);clear h3 h4 h5 hs hpw hbad q1 q2 hxn hxl hln h hBW hl hA hE hsg hlen hT side hxd hwz;go_enter Tryz.func157,Tryz.ntmps157;go_upto_region 4 with fail;rw[<-hW];clear hW;go_wp2_with fail;obtain⟨U,hU⟩ : ∃ U,U=(W.alloc (.cells (madeCells #[.int .i64 0] xn) 3)).alloc (.cells #[] 3):=⟨_,rfl⟩
 obtain⟨B,hBq⟩ : ∃ B,B=W.heap.size:=⟨_,rfl⟩
 have hf0:FR U B 3 [(.slice none 0 0,[]),(.slice none 0 0,[]),(.slice none 0 0,[]),(.slice (some ⟨B,0,none⟩) xn xn,List.replicate xn 0),(.slice (some ⟨B+1,0,none⟩) 0 0,[])]:=by
  have hp:U.ownsRow B 3 1 (.slice (some ⟨B,0,none⟩) xn xn) (List.replicate xn (0:Int)).length (ints (List.replicate xn 0)):=by
   rw[hU,hBq,<-qg4,List.length_replicate];exact(World.ownsRow_lit W _ xn (nlr _) (by unfold maxLen;omega) (by rw[size_madeCells,Nat.mul_one])).alloc _
  have hf:U.ownsRow B 3 1 (.slice (some ⟨B+1,0,none⟩) 0 0) ([] : List Int).length (ints []):=by
   have:=zj (W.alloc (.cells (madeCells #[.int .i64 0] xn) 3)) 3 1;rw[World.size_alloc,<-hBq,<-hU] at this;exact qf this (by omega)
  have hn:U.ownsRow B 3 1 (.slice none 0 0) ([] : List Int).length (ints []):=World.ownsRow_nil _ _ _ _;refine(((((FR.nil U B 3).cons hf (fun b hb p hp=>(by cases hp))).cons hp (fun b hb p hp=>?_)).cons hn (fun b hb=>(by cases hb))).cons hn (fun b hb=>(by cases hb))).cons hn (fun b hb=>(by cases hb));simp at hp;subst hp;have:B=b:=by injection hb
  subst this;intro e;injection e with e
  have e:B+1=B:=e;omega
 have hBU:Below B W U:=by rw[hU,hBq];exact((Below.refl _ W).alloc (nlr _) _).alloc (by simp) _
 have HU:=lhd (aiq hf0 hBU);rw[<-hBq,<-hU];have hxnI:(0:Int) < xn:=by omega
 have HBQ:=lhd hBq;clear hf0 hBU hU hBq;go_loopw [5,6,7,9,10] (fun p5 p6 p7 p9 p10 wr=>∃ (i:Nat) (ids sums many fir part:List Int),p10 = .int .i64 i/\i<=xn/\part.length=xn/\Hid (FR wr B 3 [(p5,ids),(p6,sums),(p7,many),(.slice (some ⟨B,0,none⟩) xn xn,part),(p9,fir)]/\Sec i (oP (tK l) x.cl i 0) (fun _=>False) ids sums many fir part/\Below B W wr/\ids.length<=(oP (tK l) x.cl i 0).length)) (fun _ _ _ _ p10 _=>xn - (vI p10).toNat)
 case atStart=>exact⟨0,[],[],[],[],List.replicate xn 0,rfl,Nat.zero_le _,by simp,(show Hid _ from⟨HU.out.1,by rw[qm6];exact Sec.start _ _,HU.out.2,Nat.zero_le _⟩)⟩
 case round =>
  obtain⟨i,ids,sums,many,fir,part,rfl,hi,hpl,HI⟩:=hrel;obtain⟨a5,c5,rfl,hc5,hm5⟩:=HI.out.1.len (i:=0) rfl;obtain⟨a6,c6,rfl,hc6,hm6⟩:=HI.out.1.len (i:=1) rfl;obtain⟨a7,c7,rfl,hc7,hm7⟩:=HI.out.1.len (i:=2) rfl;obtain⟨a9,c9,rfl,hc9,hm9⟩:=HI.out.1.len (i:=4) rfl;unfold maxLen at hm5 hm6 hm7 hm9;have hBW:Below W.heap.size W wr:=by rw[<-HBQ.out];exact HI.out.2.2.1
  have kk2:wr.cell? ⟨w.heap.size,2,none⟩=some (.slice (some xd) xn x.c):=Cx.q8 hBW HX.out.2.2.2.2.2.2.2.2.2.2;by_cases hlt:i < xn
  ·obtain⟨s,j0,y,hs,hj0,hyi,hT,hsg⟩:=HX.out.2.2.2.2.2.1 i hlt;have hrp:wr.ownsRow B 3 1 (.slice (some ⟨B,0,none⟩) xn xn) xn (ints part):=zm (HI.out.1.at (i:=3) rfl) hpl;obtain⟨p0,hp0⟩ : ∃ p0,part[i]? = some p0:=⟨_,List.getElem?_eq_getElem (by rw[hpl];exact hlt)⟩
   have d0:wr.cell? ⟨B,i,none⟩=some (.int .i64 p0):=(hrp.cellAt i (by omega)).trans (by simp[ints,hp0]);have z0:=hrp.frozenAt i;have hiI:(i:Int) < xn:=by omega
   obtain⟨e0,e1⟩:=zw x.s i s hs;obtain⟨_,_,_,_,h6⟩:=HX.out.2.1.open;have sx0:=h6 xd rfl _ _ e0;have sx1:W.cell? ⟨(xd.add (i*2)).block,(xd.add (i*2)).off+1,none⟩=some (.int .i64 s.g):=by rw[qi _ _ _ (by omega)];exact h6 xd rfl _ _ e1
   have hln:=HX.out.2.2.2.2.2.2.2.1;have hj0n:j0 < ln:=by have:=(List.getElem?_eq_some_iff.1 hj0).1;omega
   obtain⟨m2,m3,_,m5,m6⟩:=HX.out.1.1.open;unfold maxLen at m3;obtain⟨ld,hld⟩ : ∃ ad,la=some ad:=by
    cases la with
    | none=>have:=m5 rfl;omega
    | some ad=>exact⟨ad,rfl⟩
   obtain⟨e2,e3,e4⟩:=zh l j0 y hj0;have y0:=m6 ld hld _ _ e2;have y1:W.cell? ⟨(ld.add (j0*3)).block,(ld.add (j0*3)).off+1,none⟩=some (.int .i64 y.dim):=by rw[qi _ _ _ (by omega)];exact m6 ld hld _ _ e3
   have y2:W.cell? ⟨(ld.add (j0*3)).block,(ld.add (j0*3)).off+2,none⟩=some (.slice y.a y.n y.c):=by rw[qi _ _ _ (by omega)];exact m6 ld hld _ _ e4
   have hsy:=HX.out.1.2 y (List.mem_of_getElem? hj0);have hjI:(j0:Int) < ln:=by omega
   have HY:=lhd (aiq hs (aiq hj0 (aiq hyi (aiq hT (aiq hsg (aiq hsy (aiq hrp hld)))))));have HC0:=lhd (aiq sx0 (aiq sx1 (aiq y0 (aiq y1 y2))));subst hld;clear hs hj0 hT hsg e0 e1 e2 e3 e4 h6 m5 m6 hsy hrp hp0 sx0 sx1 y0 y1 y2 hln;go_upto_region 10 with fail;obtain⟨V1,hV1⟩ : ∃ V1,V1=wr.setCell ⟨B,i,none⟩ (.int .i64 i):=⟨_,rfl⟩
   rw[<-hV1];have hB1:Below B W V1:=by rw[hV1];exact HI.out.2.2.1.setCell (nlr _) _
   have hB1':Below W.heap.size W V1:=by rw[<-HBQ.out];exact hB1
   have f1:FR V1 B 3 [(.slice a5 ids.length c5,ids),(.slice a6 sums.length c6,sums),(.slice a7 many.length c7,many),(.slice (some ⟨B,0,none⟩) xn xn,part.set i (i:Int)),(.slice a9 fir.length c9,fir)]:=by
    rw[hV1];exact HI.out.1.put (i:=3) rfl hpl.symm i (i:Int)
   have kk3:=Cx.q8 hB1' HX.out.2.2.2.2.2.2.2.2.2.2;have s0:=Cx.q8 hB1' HC0.out.1;have hcall:=qnm _ l j0 y V1 (HX.out.1.1.q8 hB1') (by have h1:=HX.out.2.2.2.2.2.2.2.1;have h2:=HLL.out;omega) HX.out.2.2.1 HY.out.2.1;rw[hyi] at hcall;have H1:=lhd (aiq hB1 (aiq hB1' (aiq f1 hcall)));clear hV1 hB1 hB1' f1 hcall d0 z0 kk2 hBW hyi;go_wp2_with fail;refine H1.out.2.2.2.mono ?_;rintro e w2 ⟨rfl,hb2⟩;have hB2:Below W.heap.size W w2:=H1.out.2.1.trans (hb2.mono H1.out.2.1.size);have c0:=Cx.q8 hB2 HC0.out.2.2.1;have c1:=Cx.q8 hB2 HC0.out.2.2.2.1;have c2:=Cx.q8 hB2 HC0.out.2.2.2.2;have H2:=lhd (aiq hb2 hB2);clear hb2 hB2 s0 kk3;go_wp2_with fail;obtain⟨W3,hW3⟩ : ∃ W3,W3=w2.alloc (.cells #[.int .i64 y.id,.int .i64 y.dim,.slice y.a y.n y.c] 75):=⟨_,rfl⟩
   obtain⟨yb,hyb⟩ : ∃ yb,yb=w2.heap.size:=⟨_,rfl⟩
   have hb3:Below w2.heap.size w2 W3:=by rw[hW3];exact(Below.refl _ w2).alloc (nlr _) _
   have yc2:W3.cell? ⟨yb,2,none⟩=some (.slice y.a y.n y.c):=by rw[hW3,hyb];exact qd w2 _ _ (0,0) 2
   have f2:=H1.out.2.2.1.q8 H2.out.1;have f3:=f2.q8 hb3;have hav:AV [(.slice a5 ids.length c5,ids),(.slice a6 sums.length c6,sums),(.slice a7 many.length c7,many),(.slice (some ⟨B,0,none⟩) xn xn,part.set i (i:Int)),(.slice a9 fir.length c9,fir)] yb:=fun p hp e=>by
    have:=((f2.row p hp).lt yb e).2;omega
   have hyn:y.s.length=y.n:=by
    obtain⟨_,_,h3,_⟩:=(show Sl W 2 (.slice y.a y.n y.c) _ from HY.out.2.2.2.2.2.1).open;rw[qt Sd.qp] at h3;omega
   have hyn64:y.n<=64:=by
    have:=(HX.out.2.2.2.2.1 _ _ HY.out.2.2.2.1).1;have:y.s.length<=64:=this;omega
   have hB3:Below B W W3:=by
    have:=H2.out.2.trans (hb3.mono H2.out.2.size);rw[HBQ.out];exact this
   have hyW:yb < W3.heap.size:=by rw[hW3,hyb];simp
   have hBy:B < yb:=by
    have:=((f2.at (i:=3) rfl).lt B rfl).2;omega
   have H3:=lhd (aiq f3 (aiq hav (aiq hyn (aiq hB3 (aiq hyW (aiq yc2 (HI.out.2.1.up (i:Int))))))));have hpl2:(part.set i (i:Int)).length=xn:=by rw[List.length_set];exact hpl
   rw[<-hyb,<-hW3];clear c0 c1 c2 hb3 yc2 f2 f3 hav hyn hB3 hyW hW3 hyb;go_loopw [5,6,7,9,12] (fun p5 p6 p7 p9 p12 wr=>∃ (j:Nat) (ids sums many fir part:List Int),p12 = .int .i64 j/\j<=y.n/\part.length=xn/\Hid (FR wr B 3 [(p5,ids),(p6,sums),(p7,many),(.slice (some ⟨B,0,none⟩) xn xn,part),(p9,fir)]/\Sec (i+1) (oP (tK l) x.cl i j) (fun _=>False) ids sums many fir part/\AV [(p5,ids),(p6,sums),(p7,many),(.slice (some ⟨B,0,none⟩) xn xn,part),(p9,fir)] yb/\wr.cell? ⟨yb,2,none⟩=some (.slice y.a y.n y.c)/\Below B W wr/\yb < wr.heap.size/\ids.length<=(oP (tK l) x.cl i j).length)) (fun _ _ _ _ p12 _=>y.n - (vI p12).toNat)
   case atStart=>exact⟨0,ids,sums,many,fir,part.set i (i:Int),rfl,Nat.zero_le _,hpl2,(show Hid _ from⟨H3.out.1,H3.out.2.2.2.2.2.2,H3.out.2.1,H3.out.2.2.2.2.2.1,H3.out.2.2.2.1,H3.out.2.2.2.2.1,HI.out.2.2.2⟩)⟩
   case round =>
    clear hpl hc5 hm5 hc6 hm6 hc7 hm7 hc9 hm9;obtain⟨j,ids,sums,many,fir,part,rfl,hj,hpl,HJ⟩:=hrel;obtain⟨a5,c5,rfl,hc5,hm5⟩:=HJ.out.1.len (i:=0) rfl;obtain⟨a6,c6,rfl,hc6,hm6⟩:=HJ.out.1.len (i:=1) rfl;obtain⟨a7,c7,rfl,hc7,hm7⟩:=HJ.out.1.len (i:=2) rfl;obtain⟨a9,c9,rfl,hc9,hm9⟩:=HJ.out.1.len (i:=4) rfl;unfold maxLen at hm5 hm6 hm7 hm9;have yc2:=HJ.out.2.2.2.1;by_cases hjn:j < y.n
    ·obtain⟨r,hr⟩ : ∃ r,y.s[j]? = some r:=⟨_,List.getElem?_eq_getElem (by rw[H3.out.2.2.1];exact hjn)⟩
     obtain⟨_,_,_,h5,h6⟩:=(show Sl W 2 (.slice y.a y.n y.c) _ from HY.out.2.2.2.2.2.1).open;obtain⟨yd,hyd⟩ : ∃ ad,y.a=some ad:=by
      cases ha:y.a with
      | none=>have:=h5 ha;omega
      | some ad=>exact⟨ad,rfl⟩
     obtain⟨e0,e1⟩:=zw y.s j r hr;have sy0:=h6 yd hyd _ _ e0;have sy1:W.cell? ⟨(yd.add (j*2)).block,(yd.add (j*2)).off+1,none⟩=some (.int .i64 r.g):=by rw[qi _ _ _ (by omega)];exact h6 yd hyd _ _ e1
     have hrg:=(HX.out.2.2.2.2.1 _ _ HY.out.2.2.2.1).2 r (List.mem_of_getElem? hr);have hfx:∀ U,Below B W U->U.cell? ⟨w.heap.size,2,none⟩=some (.slice (some xd) xn x.c)/\U.cell? ⟨(xd.add (i*2)).block,(xd.add (i*2)).off+1,none⟩=some (.int .i64 s.g)/\U.cell? (yd.add (j*2))=some (.int .i64 r.c)/\U.cell? ⟨(yd.add (j*2)).block,(yd.add (j*2)).off+1,none⟩=some (.int .i64 r.g):=fun U hU=>by
      have hU2:Below W.heap.size W U:=by rw[<-HBQ.out];exact hU
      exact⟨Cx.q8 hU2 HX.out.2.2.2.2.2.2.2.2.2.2,Cx.q8 hU2 HC0.out.2.1,Cx.q8 hU2 sy0,Cx.q8 hU2 sy1⟩
     rw[hyd] at yc2;have hjI2:(j:Int) < y.n:=by omega
     have HR:=lhd (aiq hr (aiq hrg (aiq hfx hyd)));obtain⟨wo,hwo⟩ : ∃ wo,wo=wr:=⟨_,rfl⟩
     subst hwo;clear hr hyd e0 e1 h5 h6 sy0 sy1 hrg hfx;go_wp2_with fail;go_loopw [13] (fun p wr=>∃ k:Nat,p = .int .i64 k/\k<=ids.length/\Hid ((∀ j',j' < k->ids[j']?≠some r.c)/\Below wo.heap.size wo wr)) (fun p _=>ids.length - (vI p).toNat)
     case atStart=>exact⟨0,rfl,Nat.zero_le _,(show Hid _ from⟨fun j' h=>by omega,Below.refl _ _⟩)⟩
     case round =>
      obtain⟨k,rfl,hk,HK⟩:=hrel;have hBw:Below B W wr:=HJ.out.2.2.2.2.1.trans (HK.out.2.mono (Nat.le_trans (by have:=HBQ.out;omega) HJ.out.2.2.2.2.1.size));have yk:=Cx.q8 HK.out.2 yc2;have sk0:=(HR.out.2.2.1 wr hBw).2.2.1;have HBw:=lhd hBw;by_cases hgo:∃ z,ids[k]? = some z/\z≠r.c
      ·obtain⟨z,hz,hzc⟩:=hgo;have hkl:=(List.getElem?_eq_some_iff.1 hz).1;obtain⟨g5,q5,hge,_,_,hat,_⟩:=(HJ.out.1.q8 HK.out.2).form (i:=0) rfl (by omega);have hge1:a5=some ⟨g5,0,none⟩:=by injection hge
       subst hge1;have dz:=(hat k z hz).1;have hb:(z != r.c)=true:=by simpa using hzc
       have hkd:decide ((k:Int) < (ids.length:Int))=true:=by simpa using hkl
       have hkI:(k:Int) < ids.length:=by omega
       have HZ:=lhd (aiq hz hzc);clear hz hzc hat hge hBw;go_wp2_with fail
       go_quiet (fail)
       go_wp2_with fail;go_roundw
       case measure=>simp[vI];omega
       case rel =>
        refine⟨k+1,qh (by omega),by omega,(show Hid _ from⟨fun j' h=>?_,qb HK.out.2 _⟩)⟩;rcases Nat.lt_or_ge j' k with h2 | h2
        ·exact HK.out.1 j' h2
        ·rw[show j'=k by omega,HZ.out.1];exact fun e=>HZ.out.2 (osi e)
      ·have hob:=qoo (T:=tK l) (x:=x.cl) (i:=i) (j:=j) (by have:=HX.out.2.2.2.1;show x.s.length<=64;omega) (fun c y hy=>(HX.out.2.2.2.2.1 c y hy).1) (by have:=HX.out.2.2.2.1;show i<=x.s.length;omega) (by omega);have hfew:ids.length<=4160:=Nat.le_trans HJ.out.2.2.2.2.2.2 hob;have hnone:k=ids.length->r.c ∉ ids:=fun he hm=>by
        obtain⟨j',hj'⟩:=List.getElem?_of_mem hm;exact HK.out.1 j' (by rw[he];exact(List.getElem?_eq_some_iff.1 hj').1) hj'
       have hsec:=HJ.out.2.1;have HOB:=lhd (aiq hob (aiq hfew (aiq hnone hsec)));have HL3:=lhd (show sums.length=ids.length/\many.length=ids.length/\fir.length=ids.length from⟨hsec.l1,hsec.l2,hsec.l3⟩);clear hob hfew hnone hsec;rcases Nat.lt_or_ge k ids.length with hkl | hkl
       obtain⟨z,hz⟩ : ∃ z,ids[k]? = some z:=⟨_,List.getElem?_eq_getElem hkl⟩
       have hzc:z=r.c:=Classical.byContradiction fun e=>hgo ⟨z,hz,e⟩
       obtain⟨g5,q5,hge5,_,_,hat,_⟩:=(HJ.out.1.q8 HK.out.2).form (i:=0) rfl (by omega);obtain⟨g6,q6,hge6,_⟩:=(HJ.out.1.q8 HK.out.2).form (i:=1) rfl (by have:=HL3.out;omega);obtain⟨g7,q7,hge7,_⟩:=(HJ.out.1.q8 HK.out.2).form (i:=2) rfl (by have:=HL3.out;omega);obtain⟨g9,q9,hge9,_⟩:=(HJ.out.1.q8 HK.out.2).form (i:=4) rfl (by have:=HL3.out;omega);have hge1:a5=some ⟨g5,0,none⟩:=by injection hge5
       have hge2:a6=some ⟨g6,0,none⟩:=by injection hge6
       have hge3:a7=some ⟨g7,0,none⟩:=by injection hge7
       have hge4:a9=some ⟨g9,0,none⟩:=by injection hge9
       subst hge1 hge2 hge3 hge4;have dz:=(hat k z hz).1;have hb:(z != r.c)=false:=by simpa using hzc
       have hkd:decide ((k:Int) < (ids.length:Int))=true:=by simpa using hkl
       have hkI:(k:Int) < ids.length:=by omega
       have hke:((k:Int) == (ids.length:Int))=false:=by simp;omega
       have HZ:=lhd (aiq hz hzc);clear hz hzc hat hge5 hge6 hge7 hge9 hBw hgo;go_wp2_with fail
       go_quiet (fail)
       go_upto_region 22 with fail;obtain⟨wz,hwz⟩ : ∃ wz,wz=wr.drewN nq:=⟨_,rfl⟩
       have hBz:Below wo.heap.size wo wz:=by rw[hwz];exact qb HK.out.2 _
       have hBz':Below B W wz:=by rw[hwz];exact qb HBw.out _
       rw[<-hwz];obtain⟨n5,hn5⟩ : ∃ n,n=ids.length:=⟨_,rfl⟩
       obtain⟨n6,hn6⟩ : ∃ n,n=sums.length:=⟨_,rfl⟩
       obtain⟨n7,hn7⟩ : ∃ n,n=many.length:=⟨_,rfl⟩
       obtain⟨n9,hn9⟩ : ∃ n,n=fir.length:=⟨_,rfl⟩
       have hkb:=lhd (show k < n5/\n6=n5/\n7=n5/\n9=n5 by have:=HL3.out;omega);obtain⟨ids2,sums2,many2,fir2,HT⟩ : ∃ ids2 sums2 many2 fir2:List Int,Hid (FR wz B 3 [(.slice (some ⟨g5,0,none⟩) n5 c5,ids2),(.slice (some ⟨g6,0,none⟩) n6 c6,sums2),(.slice (some ⟨g7,0,none⟩) n7 c7,many2),(.slice (some ⟨B,0,none⟩) xn xn,part),(.slice (some ⟨g9,0,none⟩) n9 c9,fir2)]/\Sec (i+1) (oP (tK l) x.cl i j) (fun d=>d=r.c) ids2 sums2 many2 fir2 part/\ids2[k]? = some r.c/\AV [(.slice (some ⟨g5,0,none⟩) n5 c5,ids2),(.slice (some ⟨g6,0,none⟩) n6 c6,sums2),(.slice (some ⟨g7,0,none⟩) n7 c7,many2),(.slice (some ⟨B,0,none⟩) xn xn,part),(.slice (some ⟨g9,0,none⟩) n9 c9,fir2)] yb/\Below B W wz/\yb < wz.heap.size/\wz.cell? ⟨yb,2,none⟩=some (.slice (some yd) y.n y.c)/\ids2.length<=(oP (tK l) x.cl i j).length+1/\n6=sums2.length/\n7=many2.length/\n9=fir2.length/\(oP (tK l) x.cl i j).length<=4160):=by
        refine⟨ids,sums,many,fir,(show Hid _ from ?_)⟩;rw[hn5,hn6,hn7,hn9];exact⟨HJ.out.1.q8 hBz,HOB.out.2.2.2.mono (fun c h=>h.elim),by rw[HZ.out.1,HZ.out.2],HJ.out.2.2.1,hBz',Nat.lt_of_lt_of_le HJ.out.2.2.2.2.2.1 hBz.size,Cx.q8 hBz yc2,by have:=HJ.out.2.2.2.2.2.2;omega,rfl,rfl,rfl,HOB.out.1⟩
       rw[<-hn5,<-hn6,<-hn7,<-hn9];clear hwz hBz hBz' hn5 hn6 hn7 hn9 dz hb hke hkd hkI hkl hk yk sk0 HZ HOB HK yc2 HBw;rotate_left;have hk0:k=ids.length:=by omega
       have HKE:=lhd (show ((k:Int) == (ids.length:Int))=true by simp[hk0]);have hkd:decide ((k:Int) < (ids.length:Int))=false:=by simp[hk0]
       have hkd2:decide (k < ids.length)=false:=by simp[hk0]
       have hnin:=HOB.out.2.2.1 hk0;have hfew:=HOB.out.2.1;have HK0:=lhd (aiq hk0 hnin);clear hk0 hnin hgo hBw hkl hk;go_wp2_with fail
       go_quiet (fail)
       have hke:=HKE.out;go_upto_region 18 with fail;obtain⟨V,hV⟩ : ∃ V,V=wr.drewN nq:=⟨_,rfl⟩
       have hBz:Below wo.heap.size wo V:=by rw[hV];exact qb HK.out.2 _
       have hBz':Below B W V:=by rw[hV];exact qb HBw.out _
       rw[<-hV];have yV:=Cx.q8 hBz yc2;have sV0:=(HR.out.2.2.1 V hBz').2.2.1;have hF:=HJ.out.1.q8 hBz;have hyV:yb < V.heap.size:=Nat.lt_of_lt_of_le HJ.out.2.2.2.2.2.1 hBz.size;have hBV:B<=V.heap.size:=by omega
       have HF:=lhd (aiq hF (aiq HJ.out.2.2.1 (aiq hBz' yV)));clear hF hV hBz hBz' yk sk0 yc2;go_wp2_with (at_builtin;refine q0p (W:=V) rfl _ _ 22 rfl B 3 Tryz.xg Tryz.underlying22 rfl (by decide) (by decide) _ _ _ rfl (HF.out.1.at (i:=0) rfl) [.int .i64 r.c] rfl rfl (q5v _) (by omega) (Below.refl _ _) hBV ?_);intro g5 c5 w5 hr5 hg5 hl5 hB5;have h5:=HF.out.1.qm9 (i:=0) rfl hr5 hg5 hl5 HF.out.2.1 hyV;have hB5z:B<=w5.heap.size:=by have:=h5.2.2.2;omega
       have H5:=lhd (aiq h5 (aiq hB5 (h5.2.2.1 2 _ HF.out.2.2.2)));clear hr5 hg5 hl5 hB5 h5 hBV hyV yV sV0;go_wp2_with (at_builtin;refine q0p (W:=w5) rfl _ _ 22 rfl B 3 Tryz.xg Tryz.underlying22 rfl (by decide) (by decide) _ _ _ rfl (H5.out.1.1.at (i:=1) rfl) [.int .i64 0] rfl rfl (q5v _) (by have:=HL3.out;omega) (Below.refl _ _) hB5z ?_);intro g6 c6 w6 hr6 hg6 hl6 hB6;have h6:=H5.out.1.1.qm9 (i:=1) rfl hr6 hg6 hl6 H5.out.1.2.1 H5.out.1.2.2.2;have hB6z:B<=w6.heap.size:=by have:=h6.2.2.2;omega
       have H6:=lhd (aiq h6 (aiq (H5.out.2.1.trans hB6) (h6.2.2.1 2 _ H5.out.2.2)));clear hr6 hg6 hl6 hB6 h6 hB5z;go_wp2_with (at_builtin;refine q0p (W:=w6) rfl _ _ 22 rfl B 3 Tryz.xg Tryz.underlying22 rfl (by decide) (by decide) _ _ _ rfl (H6.out.1.1.at (i:=2) rfl) [.int .i64 0] rfl rfl (q5v _) (by have:=HL3.out;omega) (Below.refl _ _) hB6z ?_);intro g7 c7 w7 hr7 hg7 hl7 hB7;have h7:=H6.out.1.1.qm9 (i:=2) rfl hr7 hg7 hl7 H6.out.1.2.1 H6.out.1.2.2.2;have hB7z:B<=w7.heap.size:=by have:=h7.2.2.2;omega
       have H7:=lhd (aiq h7 (aiq (H6.out.2.1.trans hB7) (h7.2.2.1 2 _ H6.out.2.2)));clear hr7 hg7 hl7 hB7 h7 hB6z;go_wp2_with (at_builtin;refine q0p (W:=w7) rfl _ _ 22 rfl B 3 Tryz.xg Tryz.underlying22 rfl (by decide) (by decide) _ _ _ rfl (H7.out.1.1.at (i:=4) rfl) [.int .i64 i] rfl rfl (q5v _) (by have:=HL3.out;omega) (Below.refl _ _) hB7z ?_);intro g9 c9 w9 hr9 hg9 hl9 hB9;have h9:=H7.out.1.1.qm9 (i:=4) rfl hr9 hg9 hl9 H7.out.1.2.1 H7.out.1.2.2.2;have H9:=lhd (aiq h9 (aiq (H7.out.2.1.trans hB9) (h9.2.2.1 2 _ H7.out.2.2)));clear hr9 hg9 hl9 hB9 h9 hB7z;go_upto_region 22 with fail;obtain⟨wz,hwz⟩ : ∃ wz,wz=w9:=⟨_,rfl⟩
       obtain⟨n5,hn5⟩ : ∃ n,n=ids.length+1:=⟨_,rfl⟩
       obtain⟨n6,hn6⟩ : ∃ n,n=sums.length+1:=⟨_,rfl⟩
       obtain⟨n7,hn7⟩ : ∃ n,n=many.length+1:=⟨_,rfl⟩
       obtain⟨n9,hn9⟩ : ∃ n,n=fir.length+1:=⟨_,rfl⟩
       have hkb:=lhd (show k < n5/\n6=n5/\n7=n5/\n9=n5 by have:=HK0.out.1;have:=HL3.out;omega);obtain⟨ids2,sums2,many2,fir2,HT⟩ : ∃ ids2 sums2 many2 fir2:List Int,Hid (FR wz B 3 [(.slice (some ⟨g5,0,none⟩) n5 c5,ids2),(.slice (some ⟨g6,0,none⟩) n6 c6,sums2),(.slice (some ⟨g7,0,none⟩) n7 c7,many2),(.slice (some ⟨B,0,none⟩) xn xn,part),(.slice (some ⟨g9,0,none⟩) n9 c9,fir2)]/\Sec (i+1) (oP (tK l) x.cl i j) (fun d=>d=r.c) ids2 sums2 many2 fir2 part/\ids2[k]? = some r.c/\AV [(.slice (some ⟨g5,0,none⟩) n5 c5,ids2),(.slice (some ⟨g6,0,none⟩) n6 c6,sums2),(.slice (some ⟨g7,0,none⟩) n7 c7,many2),(.slice (some ⟨B,0,none⟩) xn xn,part),(.slice (some ⟨g9,0,none⟩) n9 c9,fir2)] yb/\Below B W wz/\yb < wz.heap.size/\wz.cell? ⟨yb,2,none⟩=some (.slice (some yd) y.n y.c)/\ids2.length<=(oP (tK l) x.cl i j).length+1/\n6=sums2.length/\n7=many2.length/\n9=fir2.length/\(oP (tK l) x.cl i j).length<=4160):=by
        refine⟨ids++[r.c],sums++[0],many++[0],fir++[(i:Int)],(show Hid _ from ?_)⟩;rw[hn5,hn6,hn7,hn9,hwz];exact⟨H9.out.1.1,HOB.out.2.2.2.new HK0.out.2,by rw[HK0.out.1,List.getElem?_append_right (nlr _),Nat.sub_self];rfl,H9.out.1.2.1,HF.out.2.2.1.trans H9.out.2.1,H9.out.1.2.2.2,H9.out.2.2,by have:=HJ.out.2.2.2.2.2.2;rw[List.length_append];show ids.length+1<=_;omega,by simp,by simp,by simp,HOB.out.1⟩
       rw[<-hn5,<-hn6,<-hn7,<-hn9,<-hwz];clear hwz hn5 hn6 hn7 hn9 hke hkd hkd2 HK0 HOB HK HBw H5 H6 H7 H9 HF hfew
       all_goals
        obtain⟨sv,hsv⟩ : ∃ sv,sums2[k]? = some sv:=⟨_,(HT.out.2.1.sm k _ HT.out.2.2.1).1⟩
        obtain⟨mv,hmv⟩ : ∃ mv,many2[k]? = some mv:=⟨_,(HT.out.2.1.sm k _ HT.out.2.2.1).2⟩
        have hsm:=qg2 (oP (tK l) x.cl i j) (qpq (T:=tK l) (x:=x.cl) (i:=i) (j:=j) HX.out.2.2.2.2.2.2.2.2.1 (fun c y hy=>(HX.out.2.2.2.2.1 c y hy).2)) r.c;have hsmv:=osi (hsv.symm.trans (HT.out.2.1.sm k _ HT.out.2.2.1).1);have hmmv:=osi (hmv.symm.trans (HT.out.2.1.sm k _ HT.out.2.2.1).2);rw[<-hsmv] at hsm;have ho4:=HT.out.2.2.2.2.2.2.2.2.2.2.2;obtain⟨q,hq1,hq2,_⟩:=HT.out.2.1.fr k _ HT.out.2.2.1;obtain⟨ov,hov⟩ : ∃ ov,part[q]? = some ov:=⟨_,List.getElem?_eq_getElem (by omega)⟩
        obtain⟨nv,hnv⟩ : ∃ nv,part[i]? = some nv:=⟨_,List.getElem?_eq_getElem (by omega)⟩
        have hp1:s.g*r.g=1\/s.g*r.g = -1:=by
         have h2:=HR.out.2.1;have h1:=HY.out.2.2.2.2.1;rcases h1 with h1 | h1 <;> rcases h2 with h2 | h2 <;> rw[h1,h2] <;> simp
        have hwm:IntKind.i64.wrap (s.g*r.g)=s.g*r.g:=IntWalk.i64_in _ (by omega);have hwa:IntKind.i64.wrap (sv+s.g*r.g)=sv+s.g*r.g:=IntWalk.i64_in _ (by omega);have hwc:IntKind.i64.wrap (mv+1)=mv+1:=IntWalk.i64_in _ (by omega);have hkI6:(k:Int) < n6:=by have:=hkb.out;omega
        have hkI7:(k:Int) < n7:=by have:=hkb.out;omega
        have hkI9:(k:Int) < n9:=by have:=hkb.out;omega
        have hqI:(q:Int) < xn:=by omega
        have HV:=lhd (aiq hsv (aiq hmv (aiq hq1 (aiq hq2 (aiq hov hnv)))));have d6:=HT.out.1.cell (i:=1) rfl HT.out.2.2.2.2.2.2.2.2.1 hsv;have d60:=d6.1;obtain⟨x2,xs,yr,yg⟩:=HR.out.2.2.1 wz HT.out.2.2.2.2.1;have y2:=HT.out.2.2.2.2.2.2.1;clear hsm hsmv hmmv ho4 hp1 hsv hmv hq1 hq2 hov hnv d6 yr
        go_still_tail 20,(by kernel_rfl)
        change wpList _ _ _ _ _ wz.drew;have hD:Below wz.heap.size wz wz.drew:=qb (Below.refl _ wz) 1;obtain⟨U,hU⟩ : ∃ U,U=wz.drew:=⟨_,rfl⟩
        rw[<-hU] at hD ⊢;have hFU:=HT.out.1.q8 hD;obtain⟨d60,d61⟩:=hFU.cell (i:=1) rfl HT.out.2.2.2.2.2.2.2.2.1 HV.out.1
        replace x2:=Cx.q8 hD x2
        replace xs:=Cx.q8 hD xs
        replace yg:=Cx.q8 hD yg
        replace y2:=Cx.q8 hD y2
        have HD:=lhd (aiq hD hFU);clear hU hD hFU;go_upto_region 23 with fail;obtain⟨U1,hU1⟩ : ∃ U1,U1=U.setCell ⟨g6,k,none⟩ (.int .i64 (sv+s.g*r.g)):=⟨_,rfl⟩
        rw[<-hU1];have h6:yb≠g6:=fun e=>HT.out.2.2.2.1 _ (List.mem_of_getElem? (i:=1) rfl) (congrArg some e.symm)
        have h7:yb≠g7:=fun e=>HT.out.2.2.2.1 _ (List.mem_of_getElem? (i:=2) rfl) (congrArg some e.symm)
        have hF1:FR U1 B 3 [(.slice (some ⟨g5,0,none⟩) n5 c5,ids2),(.slice (some ⟨g6,0,none⟩) n6 c6,sums2.set k (sv+s.g*r.g)),(.slice (some ⟨g7,0,none⟩) n7 c7,many2),(.slice (some ⟨B,0,none⟩) xn xn,part),(.slice (some ⟨g9,0,none⟩) n9 c9,fir2)]:=by
         rw[hU1];exact HD.out.2.put (i:=1) rfl HT.out.2.2.2.2.2.2.2.2.1 k _
        have y3:U1.cell? ⟨yb,2,none⟩=some (.slice (some yd) y.n y.c):=by rw[hU1];exact xe y2 h6
        obtain⟨d70,d71⟩:=hF1.cell (i:=2) rfl HT.out.2.2.2.2.2.2.2.2.2.1 HV.out.2.1;have hBU:Below B W U:=HT.out.2.2.2.2.1.trans (HD.out.1.mono (by have:=HT.out.2.2.2.2.1.size;have:=HBQ.out;omega));have hB1:Below B W U1:=by rw[hU1];exact hBU.setCell (((HD.out.2.at (i:=1) rfl).lt g6 rfl).1) _
        have hs1:yb < U1.heap.size:=by rw[hU1];have:=HD.out.1.size;have:=HT.out.2.2.2.2.2.1;simp;omega
        have H1:=lhd (aiq hF1 (aiq y3 (aiq hB1 (aiq hs1 h7))));clear hU1 h6 h7 hF1 hBU hB1 hs1 x2 xs yg y2 d60 d61 y3;go_upto_region 24 with fail;obtain⟨U2,hU2⟩ : ∃ U2,U2=U1.setCell ⟨g7,k,none⟩ (.int .i64 (mv+1)):=⟨_,rfl⟩
        rw[<-hU2];have hF2:FR U2 B 3 [(.slice (some ⟨g5,0,none⟩) n5 c5,ids2),(.slice (some ⟨g6,0,none⟩) n6 c6,sums2.set k (sv+s.g*r.g)),(.slice (some ⟨g7,0,none⟩) n7 c7,many2.set k (mv+1)),(.slice (some ⟨B,0,none⟩) xn xn,part),(.slice (some ⟨g9,0,none⟩) n9 c9,fir2)]:=by
         rw[hU2];exact H1.out.1.put (i:=2) rfl HT.out.2.2.2.2.2.2.2.2.2.1 k _
        have y4:U2.cell? ⟨yb,2,none⟩=some (.slice (some yd) y.n y.c):=by rw[hU2];exact xe H1.out.2.1 H1.out.2.2.2.2
        have hB2:Below B W U2:=by rw[hU2];exact H1.out.2.2.1.setCell (((H1.out.1.at (i:=2) rfl).lt g7 rfl).1) _
        have hs2:yb < U2.heap.size:=by rw[hU2];have:=H1.out.2.2.2.1;simpa using this
        have d9:=(hF2.cell (i:=4) rfl HT.out.2.2.2.2.2.2.2.2.2.2.1 HV.out.2.2.2.1).1;have dq:=(hF2.cell (i:=3) rfl hpl.symm HV.out.2.2.2.2.1).1;have di:=(hF2.cell (i:=3) rfl hpl.symm HV.out.2.2.2.2.2).1;have H2:=lhd (aiq hF2 (aiq y4 (aiq hB2 hs2)));clear hU2 hF2 hB2 hs2 y4 d70 d71;go_wp2_with fail;go_loopw [16] (fun p wr=>∃ m:Nat,p = .int .i64 m/\m<=i+1/\Hid (FR wr B 3 [(.slice (some ⟨g5,0,none⟩) n5 c5,ids2),(.slice (some ⟨g6,0,none⟩) n6 c6,sums2.set k (sv+s.g*r.g)),(.slice (some ⟨g7,0,none⟩) n7 c7,many2.set k (mv+1)),(.slice (some ⟨B,0,none⟩) xn xn,rlb part m ov nv),(.slice (some ⟨g9,0,none⟩) n9 c9,fir2)]/\wr.cell? ⟨yb,2,none⟩=some (.slice (some yd) y.n y.c)/\Below B W wr/\yb < wr.heap.size)) (fun p _=>i+1 - (vI p).toNat)
        case atStart=>exact⟨0,rfl,Nat.zero_le _,(show Hid _ from by rw[qjd];exact H2.out)⟩
        case round =>
         obtain⟨m,rfl,hm,HM⟩:=hrel;by_cases hmi:m < i+1
         ·obtain⟨vm,hvm⟩ : ∃ vm,part[m]? = some vm:=⟨_,List.getElem?_eq_getElem (by omega)⟩
          have hvm2:(rlb part m ov nv)[m]? = some vm:=by rw[q0w,hvm];simp
          have hrl:xn=(rlb part m ov nv).length:=by rw[q9k];exact hpl.symm
          obtain⟨dm,fm⟩:=HM.out.1.cell (i:=3) rfl hrl hvm2;have hmI:(m:Int)<=i:=by omega
          have hmx:(m:Int) < xn:=by omega
          by_cases he:vm=nv
          ·have hb:(vm == nv)=true:=by simpa using he
           have HE:=lhd (aiq he (aiq hvm hrl));clear he hvm hvm2 hrl d9 dq di;go_wp2_with fail;go_roundw
           case measure=>simp[vI];omega
           case rel =>
            have hyB:yb≠B:=by omega
            refine⟨m+1,qh (by omega),by omega,(show Hid _ from⟨?_,xe HM.out.2.1 hyB,HM.out.2.2.1.setCell (nlr _) _,by have:=HM.out.2.2.2;simpa using this⟩)⟩;rw[qm3 part m ov nv (by rw[HE.out.2.1,HE.out.1])];exact HM.out.1.put (i:=3) rfl HE.out.2.2 m ov
          ·have hb:(vm == nv)=false:=by simpa using he
           have HE:=lhd (aiq he hvm);clear he hvm hvm2 hrl d9 dq di;go_wp2_with fail;go_roundw
           case measure=>simp[vI];omega
           case rel=>exact⟨m+1,qh (by omega),by omega,(show Hid _ from by rw[qje part m ov nv vm HE.out.2 HE.out.1];exact HM.out)⟩
         ·have hme:m=i+1:=by omega
          subst hme;have hmI:¬ ((i+1:Nat):Int)<=i:=by omega
          clear d9 dq di hmi;go_wp2_with fail;go_roundw
          case measure=>simp[vI];omega
          case rel =>
           have hav:AV [(.slice (some ⟨g5,0,none⟩) n5 c5,ids2),(.slice (some ⟨g6,0,none⟩) n6 c6,sums2.set k (sv+s.g*r.g)),(.slice (some ⟨g7,0,none⟩) n7 c7,many2.set k (mv+1)),(.slice (some ⟨B,0,none⟩) xn xn,rlb part (i+1) ov nv),(.slice (some ⟨g9,0,none⟩) n9 c9,fir2)] yb:=by
            intro p hp;simp only [List.mem_cons,List.not_mem_nil,or_false] at hp;rcases hp with rfl | rfl | rfl | rfl | rfl
            ·exact HT.out.2.2.2.1 (.slice (some ⟨g5,0,none⟩) n5 c5,ids2) (by simp)
            ·exact HT.out.2.2.2.1 (.slice (some ⟨g6,0,none⟩) n6 c6,sums2) (by simp)
            ·exact HT.out.2.2.2.1 (.slice (some ⟨g7,0,none⟩) n7 c7,many2) (by simp)
            ·exact HT.out.2.2.2.1 (.slice (some ⟨B,0,none⟩) xn xn,part) (by simp)
            ·exact HT.out.2.2.2.1 (.slice (some ⟨g9,0,none⟩) n9 c9,fir2) (by simp)
           have ho:oP (tK l) x.cl i (j+1)=oP (tK l) x.cl i j++[(r.c,i,s.g*r.g)]:=qm4 (x:=x.cl) HY.out.1 HY.out.2.2.2.1 HR.out.1;refine⟨j+1,ids2,sums2.set k (sv+s.g*r.g),many2.set k (mv+1),fir2,rlb part (i+1) ov nv,qh (by omega),by omega,by rw[q9k];exact hpl,(show Hid _ from⟨HM.out.1,?_,hav,by rw[HR.out.2.2.2];exact HM.out.2.1,HM.out.2.2.1,HM.out.2.2.2,?_⟩)⟩
           ·rw[ho];exact HT.out.2.1.put (fun d h=>h) HT.out.2.2.1 HV.out.1 HV.out.2.1 HV.out.2.2.2.1 HV.out.2.2.2.2.1 HV.out.2.2.2.2.2
           ·rw[ho,List.length_append];exact HT.out.2.2.2.2.2.2.2.1
    ·have hje:j=y.n:=by omega
     have HJE:=lhd hje;have hjI2:¬ (j:Int) < y.n:=by omega
     clear hje;go_wp2_with fail;go_roundw
     case measure=>simp[vI];omega
     case rel =>
      obtain⟨q1,q2,q3,q4,q5,q6,q7⟩:=HJ.out;have e:y.cl.s.length=j:=by show y.s.length=j;rw[HJE.out];exact H3.out.2.2.1
      have ho:oP (tK l) x.cl (i+1) 0=oP (tK l) x.cl i j:=by rw[<-qm5 (x:=x.cl) HY.out.1 HY.out.2.2.2.1,e]
      exact⟨i+1,ids,sums,many,fir,part,qh (by omega),by omega,hpl,(show Hid _ from by rw[ho];exact⟨q1,q2,q5,q7⟩)⟩
  ·have hin:i=xn:=by omega
   subst hin;have hd:=HI.out.2.1;rw[show (oP (tK l) x.cl i 0)=occ (tK l) x.cl by rw[<-qon];congr 1;exact HX.out.2.2.2.1.symm] at hd;obtain⟨d1,d2,d3⟩:=hd.done HX.out.2.2.2.2.2.2.1;have HD:=lhd (aiq d1 (aiq d2 (aiq d3 hd)));have HB2:=lhd hBW;obtain⟨wo,hwo⟩ : ∃ wo,wo=wr:=⟨_,rfl⟩
   subst hwo;clear d1 d2 d3 hd hBW;go_wp2_with fail;go_loopw [17] (fun p wr=>∃ k:Nat,p = .int .i64 k/\k<=sums.length/\Hid (Below wo.heap.size wo wr)) (fun p _=>sums.length - (vI p).toNat)
   case atStart=>exact⟨0,rfl,Nat.zero_le _,(show Hid _ from Below.refl _ _)⟩
   case round =>
    obtain⟨k,rfl,hk,HB⟩:=hrel;by_cases hlt:k < sums.length
    ·obtain⟨g,c,hge,_,_,hat,_⟩:=(HI.out.1.q8 HB.out).form (i:=1) rfl (by omega);have hge1:a6=some ⟨g,0,none⟩:=by injection hge
     have hge2:c6=c:=by injection hge
     subst hge1 hge2;obtain⟨z,hz⟩ : ∃ z,sums[k]? = some z:=⟨_,List.getElem?_eq_getElem hlt⟩
     have hz0:=HD.out.1 z (List.mem_of_getElem? hz);subst hz0;have d0:=(hat k 0 hz).1;have hkI:(k:Int) < sums.length:=by omega
     have HAT:=lhd hat;clear hat hz hge;go_wp2_with fail;go_roundw
     case measure=>simp[vI];omega
     case rel=>exact⟨k+1,qh (by omega),by omega,HB⟩
    ·have hkI:¬ (k:Int) < sums.length:=by omega
     obtain⟨w5,hw5⟩ : ∃ w5,w5=wr:=⟨_,rfl⟩
     subst hw5;go_wp2_with fail;go_loopw [18] (fun p wr=>∃ k:Nat,p = .int .i64 k/\k<=many.length/\Hid (Below wo.heap.size wo wr)) (fun p _=>many.length - (vI p).toNat)
     case atStart=>exact⟨0,rfl,Nat.zero_le _,HB⟩
     case round =>
      obtain⟨k,rfl,hk,HB⟩:=hrel;by_cases hlt:k < many.length
      ·obtain⟨g,c,hge,_,_,hat,_⟩:=(HI.out.1.q8 HB.out).form (i:=2) rfl (by omega);have hge1:a7=some ⟨g,0,none⟩:=by injection hge
       have hge2:c7=c:=by injection hge
       subst hge1 hge2;obtain⟨z,hz⟩ : ∃ z,many[k]? = some z:=⟨_,List.getElem?_eq_getElem hlt⟩
       have hz0:=HD.out.2.1 z (List.mem_of_getElem? hz);subst hz0;have d0:=(hat k 2 hz).1;have hkI:(k:Int) < many.length:=by omega
       have HAT:=lhd hat;clear hat hz hge;go_wp2_with fail;go_roundw
       case measure=>simp[vI];omega
       case rel=>exact⟨k+1,qh (by omega),by omega,HB⟩
      ·have hkI:¬ (k:Int) < many.length:=by omega
       obtain⟨w6,hw6⟩ : ∃ w6,w6=wr:=⟨_,rfl⟩
       subst hw6;go_wp2_with fail;go_loopw [19] (fun p wr=>∃ k:Nat,p = .int .i64 k/\k<=i/\Hid (Below wo.heap.size wo wr)) (fun p _=>i - (vI p).toNat)
       case atStart=>exact⟨0,rfl,Nat.zero_le _,HB⟩
       case round =>
        obtain⟨k,rfl,hk,HB⟩:=hrel;by_cases hlt:k < i
        ·obtain⟨g,c,hge,_,_,hat,_⟩:=(HI.out.1.q8 HB.out).form (i:=3) rfl (by rw[hpl];omega);have hge1:B=g:=by injection hge with h1;injection h1 with h1;injection h1
         subst hge1;obtain⟨z,hz⟩ : ∃ z,part[k]? = some z:=⟨_,List.getElem?_eq_getElem (by rw[hpl];exact hlt)⟩
         have hz0:=HD.out.2.2.1 k (by show k < x.s.length;have:=HX.out.2.2.2.1;omega);rw[hz] at hz0;have d0:=(hat k z hz).1;have d1:=(hat 0 z hz0.symm).1;have hkI:(k:Int) < i:=by omega
         have HAT:=lhd hat;clear hat hz hge hz0;go_wp2_with fail
         go_quiet (fail)
         go_wp2;go_roundw
         case measure=>simp[vI];omega
         case rel=>exact⟨k+1,qh (by omega),by omega,(show Hid _ from qb HB.out _)⟩
        ·have hkI:¬ (k:Int) < i:=by omega
         go_wp2_with fail;go_ret;exact⟨rfl,HX.out.2.2.2.2.2.2.2.2.2.1.trans ((HB2.out.trans (HB.out.mono HB2.out.size)).mono HX.out.2.2.2.2.2.2.2.2.2.1.size)⟩
end Go.Proofs.YtlhicnfeajejhaaGreatDoor
namespace Go.Cx
open Go.Proofs.YtlhicnfeajejhaaGreatDoor
theorem qcz {K:List Cl} (G:Good K) (hc:chk K=(0,0)):(∀ x∈K,xx (fun c=>K.find? fun y=>y.id == c) x=0)/\∀ x∈K,1 < x.dim->yi (fun c=>K.find? fun y=>y.id == c) x=0:=by
 have h1:canon K=K:=G.cells.1;have h2:cAt K=fun c=>K.find? fun y=>y.id == c:=by
  funext c
  unfold cAt;rw[G.cells.2]
 unfold chk at hc;rw[h1,h2] at hc;split at hc
 ·cases hc
 cases h3:q0a (fun c=>K.find? fun y=>y.id == c) 0 K with
 | some e =>
  rw[h3] at hc;have h4:=q1i h3;have h5:e=(0,0):=hc;rw[h5] at h4;exact absurd rfl h4
 | none =>
  rw[h3] at hc;have hc:(k9 (fun c=>K.find? fun y=>y.id == c) K).getD (0,0)=(0,0):=hc;refine⟨fun x hx=>((q4f h3).1 x hx).2,?_⟩;have key:∀ L:List Cl,(k9 (fun c=>K.find? fun y=>y.id == c) L).getD (0,0)=(0,0)->∀ x∈L,1 < x.dim->yi (fun c=>K.find? fun y=>y.id == c) x=0:=fun L=>by
   induction L with
   | nil=>intro _ x hx;cases hx
   | cons y L ih =>
    intro h x hx hd;unfold k9 at h;split at h
    ·rename_i hy;have h6:yi (fun c=>K.find? fun y=>y.id == c) y=0:=(Prod.mk.inj h).2;exact absurd h6 hy.2
    ·rename_i hy;rcases List.mem_cons.1 hx with rfl | hx
     ·exact Classical.byContradiction fun e=>hy ⟨hd,e⟩
     ·exact ih h x hx hd
  exact key K hc
theorem qg5 {K:List Cl} (G:Good K):q26 K=K:=by
 rw[qap G.asc]
 conv=>rhs;rw[<-List.map_id K]
 refine List.map_congr_left fun x hx=>?_
 show (⟨x.id,x.dim,zx x.s⟩ : Cl)=x;rw[qek ((G.sasc x hx).imp fun h=>by omega)]
end Go.Cx
namespace Go.Proofs.YtlhicnfeajejhaaGreatDoor
open Go.RowKit Go.Cx
attribute [local go_sem ↓] Go.wp_at_zero Go.wp_at_succ
theorem qma (v:Value) (l:List Ce) (w:World) (h:SlC w v l) (hl:l.length<=4000) (hsl:∀ x∈l,x.s.length<=1099511627776) (G:Cx.Good (l.map Ce.cl)) (hc:chk (l.map Ce.cl)=(0,0)) :
  Calls Tryz.prog 104 #[.agg #[v]] w fun e w'=>e = .returned (.tuple #[.int .i64 0,.int .i64 0])/\Below w.heap.size w w':=by
 obtain⟨a,n,cap,rfl⟩:=qg h.1;have hlen:l.length=n:=by
  obtain⟨_,_,h3,_⟩:=h.1.open;rw[qt Ce.qp] at h3;omega
 obtain⟨W,hW⟩ : ∃ W:World,W=w.alloc (.cells #[.slice a n cap] 26):=⟨_,rfl⟩
 have hB:Below w.heap.size w W:=by rw[hW];exact(Below.refl _ w).alloc (nlr _) _
 have b0:W.cell? ⟨w.heap.size,0,none⟩=some (.slice a n cap):=by rw[hW];exact qd w _ _ (0,0) 0
 obtain⟨gf,ga⟩:=qcz G hc;have HH:=lhd (aiq (h.q8 hB) (aiq hsl (aiq G (aiq gf (aiq ga (aiq hlen hB))))));have hn:n<=4000:=by omega
 have hng:¬ (4000:Int) < n:=by omega
 clear h hsl G hc hlen hB hl gf ga;go_enter Tryz.func104,Tryz.ntmps104;go_upto_region 3 with fail;rw[<-hW];clear hW;go_wp2_with fail;refine(q7s n _ l W HH.out.2.2.2.2.2.1 HH.out.1 (by have:=HH.out.2.2.2.2.2.1;omega) HH.out.2.1).mono ?_;rintro e w1 ⟨r,M,rfl,hM,hR,hb1⟩;rw[qg5 HH.out.2.2.1] at hM;have hMl:M.length=n:=by have:=congrArg List.length hM;rw[List.length_map,List.length_map,HH.out.2.2.2.2.2.1] at this;exact this
 obtain⟨ma,mc,hre⟩:=qj hR.1;subst hre;rw[hMl] at hR ⊢;have hB1:Below w.heap.size w w1:=HH.out.2.2.2.2.2.2.trans (hb1.mono HH.out.2.2.2.2.2.2.size);have hc1:=HH.out.1.q8 hb1
 replace b0:=Cx.q8 hb1 b0
 have hRs:SlC w1 (.slice ma n mc) M:=⟨Sl.qc hR.1,fun x hx=>Sl.qc (hR.2 x hx)⟩
 have H1:=lhd (aiq hM (aiq hMl (aiq hRs (aiq hB1 hc1))));clear hM hMl hR hB1 hc1 hRs hb1;go_wp2_with fail;refine(qdz _ l w1 H1.out.2.2.2.2 (by have:=HH.out.2.2.2.2.2.1;omega) HH.out.2.1).mono ?_;rintro e w2 ⟨r2,O,rfl,hO,hR2,hb2⟩;rw[q4v HH.out.2.2.1] at hO;have hOl:O.length=n:=by have:=congrArg List.length hO;rw[List.length_map,List.length_map,HH.out.2.2.2.2.2.1] at this;exact this
 obtain⟨oa,oc,hre⟩:=qj hR2.1;subst hre;rw[hOl] at hR2 ⊢;have hpO:O.Pairwise fun x y=>x.id < y.id:=by
  have h3:=HH.out.2.2.1.asc;rw[<-hO] at h3;exact(List.pairwise_map (f:=Ce.cl) (R:=fun x y:Cl=>x.id < y.id)).1 h3
 have hpM:M.Pairwise fun x y=>x.id < y.id:=by
  have h3:=HH.out.2.2.1.asc;rw[<-H1.out.1] at h3;exact(List.pairwise_map (f:=Ce.cl) (R:=fun x y:Cl=>x.id < y.id)).1 h3
 have hTO:tK O=fun c=>(l.map Ce.cl).find? fun y=>y.id == c:=by unfold tK;rw[hO]
 have hTM:tK M=fun c=>(l.map Ce.cl).find? fun y=>y.id == c:=by unfold tK;rw[H1.out.1]
 have hM2:SlC w2 (.slice ma n mc) M:=H1.out.2.2.1.q8 hb2;have hO2:SlC w2 (.slice oa n oc) O:=⟨Sl.qc hR2.1,fun x hx=>Sl.qc (hR2.2 x hx)⟩
 have hin:∀ x∈M,x.cl∈l.map Ce.cl:=fun x hx=>by rw[<-H1.out.1];exact List.mem_map.2 ⟨x,hx,rfl⟩
 have hB2:Below w.heap.size w w2:=H1.out.2.2.2.1.trans (hb2.mono H1.out.2.2.2.1.size);obtain⟨_,hmc,_⟩:=hM2.1.open;unfold maxLen at hmc;have H2:=lhd (aiq hOl (aiq hpO (aiq hpM (aiq hTO (aiq hTM (aiq hM2 (aiq hO2 (aiq hin hB2))))))));clear hO hOl hpO hpM hTO hTM hM2 hO2 hin hB2 hR2 hb2 b0;have hat:∀ U,Below w2.heap.size w2 U->∀ (i:Nat) (x:Ce),M[i]? = some x->∃ ad,ma=some ad/\U.cell? (ad.add (i*3))=some (.int .i64 x.id)/\U.cell? ⟨(ad.add (i*3)).block,(ad.add (i*3)).off+1,none⟩=some (.int .i64 x.dim)/\U.cell? ⟨(ad.add (i*3)).block,(ad.add (i*3)).off+2,none⟩=some (.slice x.a x.n x.c):=fun U hU i x hx=>by
  obtain⟨_,_,_,h5,h6⟩:=(H2.out.2.2.2.2.2.1.q8 hU).1.open;obtain⟨ad,hade⟩ : ∃ ad,ma=some ad:=by
   cases ma with
   | none=>have h1:=h5 rfl;have h2:=(List.getElem?_eq_some_iff.1 hx).1;have:=H1.out.2.1;omega
   | some ad=>exact⟨ad,rfl⟩
  obtain⟨e0,e1,e2⟩:=zh M i x hx;refine⟨ad,hade,h6 ad hade _ _ e0,?_,?_⟩
  ·rw[qi _ _ _ (by omega)];exact h6 ad hade _ _ e1
  ·rw[qi _ _ _ (by omega)];exact h6 ad hade _ _ e2
 have HAT:=lhd hat;clear hat;go_wp2_with fail;go_loopw [6] (fun p wr=>∃ k:Nat,p = .int .i64 k/\k<=n/\Hid (Below w2.heap.size w2 wr)) (fun p _=>n - (vI p).toNat)
 case atStart=>exact⟨0,rfl,Nat.zero_le _,(show Hid _ from Below.refl _ _)⟩
 case round =>
  obtain⟨k,rfl,hk,HB⟩:=hrel;by_cases hlt:k < n
  ·obtain⟨x,hx⟩ : ∃ x,M[k]? = some x:=⟨_,List.getElem?_eq_getElem (by rw[H1.out.2.1];exact hlt)⟩
   obtain⟨ad,hade,d0,d1,d2⟩:=HAT.out wr HB.out k x hx;have hxm:=List.mem_of_getElem? hx;have hpos:=HH.out.2.2.1.pos _ (H2.out.2.2.2.2.2.2.2.1 x hxm);have hid1:decide (x.id < 1)=false:=by
    have:0 < x.id:=hpos;simp;omega
   have hkI:(k:Int) < n:=by omega
   have hf:=HH.out.2.2.2.1 _ (H2.out.2.2.2.2.2.2.2.1 x hxm);have hcall:∀ U,Below w2.heap.size w2 U->Calls Tryz.prog 156 #[.slice oa n oc,x.v] U fun e w'=>e = .returned (.int .i64 0)/\Below U.heap.size U w':=fun U hU =>
    qm7 _ O x U (H2.out.2.2.2.2.2.2.1.q8 hU).1 (by have:=H2.out.1;omega) H2.out.2.1 ((H2.out.2.2.2.2.2.1.q8 hU).2 x hxm) (by have:=H2.out.2.2.2.1;unfold tK at this;rw[this];exact hf)
   unfold Ce.v at hcall;have HC:=lhd (aiq hx hcall);subst hade;clear hx hxm hpos hf hcall;by_cases hk0:0 < k;obtain⟨mm,hmm⟩ : ∃ mm,k=mm+1:=⟨k - 1,by omega⟩
   have hkd:decide ((0:Int) < (k:Int))=true:=by simpa using hk0
   have hw2:IntKind.i64.wrap ((k:Int) - 1)=(mm:Int):=by rw[IntWalk.i64_left,IntWalk.wrap64_in _ (by omega)];omega
   have hm0:(0:Int)<=(mm:Int):=by omega
   have hm1:(mm:Int) < (n:Int):=by omega
   obtain⟨y,hy⟩ : ∃ y,M[mm]? = some y:=⟨_,List.getElem?_eq_getElem (by rw[H1.out.2.1];omega)⟩
   obtain⟨ad2,hade2,r0,_⟩:=HAT.out wr HB.out mm y hy;have hade3:ad2=ad:=by injection hade2 with e;exact e.symm
   subst hade3;have hq:(x.id == y.id)=false:=by
    obtain⟨h1,e1⟩:=List.getElem?_eq_some_iff.1 hy;obtain⟨h2,e2⟩:=List.getElem?_eq_some_iff.1 HC.out.1;have:=List.pairwise_iff_getElem.1 H2.out.2.2.1 mm k h1 h2 (by omega);rw[e1,e2] at this;simp;omega
   clear hy hmm hade2;go_wp2_with fail
   go_quiet (fail)
   rotate_left;have hkd:decide ((0:Int) < (k:Int))=false:=by simpa using hk0
   go_wp2_with fail
   go_quiet (fail)
   all_goals
    obtain⟨V,hV⟩ : ∃ V,V=wr.drewN nq:=⟨_,rfl⟩
    have hBV:Below w2.heap.size w2 V:=by rw[hV];exact qb HB.out _
    rw[<-hV];obtain⟨ad3,hade4,v0,v1,v2⟩:=HAT.out V hBV k x HC.out.1;obtain rfl:=osi hade4;have HV:=lhd hBV;clear hV hBV hade4 d0 d1 d2 hkd;go_wp2_with fail;refine(HC.out.2 V HV.out).mono ?_;rintro e w4 ⟨rfl,hb4⟩;have H4:=lhd (HV.out.trans (hb4.mono HV.out.size));clear hb4 v0 v1 v2;go_wp2_with fail;go_roundw
    case measure=>simp[vI];omega
    case rel=>exact⟨k+1,qh (by omega),by omega,(show Hid _ from H4.out)⟩
  ·have HW:=lhd HB.out;go_wp2_with fail;go_loopw [8] (fun p wr=>∃ k:Nat,p = .int .i64 k/\k<=n/\Hid (Below w2.heap.size w2 wr)) (fun p _=>n - (vI p).toNat)
   case atStart=>exact⟨0,rfl,Nat.zero_le _,(show Hid _ from HW.out)⟩
   case round =>
    obtain⟨k,rfl,hk,HB⟩:=hrel;by_cases hlt:k < n
    ·obtain⟨x,hx⟩ : ∃ x,M[k]? = some x:=⟨_,List.getElem?_eq_getElem (by rw[H1.out.2.1];exact hlt)⟩
     obtain⟨ad,hade,d0,d1,d2⟩:=HAT.out wr HB.out k x hx;have hxm:=List.mem_of_getElem? hx;have hkI:(k:Int) < n:=by omega
     by_cases hd2:x.dim < 2
     ·subst hade;clear hx hxm d0 d2;go_wp2_with fail;go_roundw
      case measure=>simp[vI];omega
      case rel=>exact⟨k+1,qh (by omega),by omega,HB⟩
     ·have hxK:=H2.out.2.2.2.2.2.2.2.1 x hxm;have hf:=HH.out.2.2.2.1 _ hxK;have ha:=HH.out.2.2.2.2.1 _ hxK (by show 1 < x.dim;omega);have hp:=(q2f hf).1;have hx0:0 < x.s.length:=by
       have h1:x.cl.dim=x.dim:=rfl;have h2:x.cl.s.length=x.s.length:=rfl;omega
      have hcall:Calls Tryz.prog 157 #[.slice ma n mc,x.v] wr fun e w'=>e = .returned (.int .i64 0)/\Below wr.heap.size wr w' :=
       qjm _ M x wr (H2.out.2.2.2.2.2.1.q8 HB.out) (by have:=H1.out.2.1;omega) H2.out.2.2.1 ((H2.out.2.2.2.2.2.1.q8 HB.out).2 x hxm) (by rw[H2.out.2.2.2.2.1];exact hf) (by rw[H2.out.2.2.2.2.1];exact ha) (fun y hy=>HH.out.2.2.1.sg _ (H2.out.2.2.2.2.2.2.2.1 y hy)) (fun y hy=>HH.out.2.2.1.few _ (H2.out.2.2.2.2.2.2.2.1 y hy)) hx0
      unfold Ce.v at hcall;have HC:=lhd hcall;subst hade;clear hx hxm hxK hf ha hp hx0 hcall;go_wp2_with fail;refine HC.out.mono ?_;rintro e w4 ⟨rfl,hb4⟩;have H4:=lhd (HB.out.trans (hb4.mono HB.out.size));clear hb4;go_wp2_with fail;go_roundw
      case measure=>simp[vI];omega
      case rel=>exact⟨k+1,qh (by omega),by omega,(show Hid _ from H4.out)⟩
    ·go_wp2_with fail;go_ret2;exact⟨rfl,H2.out.2.2.2.2.2.2.2.2.trans (HB.out.mono H2.out.2.2.2.2.2.2.2.2.size)⟩
end Go.Proofs.YtlhicnfeajejhaaGreatDoor
