/- Steps towards SequenceChecks. Conditions: none. -/
import Derived.Test.YtmkpbhaoalbhjaaGreatDoorXRn
set_option maxRecDepth 1000000
set_option maxHeartbeats 0
open Go.Value renaming slice→O,agg→I,pointer→σ,bool→τ,int→H,tuple→ψ,string→ω
open Option renaming none→Z,some→Y
open Go renaming undef→V,World→δ,Value→ε
open Go.IntKind renaming i64→φ
open Go.Cx renaming keep→J
namespace Go.Proofs.YtmkpbhaoalbhjaaGreatDoor
open Go.RowKit Go.Cx
attribute [local go_sem ↓] Go.wp_at_zero Go.wp_at_succ
theorem y8 {w:δ}{st:Nat}{v:ε}{xs:List ε}(h:Sl w st v xs)(p:Addr)(u:ε)(hp:∀ad n c,v=O (Y ad) n c->ad.block≠p.block):Sl (w.setCell p u) st v xs:=by
 obtain⟨a,n,c,rfl,h2,h3,h4,h5,h6⟩:=h;refine⟨a,n,c,rfl,h2,h3,h4,h5,fun ad bR j x hj=>xe (h6 ad bR j x hj) ?_⟩;have e:(ad.add j).block=ad.block:=by unfold Addr.add;split <;> rfl
 rw[e];subst bR;exact hp ad n c rfl
structure Bxl (wr:δ)(B bs:Nat)(o:ε)(L:List Nat):Prop where
 c0:wr B=Y o
 z0:wr.frozen? B=false
 row:wr.ownsRow bs 3 1 o L.length (ints (nI L))
 lt:B<bs
 le:bs<=wr
theorem Bxl.put {wr w2:δ}{B bs:Nat}{o:ε}{L M:List Nat}(h:Bxl wr B bs o L)(hb:Below bs wr w2){v:ε}(hr:w2.ownsRow bs 3 1 v M.length (ints (nI M))):Bxl (w2.setCell B v) B bs v M where
 c0:=World.cell?_setCell_same' _ _ _ (by rw[(hb.cell (p:=B) h.lt).trans h.c0];rfl)
 z0:=by simpa [World.frozen?_setCell]using (hb.frozen (p:=B) h.lt).trans h.z0
 row:=qji hr (fun b hb=>by have:=(hr.lt b hb).1;have:=h.lt;show b≠B;omega) _
 lt:=h.lt
 le:=by have:=h.le;have:=hb.size;simp only [World.size_setCell];omega
theorem qto (L M:List Nat):nI (L++M)=nI L++nI M:=by unfold nI;exact gW
theorem qpk {w:δ}{B7 Ar bs b x:Nat}{o:ε}{L:List Nat}(h7:w ⟨B7,2,Z⟩=b)(ak:B7<Ar)(hB:Bxl w Ar bs o L)(hx:x<=400)(hb:b<=400)(hL:L.length<=400) :
  Calls Tryz.prog 88 #[x,σ B7,σ Ar] w fun e w'=>e=.returned (ψ #[])/\∃o',Bxl w' Ar bs o' (if b<=x then L++[x-b]else L)/\Below Ar w w':=by
 have al:=hB.row;obtain⟨oa,oc,rfl⟩:=qj al;obtain⟨n,hn⟩:=x4 L.length;rw[<-hn]at al hL hB;have e3:=hB.c0;have HX:=yt al hB ak hn;clear al hB ak hn;by_cases fF:b<=x
 ·rw[if_pos fF];have xB:(b:Int)<=x:=by omega
  have oZ:IntKind.i64.wrap ((x:Int)-(b:Int))=((x-b:Nat):Int):=by rw[Int.ofNat_sub fF];exact IntWalk.i64_in _ (by omega)
  obtain⟨y,hy⟩:=x4 (x-b);rw[<-hy]at oZ ⊢;clear fF hy;go_enter Tryz.func88,Tryz.ntmps88;have hle:=HX.a1.le;have al:=HX.out.1;go_wp2_with (at_builtin;refine qo (W:=w) rfl _ _ 23 rfl bs 3 Tryz.xg Tryz.underlying23 rfl (by decide) (by decide) _ _ _ rfl al [y] (by rfl) rfl (q5v _) ?bp2 q9 hle ?_)
  case bp2=>omega
  intro v2 w2 cE fY aj;obtain⟨fa,fc,rfl⟩:=qj cE;have hp:=HX.a1.put (w2:=w2) (M:=L++[y]) aj (v:=O fa (n+1) fc) (by rw[gw,<-HX.b3,qto,vk];exact cE)
  have Xy:=(aj.cell (p:=Ar) HX.a1.lt).trans e3;have Xz:=(aj.frozen (p:=Ar) HX.a1.lt).trans HX.a1.z0;have HP:=yh hp aj cE;clear hp aj cE fY al hle;go_wp2_with fail;refine bodyPost_end (v:=ψ #[]) (by simp[results,Tryz.results88]) rfl ?_;exact⟨rfl,_,HP.out.1,(HP.a1.mono (Nat.le_of_lt HX.a1.lt)).setCell (nlr _) _⟩
 ·rw[if_neg fF];have xB:¬(b:Int)<=x:=by omega
  go_enter Tryz.func88,Tryz.ntmps88;go_wp2_with fail;refine bodyPost_end (v:=ψ #[]) (by simp[results,Tryz.results88]) rfl ?_;exact⟨rfl,⟨_,HX.a1⟩,q9⟩
def chf (b:Nat)(L:List Nat):List Nat:=(L.filter fun j=>decide (b<=j)).map fun j=>j-b
theorem qpl {b k x:Nat}{P:List Nat}(h:P[k]? =Y x):chf b (P.take (k+1))=if b<=x then chf b (P.take k)++[x-b]else chf b (P.take k):=by
 unfold chf;rw[gC,h,Option.toList_some,gZ,gW];by_cases hx:b<=x
 ·rw[if_pos hx];simp[hx]
 ·rw[if_neg hx];simp[hx]
theorem qle (b:Nat)(L:List Nat):(chf b L).length<=L.length:=by unfold chf;rw[gp];exact gY _ _
def FmF (b:Nat)(w:δ)(v:ε)(p:Int)(r c:Nat)(M:List (List Int)):Prop:=∃s,v=I #[p,r,c,s]/\Sl w 1 s (ints M.flatten)/\FM p r c M/\∀ad n k,s=O (Y ad) n k->b<=ad.block
def FmO (b:Nat)(w:δ)(v:ε)(p:Int)(r c:Nat)(M:List (List Int)):Prop:=∃s,v=I #[p,r,c,s]/\w.ownsRow b 3 1 s (r*c) (ints M.flatten)/\FM p r c M
theorem FmO.f {b:Nat}{w:δ}{v:ε}{p:Int}{r c:Nat}{M:List (List Int)}(h:FmO b w v p r c M):FmF b w v p r c M:=by obtain⟨s,h1,h2,h3⟩:=h;exact⟨s,h1,Sl.qc h2,h3,fun ad n k e=>(h2.lt ad.block (by rw[e];rfl)).1⟩
theorem FmO.keep {b:Nat}{w w':δ}{v:ε}{p:Int}{r c:Nat}{M:List (List Int)}(h:FmO b w v p r c M)(hb:Below w w w'):FmO b w' v p r c M:=by obtain⟨s,h1,h2,h3⟩:=h;exact⟨s,h1,qa h2 hb,h3⟩
theorem Rw.own {w:δ}{E n b:Nat}{l:List Int}(h:Rw w E l)(hn:n<=l.length)(hb:b<=E)(hl:l.length<=maxLen):w.ownsRow b 3 1 (O E n l.length) n (ints (l.take n)):=by refine⟨by rw[xl,gD];omega,.inr ⟨E,l.length,(ints l).toArray,rfl,hb,h,hn,hl,by simp[xl],?_⟩⟩;simp[ints,List.map_take]
theorem FmF.fm {b:Nat}{w:δ}{v:ε}{p:Int}{r c:Nat}{M:List (List Int)}(h:FmF b w v p r c M):FmV w v p r c M:=by obtain⟨s,h1,h2,h3,_⟩:=h;exact⟨s,h1,h2,h3⟩
theorem FmF.keep {b:Nat}{w w':δ}{v:ε}{p:Int}{r c:Nat}{M:List (List Int)}(h:FmF b w v p r c M)(hb:Below w w w'):FmF b w' v p r c M:=by obtain⟨s,h1,h2,h3,h4⟩:=h;exact⟨s,h1,h2.keep hb,h3,h4⟩
theorem FmF.mono {b b':Nat}{w:δ}{v:ε}{p:Int}{r c:Nat}{M:List (List Int)}(h:FmF b w v p r c M)(hb:b'<=b):FmF b' w v p r c M:=by obtain⟨s,h1,h2,h3,h4⟩:=h;exact⟨s,h1,h2,h3,fun ad n k e=>gd hb (h4 ad n k e)⟩
theorem FmF.set {b:Nat}{w:δ}{v:ε}{p:Int}{r c:Nat}{M:List (List Int)}(h:FmF b w v p r c M)(B i:Nat)(hB:B<b)(u:ε):FmF b (w.setCell ⟨B,i,Z⟩ u) v p r c M:=by obtain⟨s,h1,h2,h3,h4⟩:=h;exact⟨s,h1,y8 h2 _ _ (fun ad n k e=>by have:=h4 ad n k e;show ad.block≠B;omega),h3,h4⟩
theorem FmF.q1f {b:Nat}{w:δ}{v:ε}{p:Int}{r c:Nat}{M:List (List Int)}(h:FmF b w v p r c M)(B:Nat)(hB:B<b)(x0 x1 x2 x3:ε):FmF b ((((w.setCell B x0).setCell ⟨B,1,Z⟩ x1).setCell ⟨B,2,Z⟩ x2).setCell ⟨B,3,Z⟩ x3) v p r c M :=
 (((h.set B 0 hB _).set B 1 hB _).set B 2 hB _).set B 3 hB _
theorem qrs {X wr ft:δ}{s6 s7 s8:Nat}{a:Nat}{x0 x1 x2 x3:ε}(hb:Below wr wr ft)(mX:s6<X.heap.size/\s7<X.heap.size/\s8<X.heap.size/\a<=s6/\s6<s7/\s7<s8)(hX:X.heap.size<=wr)
  (h7:wr s7=Y x0/\wr ⟨s7,1,Z⟩=Y x1/\wr ⟨s7,2,Z⟩=Y x2/\wr ⟨s7,3,Z⟩=Y x3)
  (h6:∀(i:Nat) (x:ε),(#[H φ 0,H φ 0,H φ 0,O Z 0 0] : Array ε)[i]? =Y x->wr ⟨s6,i,Z⟩=Y x) (f6:∀i,wr.frozen? ⟨s6,i,Z⟩=false) (f7:∀i,wr.frozen? ⟨s7,i,Z⟩=false) :
  ft s6=H φ 0/\ft ⟨s6,1,Z⟩=H φ 0/\ft ⟨s6,2,Z⟩=H φ 0/\ft ⟨s6,3,Z⟩=O Z 0 0 ∧
  ft s7=Y x0/\ft ⟨s7,1,Z⟩=Y x1/\ft ⟨s7,2,Z⟩=Y x2/\ft ⟨s7,3,Z⟩=Y x3 ∧
  (∀a b c d:ε,((((ft.setCell s6 a).setCell ⟨s6,1,Z⟩ b).setCell ⟨s6,2,Z⟩ c).setCell ⟨s6,3,Z⟩ d) s7=Y x0)/\(∀a b c d:ε,((((ft.setCell s6 a).setCell ⟨s6,1,Z⟩ b).setCell ⟨s6,2,Z⟩ c).setCell ⟨s6,3,Z⟩ d) ⟨s7,1,Z⟩=Y x1) ∧
  (∀a b c d:ε,((((ft.setCell s6 a).setCell ⟨s6,1,Z⟩ b).setCell ⟨s6,2,Z⟩ c).setCell ⟨s6,3,Z⟩ d) ⟨s7,2,Z⟩=Y x2)/\(∀a b c d:ε,((((ft.setCell s6 a).setCell ⟨s6,1,Z⟩ b).setCell ⟨s6,2,Z⟩ c).setCell ⟨s6,3,Z⟩ d) ⟨s7,3,Z⟩=Y x3) ∧
  (∀i,ft.frozen? ⟨s6,i,Z⟩=false)/\(∀i,ft.frozen? ⟨s7,i,Z⟩=false)/\¬s6=s7/\¬s7=s6:=by
 have k6:∀ {i:Nat} {x:ε},wr ⟨s6,i,Z⟩=Y x->ft ⟨s6,i,Z⟩=Y x:=fun hx=>(hb.cell (by show s6<_;omega)).trans hx
 have k7:∀ {i:Nat} {x:ε},wr ⟨s7,i,Z⟩=Y x->ft ⟨s7,i,Z⟩=Y x:=fun hx=>(hb.cell (by show s7<_;omega)).trans hx
 have Iq:∀ {i:Nat} {x:ε},wr ⟨s7,i,Z⟩=Y x->∀a b c d:ε,((((ft.setCell s6 a).setCell ⟨s6,1,Z⟩ b).setCell ⟨s6,2,Z⟩ c).setCell ⟨s6,3,Z⟩ d) ⟨s7,i,Z⟩=Y x:=fun hx a b c d =>xe (xe (xe (xe (k7 hx) (by show s7≠s6;omega)) (by show s7≠s6;omega)) (by show s7≠s6;omega)) (by show s7≠s6;omega)
 exact⟨k6 (h6 0 _ rfl),k6 (h6 1 _ rfl),k6 (h6 2 _ rfl),k6 (h6 3 _ rfl),k7 h7.1,k7 h7.2.1,k7 h7.2.2.1,k7 h7.2.2.2,Iq h7.1,Iq h7.2.1,Iq h7.2.2.1,Iq h7.2.2.2,fun i=>(hb.frozen (by show s6<_;omega)).trans (f6 i),fun i=>(hb.frozen (by show s7<_;omega)).trans (f7 i),by omega,by omega⟩
theorem qtp {ft:δ}{s6 s7:Nat}{x0 x1 x2 x3 y0 y1 y2 y3:ε}(hn:¬s6=s7)
  (q0:ft s6=Y y0) (q1:ft ⟨s6,1,Z⟩=Y y1) (q2:ft ⟨s6,2,Z⟩=Y y2) (q3:ft ⟨s6,3,Z⟩=Y y3)
  (t0:∀a b c d:ε,((((ft.setCell s6 a).setCell ⟨s6,1,Z⟩ b).setCell ⟨s6,2,Z⟩ c).setCell ⟨s6,3,Z⟩ d) s7=Y x0) (t1:∀a b c d:ε,((((ft.setCell s6 a).setCell ⟨s6,1,Z⟩ b).setCell ⟨s6,2,Z⟩ c).setCell ⟨s6,3,Z⟩ d) ⟨s7,1,Z⟩=Y x1)
  (t2:∀a b c d:ε,((((ft.setCell s6 a).setCell ⟨s6,1,Z⟩ b).setCell ⟨s6,2,Z⟩ c).setCell ⟨s6,3,Z⟩ d) ⟨s7,2,Z⟩=Y x2) (t3:∀a b c d:ε,((((ft.setCell s6 a).setCell ⟨s6,1,Z⟩ b).setCell ⟨s6,2,Z⟩ c).setCell ⟨s6,3,Z⟩ d) ⟨s7,3,Z⟩=Y x3) (a b c d a' b' c' d':ε) :
  ∃F:δ,F=((((((((ft.setCell s6 a).setCell ⟨s6,1,Z⟩ b).setCell ⟨s6,2,Z⟩ c).setCell ⟨s6,3,Z⟩ d).setCell s7 a').setCell ⟨s7,1,Z⟩ b').setCell ⟨s7,2,Z⟩ c').setCell ⟨s7,3,Z⟩ d') ∧
   F s6=Y a/\F ⟨s6,1,Z⟩=Y b/\F ⟨s6,2,Z⟩=Y c/\F ⟨s6,3,Z⟩=Y d/\F s7=Y a'/\F ⟨s7,1,Z⟩=Y b'/\F ⟨s7,2,Z⟩=Y c'/\F ⟨s7,3,Z⟩=Y d':=by
 obtain⟨k0,k1,k2,k3⟩:=q1f q0 q1 q2 q3;obtain⟨l0,l1,l2,l3⟩:=q1f (t0 a b c d) (t1 a b c d) (t2 a b c d) (t3 a b c d);refine⟨_,rfl,?_,?_,?_,?_,l0 _ _ _ _,l1 _ _ _ _,l2 _ _ _ _,l3 _ _ _ _⟩
 ·exact xe (xe (xe (xe (k0 a b c d) hn) hn) hn) hn
 ·exact xe (xe (xe (xe (k1 a b c d) hn) hn) hn) hn
 ·exact xe (xe (xe (xe (k2 a b c d) hn) hn) hn) hn
 ·exact xe (xe (xe (xe (k3 a b c d) hn) hn) hn) hn
theorem qlf {w:δ}{v:ε}{K:List Cl}{p:Int}(h:Kx w v K)(hp:prI p=true)(d:Int)(hd : -900<=d/\d<=900)(hn:∀d,nId K d<=100) :
  Calls Tryz.prog 57 #[v,d,p] w fun e w'=>∃x y,e=.returned (ψ #[x,y])/\FmF w w' x p (nId K d) (hK p K d) (q24 p K d)/\FmF w w' y p (nId K d) (bK p K d) (q9e p K d)/\Below w w w':=by
 obtain⟨a,an,ac,rfl⟩:=h.shape;have G:=h.q1v;obtain⟨cp,ng,eP⟩:=vm hp;have r9:∀e:Int,(∀x∈(List.range (nId K (e-1)*nId K e)).map fun t=>qac K e (t / nId K e) (t%nId K e),x.natAbs<p.natAbs):=fun e x hx=>by obtain⟨t,_,rfl⟩:=gj.1 hx;have:=qdv G ((q04 K e).getD (t%nId K e) 0) ((q04 K (e-1)).getD (t / nId K e) 0);unfold qac;omega
 have KS:IntKind.i64.wrap (d+1)=d+1:=IntWalk.i64_in _ (by omega);have HH:=kp h r9 hn hp eP cp;clear h r9 G cp ng eP hn hp;go_enter Tryz.func57,Tryz.ntmps57;go_wp2_with fail;obtain⟨W,hW⟩:=x4 (((w.alloc (.cells #[O a an ac] 36)).alloc (.cells #[H φ 0,H φ 0,H φ 0,O Z 0 0] 30)).alloc (.cells #[H φ 0,H φ 0,H φ 0,O Z 0 0] 30));rw[<-hW];have hw:Below w w W:=by rw[hW];exact(((q9).alloc (nlr _) _).alloc (by simp) _).alloc (by simp;omega) _
 have aG:W.heap.size=w+3:=by rw[hW];simp
 have b3:W w=O a an ac:=by rw[hW];exact qk (qk (xz w _ _ 0 rfl) _) _
 have r6:∀(i:Nat) (x:ε),(#[H φ 0,H φ 0,H φ 0,O Z 0 0] : Array ε)[i]? =Y x->W ⟨w+1,i,Z⟩=Y x:=fun i x hx=>by rw[hW];exact qk (zx w _ _ _ i hx) _
 have r7:∀(i:Nat) (x:ε),(#[H φ 0,H φ 0,H φ 0,O Z 0 0] : Array ε)[i]? =Y x->W ⟨w+1+1,i,Z⟩=Y x:=fun i x hx=>by rw[hW];exact jw w _ _ _ _ i hx
 have f6:∀i,W.frozen? ⟨w+1,i,Z⟩=false:=fun i=>by rw[hW];exact q27 (by simp) (vo w _ _ _ i) _
 have f7:∀i,W.frozen? ⟨w+1+1,i,Z⟩=false:=fun i=>by rw[hW];exact q1e w _ _ _ _ i
 have HW:=kp r6 r7 f6 f7 hw aG;have pE:=lhd (HH.out.1.keep hw);clear r6 r7 f6 f7 hw aG hW;obtain⟨s6,cW⟩:=x4 (w.heap.size+1);obtain⟨s7,lD⟩:=x4 (w.heap.size+1+1);rw[<-lD,<-cW];have HS:=jg cW lD;clear cW lD;refine(q6x pE.out d (by omega) (gd (HH.a2 _) (by decide)) (gd (HH.a2 _) (by decide))).mono ?_;rintro e w1 ⟨u1,rfl,Lc,ae⟩;obtain⟨ua,un,uc,rfl⟩:=qg Lc;have Ld:=jg Lc ae;clear Lc ae;go_wp2_with fail;refine(qfo Ld.out.1 (qav HH.b5 K d) (q6y p K d) (HH.a1 d) HH.a3 (gd (HH.a2 _) (by decide)) (gd (HH.a2 _) (by decide))).mono ?_;rintro e w2 ⟨x2,rfl,⟨u2,rfl,fz,mM⟩,aj⟩;obtain⟨OC,OD,OE,rfl⟩:=qg fz;have Ek:=yh fz mM ((btr Ld.out.2 aj));clear fz mM aj;go_wp2_with fail;refine(qro p _ _ _ _ _ Ek.out.1 HH.a3 Ek.a1 (gd (HH.a2 _) (by decide)) (gd (HH.a2 _) (by decide))).mono ?_;rintro e w3 ⟨E3,q,hq,rfl,Ca,El,Ir,aw⟩
 replace hq:q=qK p K d:=hq
 replace Ir:IL w3 E3 (qcr p K d).flatten:=Ir
 obtain⟨r,hr⟩:=x4 (nId K d);rw[<-hr];have OF:r<=100/\q<=100:=by obtain⟨_,h1,h2,h3⟩:=q0s HH.b5 (qav HH.b5 K d);have h4:=qi4 h3 h2;have h5:=HH.a2 d;rw[hq,hr];exact⟨h5,by show (q2n (nId K d) (jk p (nId K d) (bdP p K d)).2).length<=100;omega⟩
 have Em:W<=E3:=gd Ek.b2.size Ca;have lZ:=kp Ir Em El ((btr Ek.b2 aw)) hq hr;clear Ir Ca El aw hq hr Em;have c3:=fun o=>qk (J lZ.a3 b3) o
 obtain⟨rq,Au⟩:=x4 (r*q);rw[<-Au];have TM:=lhd Au;clear Au;go_wp2_with fail;obtain⟨C1,hV⟩:=x4 (w3.alloc (.cells #[p,r,q,O E3 rq rq] 30));rw[<-hV];have fu:Below W W C1:=by rw[hV];exact lZ.a3.alloc lZ.a3.size _
 obtain⟨s8,mf⟩:=x4 w3.heap.size;rw[<-mf];have OG:IL C1 E3 (qcr p K d).flatten:=by rw[hV];exact lZ.out.1.keep ((q9).alloc (nlr _) _) lZ.a2
 have r8:∀(i:Nat) (x:ε),(#[p,r,q,O E3 rq rq] : Array ε)[i]? =Y x->C1 ⟨s8,i,Z⟩=Y x:=fun i x hx=>by rw[hV,mf];exact xz w3 _ _ i hx
 have En:s8<C1.heap.size/\W<=s8/\E3<C1.heap.size:=by rw[hV,mf];exact⟨by simp,lZ.a3.size,by have:=lZ.a2;simp;omega⟩
 have HV:=yt fu OG r8 En;have TN:=lhd (pE.out.keep fu);clear hV fu mf OG r8 En c3;refine(q6x TN.out (d+1) (by omega) (gd (HH.a2 _) (by decide)) (gd (HH.a2 _) (by decide))).mono ?_;have fh:=q6y p K (d+1);have D6:=HH.a1 (d+1);have e1:d+1-1=d:=by omega
 rw[e1]at fh D6;rw[e1];have OH:=jg fh D6;clear fh D6 e1;rintro e w4 ⟨u4,rfl,Le,aN⟩;obtain⟨X0,X1,X2,rfl⟩:=qg Le;have Lf:=jg Le aN;clear Le aN;go_wp2_with fail;refine(qfo Lf.out.1 (qbl HH.b5 K d) OH.out.1 OH.out.2 HH.a3 (gd (HH.a2 _) (by decide)) (gd (HH.a2 _) (by decide))).mono ?_;rintro e w5 ⟨x5,rfl,⟨u5,rfl,Av,Cb⟩,aC⟩;obtain⟨OI,OJ,OK,rfl⟩:=qg Av;have Eo:=yh Av Cb ((btr Lf.out.2 aC));clear Av Cb aC;go_wp2_with fail;refine(qtj p _ _ _ _ _ Eo.out.1 HH.a3 Eo.a1 (gd (HH.a2 _) (by decide)) (gd (HH.a2 _) (by decide))).mono ?_;rintro e w6 ⟨E6,rfl,BN,Ep,Is,cQ⟩;obtain⟨b,hb⟩:=x4 (q2r p (nId K (d+1)) (bdP p K (d+1)));rw[<-hb,<-lZ.b5]
 replace Is:IL w6 E6 (q9e p K d).flatten:=Is
 replace hb:b=bK p K d:=hb
 have OL:b<=100:=by rw[hb];exact gd (qst K d HH.a4).2 (HH.a2 d)
 have Aw:=(btr Eo.b2 cQ);have Er:C1.heap.size<=E6:=gd Eo.b2.size BN;have kH:Below W W w6:=(btr HV.out.1 Aw);obtain⟨rb,Ax⟩:=x4 (r*b);rw[<-Ax];have nY:s6=w+1/\s7=w+1+1/\W.heap.size=w+3:=⟨HS.out.1,HS.out.2,HW.b5⟩
 have z0:w6 s7=H φ 0:=(kH.cell (p:=s7) (by simp;omega)).trans (by rw[nY.2.1];exact HW.a1 0 _ rfl);have z1:w6 ⟨s7,1,Z⟩=H φ 0:=(kH.cell (p:=⟨s7,1,Z⟩) (by simp;omega)).trans (by rw[nY.2.1];exact HW.a1 1 _ rfl);have z2:w6 ⟨s7,2,Z⟩=H φ 0:=(kH.cell (p:=⟨s7,2,Z⟩) (by simp;omega)).trans (by rw[nY.2.1];exact HW.a1 2 _ rfl);have z3:w6 ⟨s7,3,Z⟩=O Z 0 0:=(kH.cell (p:=⟨s7,3,Z⟩) (by simp;omega)).trans (by rw[nY.2.1];exact HW.a1 3 _ rfl);have y0:w6.frozen? s7=false:=(kH.frozen (p:=s7) (by simp;omega)).trans (by rw[nY.2.1];exact HW.a3 0);have y1:w6.frozen? ⟨s7,1,Z⟩=false:=(kH.frozen (p:=⟨s7,1,Z⟩) (by simp;omega)).trans (by rw[nY.2.1];exact HW.a3 1);have y2:w6.frozen? ⟨s7,2,Z⟩=false:=(kH.frozen (p:=⟨s7,2,Z⟩) (by simp;omega)).trans (by rw[nY.2.1];exact HW.a3 2);have y3:w6.frozen? ⟨s7,3,Z⟩=false:=(kH.frozen (p:=⟨s7,3,Z⟩) (by simp;omega)).trans (by rw[nY.2.1];exact HW.a3 3);obtain⟨X,hX⟩:=x4 ((((w6.setCell s7 p).setCell ⟨s7,1,Z⟩ r).setCell ⟨s7,2,Z⟩ b).setCell ⟨s7,3,Z⟩ (O E6 rb rb));have lj:=q5h Is Ep Aw Er kH Ax hb hX;have TO:=lhd nY;clear Is BN Ep cQ Aw hb Er kH Ax hX nY;go_upto_region 3 with fail;rw[<-lj.b7];have hX:=lj.b7;obtain⟨t0,t1,t2,t3⟩:=q1f z0 z1 z2 z3;have OM:X s7=p:=by rw[hX];exact t0 _ _ _ _
 have ON:X ⟨s7,1,Z⟩=r:=by rw[hX];exact t1 _ _ _ _
 have Lg:X ⟨s7,2,Z⟩=b:=by rw[hX];exact t2 _ _ _ _
 have OO:X ⟨s7,3,Z⟩=O E6 rb rb:=by rw[hX];exact t3 _ _ _ _
 have kN:Bk s7 w6 X:=by rw[hX];exact((((Bk.refl s7 w6).set 0 _).set 1 _).set 2 _).set 3 _
 have OP:X.heap.size=w6:=by rw[hX];simp
 have ak:=HV.b3;have nY:=TO.out;have It:=lj.a2.size;have Iu:=HV.out.1.size;have c8:∀(i:Nat) (x:ε),(#[p,r,q,O E3 rq rq] : Array ε)[i]? =Y x->X ⟨s8,i,Z⟩=Y x:=fun i x hx=>kN.cell (by show s8≠s7;omega) ((lj.a2.cell (p:=⟨s8,i,Z⟩) ak.1).trans (HV.a2 i x hx))
 have TP:=c8 0 _ rfl;have TQ:=c8 1 _ rfl;have TR:=c8 2 _ rfl;have TS:=c8 3 _ rfl;have OQ:∀i,X.frozen? ⟨s7,i,Z⟩=false:=fun i=>by rw[hX];simp only [World.frozen?_setCell];exact(lj.a4.frozen (p:=⟨s7,i,Z⟩) (by show s7<_;omega)).trans (by rw[nY.2.1];exact HW.a3 i)
 have OR:∀(i:Nat) (x:ε),(#[H φ 0,H φ 0,H φ 0,O Z 0 0] : Array ε)[i]? =Y x->X ⟨s6,i,Z⟩=Y x:=fun i x hx=>kN.cell (by show s6≠s7;omega) ((lj.a4.cell (p:=⟨s6,i,Z⟩) (by show s6<_;omega)).trans (by rw[nY.1];exact HW.out.1 i x hx))
 have OS:∀i,X.frozen? ⟨s6,i,Z⟩=false:=fun i=>kN.q5d (by show s6≠s7;omega) (by show s6<_;omega) ((lj.a4.frozen (p:=⟨s6,i,Z⟩) (by show s6<_;omega)).trans (by rw[nY.1];exact HW.a2 i))
 have OT:IL X E3 (qcr p K d).flatten:=(HV.a1.keep lj.a2 ak.2.2).bk kN (by have:=lZ.a1;omega);have Lh:IL X E6 (q9e p K d).flatten:=lj.out.1.bk kN (by have:=lj.a3;omega);have OU:Below w w X:=kN.lower (HW.a4.trans (lj.a4.mono (by omega))) (by omega) (by omega);have Iv:FmV X (I #[p,r,q,O E3 rq rq]) p r q (qcr p K d):=by rw[TM.out];have hF:=qbp K d (p:=p) (vm HH.a3).2.1;rw[<-lZ.a4,<-lZ.b5]at hF;exact qbh OT hF (by omega) (by omega)
 have OV:FmV X (I #[p,r,b,O E6 rb rb]) p r b (q9e p K d):=by rw[lj.a5];have hF:=(q9f K d HH.a4).1;rw[<-lj.a6,<-lZ.b5]at hF;exact qbh Lh hF (by omega) (by omega)
 have Es:E6<X.heap.size:=by have:=lj.a1;omega
 have mX:s6<X.heap.size/\s7<X.heap.size/\s8<X.heap.size/\w<=s6/\s6<s7/\s7<s8:=by omega
 have Et:s7<E6:=by have:=lj.a3;omega
 have Iw:=yt OM ON Lg OO;have HX:=qnt Iv OV OU OQ OR OS Lh Es mX Et c8 OP;clear hX t0 t1 t2 t3 kN OP ak nY It Iu OQ OR OS OT Lh OU Iv OV Es mX Et z0 z1 z2 z3 y0 y1 y2 y3 c8;go_wp2_with fail;refine(qpe HX.a1 HX.out.1 HH.a3 (by omega) (by omega)).mono ?_;rintro e w7 ⟨x7,rfl,sI,cq⟩;obtain⟨bq,C7⟩:=x4 (b+q);rw[<-C7]at sI;obtain⟨u7,rfl,Ay,sI⟩:=sI;obtain⟨OW,OX,OY,rfl⟩:=qg Ay;have TT:bq<=200:=by omega
 have xM:=yh (show FmV w7 _ p r bq (jl (q9e p K d) (qcr p K d))from⟨_,rfl,Ay,sI⟩) cq C7;clear Ay sI cq C7;go_wp2_with fail;refine(qmt (xM.out.1.keep ((q9).alloc (nlr _) _)) HH.a3 (by omega) (by omega)).mono ?_;rintro e w9 ⟨x9,t9,rfl,⟨u9,rfl,OZ,Ix⟩,Eu,ei⟩;obtain⟨TU,TV,TW,rfl⟩:=qg OZ;obtain⟨ta,tn,tc,rfl⟩:=qg Eu;obtain⟨P,hP⟩:=x4 ((jk p bq (jl (q9e p K d) (qcr p K d))).2);rw[<-hP]at Eu;have Pa:tn=P.length:=by have:=Eu.open.2.2.1;rw[xl,qjk]at this;omega
 have Pb:∀x∈P,x<bq:=by rw[hP];exact(q0s HH.b5 (by have:=q0u HX.a1.choose_spec.2.2 HX.out.1.choose_spec.2.2;rw[<-xM.b2]at this;exact this)).2.2.1
 have TX:tn<=400:=by have:=(q0s HH.b5 (by have:=q0u HX.a1.choose_spec.2.2 HX.out.1.choose_spec.2.2;rw[<-xM.b2]at this;exact this)).2.1;rw[<-hP]at this;omega
 have Pc:P.length<=r:=by rw[hP];exact(q0s HH.b5 (by have:=q0u HX.a1.choose_spec.2.2 HX.out.1.choose_spec.2.2;rw[<-xM.b2]at this;exact this)).2.1
 have Pd:Below X.heap.size X w9:=xM.a1.trans (((bal w7 _).trans (ei.mono (by simp))).mono xM.a1.size);have tR:=kp Eu Pd hP Pa Pb Pc;clear OZ Ix Eu ei Pd hP Pa Pb Pc;go_wp2_with fail;obtain⟨As,hY⟩:=x4 ((w9.alloc (.cells #[p,r,bq,O TU TV TW] 30)).alloc (.cells #[O Z 0 0] 23));rw[<-hY];obtain⟨xN,pG⟩:=x4 (w9.heap.size+1);rw[<-pG];have Pe:As.heap.size=xN+1:=by rw[hY,pG];simp
 have Li:Below w9 w9 As:=by rw[hY];exact((q9).alloc (nlr _) _).alloc (by simp) _
 have Pf:Bxl As xN (xN+1) (O Z 0 0) (chf b (P.take 0)):=⟨by rw[hY,pG];exact zx w9 _ _ _ 0 rfl,by rw[hY,pG];exact vo w9 _ _ _ 0,World.ownsRow_nil _ _ _ _,by omega,by omega⟩
 have Lj:Below X.heap.size X As:=(btr tR.a1 Li);have Ev:=(Lj.cell (p:=⟨s7,2,Z⟩) (by show s7<_;have:=HX.a8;omega)).trans Lg;have xO:s7<xN/\X.heap.size<xN:=by have:=HX.a8;have:=tR.a1.size;omega
 have HY:=kp Pe Li Lj Ev xO pG;have rf:=lhd Pf;clear hY Pe Li Lj Ev xO pG Pf OM ON Lg OO TP TQ TR TS;go_loopw [44] (fun x wr=>∃(k:Nat) (o:ε),x=k/\k<=tn/\Hid (Bxl wr xN (xN+1) o (chf b (P.take k)))/\Hid (Below xN As wr)) (fun x _=>tn-(vI x).toNat)
 case atStart=>exact⟨0,O Z 0 0,rfl,gm _,rf,(lhd q9)⟩
 case round =>
  obtain⟨k,o,rfl,hk,HR,HB⟩:=hrel;by_cases TY:k<tn
  ·have cV:(k:Int)<tn:=by omega
   obtain⟨ld,z,hle,hz,d0⟩:=q00 tR.out.1 TY;subst hle;obtain⟨j,hj,rfl⟩:∃j:Nat,P[k]? =Y j/\z=(j:Int):=by
    unfold nI at hz;rw[List.getElem?_map]at hz;cases hy:P[k]? with
    |none=>rw[hy]at hz;cases hz
    |some y=>rw[hy]at hz;exact⟨y,rfl,(osi hz).symm⟩
   have Pg:=tR.a4 j (gi hj);have d1:=(HB.out.cell (p:=ld.add k) (by have:=World.block_lt_of_cell? w9 _ d0;have:=HY.b5;omega)).trans (J HY.a1 d0);have Ev:=(HB.out.cell (p:=⟨s7,2,Z⟩) HY.a4.1).trans HY.a3;have ag:=qpl (b:=b) hj;have nP:(chf b (P.take k)).length<=400:=by
    have h1:=qle b (P.take k);have h2:=tR.b5;have h3:(P.take k).length<=P.length:=by rw[gD];exact Nat.min_le_right _ _
    omega
   have HT:=yt ag nP Pg Ev;clear ag nP hj hz d0 Ev Pg;go_wp2_with fail;refine(qpk HT.b3 HY.a4.1 HR.out (by have:=HT.a2;omega) (by omega) HT.a1).mono ?_;rintro e w3 ⟨rfl,o2,aJ,aw⟩;rw[<-HT.out.1]at aJ;have dh:=lhd aJ;have TZ:=lhd (HB.out.trans aw);clear aJ aw;go_wp2_with fail;go_roundw
   case measure=>simp[vI];omega
   case rel=>exact⟨k+1,o2,qh (by omega),by omega,dh,TZ⟩
  ·have aM:k=tn:=by omega
   subst aM;have hl:chf b (P.take k)=qaw p K d:=by rw[tR.a3,List.take_length];unfold qaw qg2 chf;rw[tR.a2,xM.b2,lj.a6,lZ.a4]
   rw[hl]at HR;clear hl;have mX:=HX.a8;have Ew:=HY.a4;have pH:Below X.heap.size X wr:=HY.a2.trans (HB.out.mono (by omega));have kc:∀ {z:Nat} {i:Nat} {x:ε},z<X.heap.size->X ⟨z,i,Z⟩=Y x->wr ⟨z,i,Z⟩=Y x:=fun hz hx=>(pH.cell (by exact hz)).trans hx
   have kz:∀ {z:Nat} {i:Nat},z<X.heap.size->X.frozen? ⟨z,i,Z⟩=false->wr.frozen? ⟨z,i,Z⟩=false:=fun hz hx=>(pH.frozen (by exact hz)).trans hx
   have Ua:=kc mX.2.1 Iw.out.1;have Ex:=kc mX.2.1 Iw.a1;have Ll:=kc mX.2.1 Iw.a2;have Lm:=kc mX.2.1 Iw.b3;have c8:=HX.a10;have Ph:=kc mX.2.2.1 (c8 0 _ rfl);have Pj:=kc mX.2.2.1 (c8 1 _ rfl);have X4:=kc mX.2.2.1 (c8 2 _ rfl);have Pk:=kc mX.2.2.1 (c8 3 _ rfl);have g13:=HR.out.c0;have al:=HR.out.row;obtain⟨oa,oc,rfl⟩:=qj al;obtain⟨hn,Ln⟩:=x4 ((qaw p K d).length);rw[<-Ln]at g13 al;have g6:∀(i:Nat) (x:ε),(#[H φ 0,H φ 0,H φ 0,O Z 0 0] : Array ε)[i]? =Y x->wr ⟨s6,i,Z⟩=Y x:=fun i x hx=>kc mX.1 (HX.a4 i x hx)
   have f6:∀i,wr.frozen? ⟨s6,i,Z⟩=false:=fun i=>kz mX.1 (HX.a5 i)
   have f7:∀i,wr.frozen? ⟨s7,i,Z⟩=false:=fun i=>kz mX.2.1 (HX.a3 i)
   have Lo:X.heap.size<=wr:=pH.size;have eG:Below wr wr wr.drew:=qb (Below.refl _ wr) 1;have Iv:FmV wr.drew _ p r q (qcr p K d):=HX.out.1.keep (pH.trans (eG.mono Lo));have Pl:Sl wr.drew 1 (O oa hn oc) (ints (nI (qaw p K d))):=(Sl.qc al).keep eG;have Pm:∀j∈qaw p K d,j<q:=by rw[lZ.a4];exact qkw K d HH.a4
   have aW:(qaw p K d).length<=400:=by
    have h1:=qle b P;have h2:qaw p K d=chf b P:=by unfold qaw qg2 chf;rw[tR.a2,xM.b2,lj.a6,lZ.a4]
    have h3:=tR.b5;rw[h2];omega
   obtain⟨u8,Az,mf,Ey⟩:=Iv;have Ez:u8=O E3 rq rq:=by injection Az with Az;injection Az with Az;simp at Az;exact Az.symm
   rw[Ez]at mf;have HC:=kp mf Ey Pl Pm aW Ln;have HG:=q4q g6 f6 f7 Lo pH mX Ew;have Ub:=yt Ua Ex Ll Lm;clear g6 f6 f7 Lo pH kc kz mX Ew mf Ey Pl Pm aW Ln eG Az Ez al c8;go_wp2_with fail
   go_region_with (go_at_call 89;refine(qmx p r q _ _ _ _ _ HC.out.1 HC.a2 HC.a1 HC.a3 (by omega) (by omega) HC.a4).mono ?_;rintro e ft ⟨sv,rfl,uZ,eo⟩;rw[<-HC.b5]at uZ ⊢;obtain⟨ya,yc,rfl⟩:=qj uZ;have A0:Below wr wr ft:=xt (eo.mono (by simp));obtain⟨q0,q1,q2,q3,v0,v1,v2,v3,t0,t1,t2,t3,m0,m1,m2,m3⟩:=qrs A0 HG.a5 HG.a3 Ub.out HG.out.1 HG.a1 HG.a2;have HE:=jg uZ A0;clear uZ eo A0)
   all_goals
    go_wp2_with fail;obtain⟨F,hF,e0,e1,e2,e3,l0,l1,l2,l3⟩:=qtp m2 q0 q1 q2 q3 t0 t1 t2 t3 p r hn (O ya (r*hn) yc) p r b (O E6 rb rb);rw[<-hF];refine bodyPost_ret (v:=ψ #[I #[p,r,hn,O ya (r*hn) yc],I #[p,r,b,O E6 rb rb]]) (by simp[results,Tryz.results57,go_sem,e0,e1,e2,e3,l0,l1,l2,l3]) rfl ⟨_,_,rfl,?_,?_,?_⟩
    ·have al:=HE.out.1;have bX:∀x:Nat,(O ya (r*hn) yc).ownBlock=Y x->wr<=x:=fun x hx=>by have:=(al.lt x hx).1;simpa using this
     have eS:F.ownsRow wr.drew.heap.size 3 1 (O ya (r*hn) yc) (r*hn) (ints (q3v (qcr p K d) (qaw p K d)).flatten):=by rw[hF];exact vl (vl al (fun x hx=>by have:=bX x hx;have:=HG.a3;have:=HG.a5;omega) _ _ _ _) (fun x hx=>by have:=bX x hx;have:=HG.a3;have:=HG.a5;omega) _ _ _ _
     refine⟨_,?_,Sl.qc eS,qkx K d HH.a4,fun ad n k e=>?_⟩
     ·rw[HC.b5,lZ.b5];rfl
     ·have h1:=bX ad.block (by rw[e];rfl);have:=HX.a2.size;have:=HG.a3;omega
    ·have hI:IL F E6 (q9e p K d).flatten:=by rw[hF];have h0:=HX.a6;have h1:=HX.a7;have h2:=(h0.keep HG.a4 h1).keep HE.out.2 (by have:=HG.a3;omega);have h3:=HX.a9;have h4:=HG.a5;exact(((((((h2.set _ _ (by show s6≠E6;omega)).set _ _ (by show s6≠E6;omega)).set _ _ (by show s6≠E6;omega)).set _ _ (by show s6≠E6;omega)).set _ _ (by show s7≠E6;omega)).set _ _ (by show s7≠E6;omega)).set _ _ (by show s7≠E6;omega)).set _ _ (by show s7≠E6;omega)
     have Cc:=(q9f K d HH.a4).1;rw[<-lj.a6,<-lZ.b5]at Cc;rw[lj.a5,<-lj.a6,<-lZ.b5];obtain⟨sv,k1,k2,k3⟩:=qbh hI Cc (by omega) (by omega);refine⟨sv,k1,k2,k3,fun ad n k e=>?_⟩;injection k1 with k1;injection k1 with k1
     simp at k1;rw[<-k1]at e;injection e with e;injection e with e
     rw[<-e];have:=HX.a9;have:=HG.a5;show w<=E6;omega
    ·rw[hF];have h4:=HG.a5;have h5:=HX.a2;exact jj (jj (((btr h5 HG.a4)).trans (HE.out.2.mono (gd h5.size HG.a3))) h4.2.2.2.1 _ _ _ _) (by omega) _ _ _ _
end Go.Proofs.YtmkpbhaoalbhjaaGreatDoor
namespace Go.Cx
open Go.Proofs.YtmkpbhaoalbhjaaGreatDoor
theorem qpm {K:List Cl}(G:Good K)(h:chk K=(0,0)) : -1<=q5i K/\q5i K<=8:=by
 obtain⟨_,_,h3⟩:=q4v.1 h;rw[G.cells.1]at h3;unfold q5i;refine⟨(q6g _ _).1,?_⟩;rcases q58 (K.map Cl.dim) (-1)with e|e
 ·rw[e];decide
 ·obtain⟨x,hx,e⟩:=gj.1 e;rw[<-e];have h4:=(h3 x hx).2.1;unfold xx at h4;split at h4
  ·cases h4
  ·omega
end Go.Cx
namespace Go.Proofs.YtmkpbhaoalbhjaaGreatDoor
open Go.RowKit Go.Cx
attribute [local go_sem ↓] Go.wp_at_zero Go.wp_at_succ
theorem qad {w:δ}{v:ε}{K:List Cl}(h:Kx w v K)(hf:∀d,nId K d<=100):Calls Tryz.prog 54 #[v] w fun e w'=>e=.returned (τ true)/\Below w w w':=by
 obtain⟨a,len,cap,rfl⟩:=h.shape;obtain⟨W,hW⟩:=x4 (w.alloc (.cells #[O a len cap] 36));have hw:Below w w W:=by rw[hW];exact(q9).alloc (nlr _) _
 have b0:W w=O a len cap:=by rw[hW];exact xz w _ _ 0 rfl
 have hd:=qpm h.q1v h.chk;obtain⟨N,hN⟩:∃N:Nat,(N:Int)=q5i K+1:=⟨(q5i K+1).toNat,by omega⟩
 have Uc:N<=9:=by omega
 obtain⟨dk,bN⟩:=x4 (q5i K);have wd:IntKind.i64.wrap (dk+1)=(N:Int):=by rw[bN,hN];exact IntWalk.i64_in _ (by omega)
 have HH:=kg (h.keep hw) hf hw hW bN;clear h hf hw hW hN hd bN;go_enter Tryz.func54,Tryz.ntmps54;go_wp2_with fail;rw[<-HH.a3];refine(q7v HH.out.1).mono ?_;rintro e w1 ⟨rfl,ae⟩
 replace b0:=J ae b0
 have H1:=lhd ae;clear ae;go_wp2_with fail;refine(qpj (HH.out.1.keep H1.out)).mono ?_;rintro e w2 ⟨rfl,aj⟩;rw[<-HH.b4];have H2:=lhd ((btr H1.out aj))
 replace b0:=J aj b0
 clear aj;go_wp2_with fail;go_loopw [16] (fun x wr=>∃k:Nat,x=k/\k<=N/\Hid (Below w2 w2 wr)) (fun x _=>N-(vI x).toNat)
 case atStart=>exact⟨0,rfl,gm _,(lhd q9)⟩
 case round =>
  obtain⟨k,rfl,hk,HB⟩:=hrel;by_cases dy:k<N
  ·have cV:(k:Int)<N:=by omega
   replace b0:=J HB.out b0
   obtain⟨wo,eE⟩:=x4 wr;subst eE;go_wp2_with fail;refine(qbb ((HH.out.1.keep H2.out).keep HB.out) (k:Int)).mono ?_;rintro e w3 ⟨r,rfl,hr,aw⟩;obtain⟨ra,rc,iI⟩:=qj hr;subst iI;have eR:((nId K k:Nat):Int)<=100:=by have:=HH.a1 k;omega
   obtain⟨nk,Cd⟩:=x4 (nId K k);rw[<-Cd]at eR ⊢;have H3:=lhd ((btr HB.out aw));clear aw Cd hr;go_wp2;go_roundw
   case measure=>simp[vI];omega
   case rel=>exact⟨k+1,qh (by omega),by omega,H3⟩
  ·have Lp:¬((k:Int)<N):=by omega
   go_wp2;go_ret;exact⟨rfl,HH.a2.trans (((btr H2.out HB.out)).mono HH.a2.size)⟩
theorem qh7 {w:δ}{v:ε}{K:List Cl}{p:Int}(h:Kx w v K)(hp:prI p=true)(d:Int)(hd : -900<=d/\d<=900)(hn:∀d,nId K d<=100) :
  Calls Tryz.prog 32 #[v,H φ d,H φ p] w fun e w'=>∃x,e=.returned x/\FmF w.heap.size w' x p (nId K d) (hK p K d) (q24 p K d)/\Below w.heap.size w w':=by
 obtain⟨a,an,ac,rfl⟩:=h.shape;have HH:=yh h hn hp;clear h hn hp;go_enter Tryz.func32,Tryz.ntmps32;go_wp2_with fail;obtain⟨W,hW⟩:=x4 ((w.alloc (.cells #[O a an ac] 36)).alloc (.cells #[H φ 0,H φ 0,H φ 0,O Z 0 0] 30));rw[<-hW];have hw:Below w w W:=by rw[hW];exact((q9).alloc (nlr _) _).alloc (by simp) _
 have aG:W.heap.size=w+2:=by rw[hW];simp
 have b3:W w=O a an ac:=by rw[hW];exact qk (xz w _ _ 0 rfl) _
 have r6:∀(i:Nat) (x:ε),(#[H φ 0,H φ 0,H φ 0,O Z 0 0] : Array ε)[i]? =Y x->W ⟨w+1,i,Z⟩=Y x:=fun i x hx=>by rw[hW];exact zx w _ _ _ i hx
 have f6:∀i,W.frozen? ⟨w+1,i,Z⟩=false:=fun i=>by rw[hW];exact vo w _ _ _ i
 have HW:=yt r6 f6 hw aG;have pE:=lhd (HH.out.1.keep hw);clear r6 f6 hw aG hW;obtain⟨s6,cW⟩:=x4 (w.heap.size+1);rw[<-cW];have HS:=lhd cW;clear cW;refine(qad pE.out HH.a1).mono ?_;rintro e w1 ⟨rfl,ae⟩;go_wp2_with fail;refine(qax p w1).mono ?_;rintro e w2 ⟨rfl,aj⟩;rw[HH.b2];have vC:Below W W w2:=(btr ae aj);have c3:=J vC b3;have E0:=lhd (pE.out.keep vC);have H2:=lhd vC;clear ae aj vC;go_wp2_with fail;refine(qlf E0.out HH.b2 d hd HH.a1).mono ?_;rintro e w3 ⟨x,y,rfl,hx,hy,aw⟩;obtain⟨u,rfl,hu,hF,iF⟩:=hx;obtain⟨ua,un,uc,rfl⟩:=qg hu;obtain⟨u2,rfl,fz,_,_⟩:=hy;obtain⟨OC,OD,OE,rfl⟩:=qg fz;have vD:Below W W w3:=(btr H2.out aw);have hx:FmF w2 w3 _ p (nId K d) (hK p K d) (q24 p K d):=⟨_,rfl,hu,hF,iF⟩
 clear hu hF iF fz;have cW:s6<W:=by rw[HS.out,HW.b3];omega
 obtain⟨C1,hV⟩:=x4 ((w3.alloc (.cells #[H φ p,H φ (nId K d:Nat),H φ (hK p K d:Nat),O ua un uc] 30)).alloc (.cells #[H φ p,H φ (nId K d:Nat),H φ (bK p K d:Nat),O OC OD OE] 30));have fu:Below W W C1:=by rw[hV];exact(vD.alloc vD.size _).alloc (gd vD.size (by simp)) _
 have z0:C1 s6=H φ 0:=(fu.cell (p:=s6) cW).trans (by rw[HS.out];exact HW.out.1 0 _ rfl);have z1:C1 ⟨s6,1,Z⟩=H φ 0:=(fu.cell (p:=⟨s6,1,Z⟩) cW).trans (by rw[HS.out];exact HW.out.1 1 _ rfl);have z2:C1 ⟨s6,2,Z⟩=H φ 0:=(fu.cell (p:=⟨s6,2,Z⟩) cW).trans (by rw[HS.out];exact HW.out.1 2 _ rfl);have z3:C1 ⟨s6,3,Z⟩=O Z 0 0:=(fu.cell (p:=⟨s6,3,Z⟩) cW).trans (by rw[HS.out];exact HW.out.1 3 _ rfl);have y0:C1.frozen? s6=false:=(fu.frozen (p:=s6) cW).trans (by rw[HS.out];exact HW.a1 0);have y1:C1.frozen? ⟨s6,1,Z⟩=false:=(fu.frozen (p:=⟨s6,1,Z⟩) cW).trans (by rw[HS.out];exact HW.a1 1);have y2:C1.frozen? ⟨s6,2,Z⟩=false:=(fu.frozen (p:=⟨s6,2,Z⟩) cW).trans (by rw[HS.out];exact HW.a1 2);have y3:C1.frozen? ⟨s6,3,Z⟩=false:=(fu.frozen (p:=⟨s6,3,Z⟩) cW).trans (by rw[HS.out];exact HW.a1 3);have Pn:FmF w2 C1 _ p (nId K d) (hK p K d) (q24 p K d):=hx.keep (by rw[hV];exact((q9).alloc (nlr _) _).alloc (by simp) _);have v7:∀(i:Nat) (x:ε),(#[H φ p,H φ (nId K d:Nat),H φ (hK p K d:Nat),O ua un uc] : Array ε)[i]? =Y x->C1.cell? ⟨w3.heap.size,i,Z⟩=Y x:=fun i x hx=>by rw[hV];exact qk (xz w3 _ _ i hx) _
 have v70:=v7 0 _ rfl;have X5:=v7 1 _ rfl;have v72:=v7 2 _ rfl;have X6:=v7 3 _ rfl;have HV:=yt hV fu Pn cW;clear hV fu Pn v7 hx aw vD cW;go_upto_region 4 with fail;rw[<-HV.out.1];go_wp2_with fail;obtain⟨e0,e1,e2,e3⟩:=q1f z0 z1 z2 z3;have h2:=H2.out.size;refine bodyPost_ret (v:=I #[H φ p,H φ (nId K d:Nat),H φ (hK p K d:Nat),O ua un uc]) (by simp[results,Tryz.results32,go_sem,e0,e1,e2,e3]) rfl ⟨_,rfl,(HV.a2.q1f s6 (by have:=HV.b3;omega) _ _ _ _).mono (gd HW.a2.size h2),?_⟩;exact jj ((btr HW.a2 HV.a1)) (by rw[HS.out];omega) _ _ _ _
end Go.Proofs.YtmkpbhaoalbhjaaGreatDoor
namespace Go.Cx
open Go.RowKit
theorem qtq {w:δ}{a:Option Addr}{n c:Nat}{l:List Ce}(h:Sl w 3 (O a n c) (cat Ce.enc l)){k:Nat}(hk:k<l.length):n=l.length/\∃ad x,a=Y ad/\l[k]? =Y x/\w (ad.add (k*3))=x.id ∧
  w ⟨(ad.add (k*3)).block,(ad.add (k*3)).off+1,Z⟩=x.dim/\w ⟨(ad.add (k*3)).block,(ad.add (k*3)).off+2,Z⟩=O x.a x.n x.c:=by
 obtain⟨h1,h2,h3,h4,h5⟩:=h.open;rw[qt Ce.qp]at h3;have hn:n=l.length:=by omega
 obtain⟨x,hx⟩:∃x,l[k]? =Y x:=⟨_,gg hk⟩
 obtain⟨ad,rfl⟩:=sadq h4 (by omega)
 obtain⟨e0,e1,e2⟩:=zh l k x hx;refine⟨hn,ad,x,rfl,hx,h5 ad rfl _ _ e0,?_,?_⟩
 ·rw[qi _ _ _ (by omega)];exact h5 ad rfl _ _ e1
 ·rw[qi _ _ _ (by omega)];exact h5 ad rfl _ _ e2
end Go.Cx
namespace Go.Proofs.YtmkpbhaoalbhjaaGreatDoor
open Go.RowKit Go.Cx
attribute [local go_sem ↓] Go.wp_at_zero Go.wp_at_succ
theorem qpn {w:δ}{v:ε}{K:List Cl}(h:Kx w v K):Calls Tryz.prog 79 #[v] w fun e w'=>∃r,e=.returned r/\w'.ownsRow w 3 1 r K.length (ints (K.map Cl.id))/\Below w w w':=by
 have G:=h.q1v;obtain⟨l,s,rfl,h2,h3,h4,h5,h6⟩:=h;obtain⟨a,n,c,rfl⟩:=qg h2.1;obtain⟨W,hW⟩:=x4 (w.alloc (.cells #[O a n c] 36));have hw:Below w w W:=by rw[hW];exact(q9).alloc (nlr _) _
 have Po:SlC W (O a n c) l:=⟨h2.1.keep hw,fun x hx=>(h2.2 x hx).keep hw⟩
 have pD:=q8l _ l W Po (by omega) (fun x hx=>(h4 x hx).2.1);rw[h6]at pD;have Ud:K.length<=4000:=G.len;have HH:=yt pD G hw hW;clear h2 h3 h4 h5 h6 Po pD G hw hW;go_enter Tryz.func79,Tryz.ntmps79;go_wp2_with fail;rw[<-HH.b3];refine HH.out.1.mono ?_;rintro e w1 ⟨r,m,rfl,hm,hr,_,hb⟩;obtain⟨ra,rc,rfl⟩:=qj hr;have eW:m.length=K.length:=by rw[<-hm,gp]
 have jG:K.map Cl.id=m.map Ce.id:=by rw[<-hm,List.map_map];rfl
 obtain⟨len,hlen⟩:=x4 m.length;have aV:Sl w1 3 (O ra m.length rc) (cat Ce.enc m):=Sl.qc hr;rw[<-hlen]at aV ⊢;have aW:len<=4000:=by omega
 have kG:∀(i j:Nat) (x y:Ce),m[i]? =Y x->m[j]? =Y y->i<j->x.id<y.id:=fun i j x y hx hy iu=>by
  have hp:(m.map Ce.id).Pairwise (· < ·):=by rw[<-jG,List.pairwise_map];exact HH.a1.asc
  obtain⟨h1,e1⟩:=gk.1 hx;obtain⟨h2,e2⟩:=gk.1 hy;have:=bb.1 hp i j (by simpa using h1) (by simpa using h2) iu;simpa [e1,e2]using this
 have HX:=kp aV ((btr HH.a2 hb)) jG hlen kG eW;clear hr hm hb eW jG hlen aV kG;have tz:=q3b ra len rc;go_wp2_with fail;go_loopw [3,5,10] (fun o _ x wr=>∃(k:Nat) (oa:Option Addr) (oc:Nat),o=O oa k oc/\x=k/\k<=len/\Hid (wr.ownsRow w1 3 1 (O oa k oc) k (ints ((m.take k).map Ce.id)))/\Hid (Below w1 w1 wr)) (fun _ _ x _=>len-(vI x).toNat)
 case atStart=>exact⟨0,Z,0,rfl,rfl,gm _,(lhd (World.ownsRow_nil _ _ _ _)),(lhd q9)⟩
 case round =>
  obtain⟨k,oa,oc,rfl,rfl,hk,HO,HB⟩:=hrel;by_cases aZ:k<len
  ·have cV:(k:Int)<len:=by omega
   obtain⟨-,ad,x,rfl,hx,d0,d1,d2⟩:=qtq (HX.out.1.keep HB.out) (k:=k) (by rw[<-HX.a3];exact aZ);have a1:(wr.alloc (.cells #[x.id,x.dim,O x.a x.n x.c] 52)) wr=x.id:=xz wr _ _ 0 rfl;obtain⟨xi,dW⟩:=x4 x.id;rw[<-dW]at d0 a1;have aA:Below wr wr (wr.alloc (.cells #[xi,x.dim,O x.a x.n x.c] 52)):=(q9).alloc (nlr _) _;have dH:(m.take (k+1)).map Ce.id=(m.take k).map Ce.id++[xi]:=by rw[gC,hx,dW];simp
   have HT:=yh dH hx dW;clear dH hx dW;have hsz:w1.heap.size<=wr:=HB.out.size;by_cases rA:k=0
   ·have rY:((k:Int) == 0)=true:=by rw[rA];rfl
    have qG:=lhd rA;clear rA aA;go_wp2_with fail
    go_quiet (fail)
    obtain⟨w5,nw⟩:=x4 ((wr.alloc (.cells #[xi,x.dim,O x.a x.n x.c] 52)).drewN nq);rw[<-nw];have aC:Below wr wr w5:=by rw[nw];exact qb ((q9).alloc (nlr _) _) _
    have a5:w5 wr=xi:=by rw[nw];exact a1
    have af:=qa HO.out aC;have cQ:Below w1 wr w5:=aC.mono hsz;have Bq:w1.heap.size<=w5:=gd hsz aC.size;clear nw aC a1;go_wp2_with (at_builtin;refine qo (W:=wr) rfl _ _ 23 rfl w1 3 Tryz.xg Tryz.underlying23 rfl (by decide) (by decide) _ _ _ rfl af [xi] (by rfl) rfl (q5v _) ?bp2 cQ Bq ?_)
    case bp2=>omega
    intro v9 w9 jB rZ ei;obtain⟨nS,nU,sb⟩:=qj jB;subst sb;have lC:=jg jB ei;clear rZ jB ei af cQ Bq;go_wp2;go_roundw
    case measure=>simp[vI];omega
    case rel =>refine⟨k+1,nS,nU,rfl,qh (by omega),by omega,(show Hid _ from ?_),(lhd (HB.out.trans lC.out.2))⟩;rw[HT.out.1,vk,List.map_take];exact(lhd lC.out.1)
   ·obtain⟨j,hj⟩:∃j,k=j+1:=⟨k-1,by omega⟩
    obtain⟨y,hy⟩:∃y,m[j]? =Y y:=⟨_,gg (by have:=HX.a3;omega)⟩
    have rN:y.id<xi:=by rw[HT.b2];exact HX.a4 j k y x hy HT.a1 (by omega)
    obtain⟨od,z,pq,hz,q0⟩:=q00 (Sl.qc HO.out) (k:=j) (by omega);subst pq;have Pp:z=y.id:=by rw[List.getElem?_map,List.getElem?_take_of_lt (by omega),hy]at hz;exact(osi hz).symm
    rw[<-Pp]at rN;have wF:(z != xi)=true:=by simp;omega
    have rY:((k:Int) == 0)=false:=by simp;omega
    have aG:IntKind.i64.wrap ((k:Int)-1)=(j:Int):=by rw[hj];rw[Int.natCast_add];exact(IntWalk.i64_in _ (by omega)).trans (by omega)
    have mH:j<k:=by omega
    have pk:(j:Int)<k:=by omega
    have q1:=fun o=>qk q0 o
    have HJ:=lhd hj;clear rA aA hj hy rN hz Pp q0;go_wp2_with fail
    go_quiet (fail)
    obtain⟨w5,nw⟩:=x4 ((wr.alloc (.cells #[xi,x.dim,O x.a x.n x.c] 52)).drewN nq);rw[<-nw];have aC:Below wr wr w5:=by rw[nw];exact qb ((q9).alloc (nlr _) _) _
    have a5:w5 wr=xi:=by rw[nw];exact a1
    have af:=qa HO.out aC;have cQ:Below w1 wr w5:=aC.mono hsz;have Bq:w1.heap.size<=w5:=gd hsz aC.size;clear nw aC a1;go_wp2_with (at_builtin;refine qo (W:=wr) rfl _ _ 23 rfl w1 3 Tryz.xg Tryz.underlying23 rfl (by decide) (by decide) _ _ _ rfl af [xi] (by rfl) rfl (q5v _) ?bp2 cQ Bq ?_)
    case bp2=>omega
    intro v9 w9 jB rZ ei;obtain⟨nS,nU,sb⟩:=qj jB;subst sb;have lC:=jg jB ei;clear rZ jB ei af cQ Bq;go_wp2;go_roundw
    case measure=>simp[vI];omega
    case rel =>refine⟨k+1,nS,nU,rfl,qh (by omega),by omega,(show Hid _ from ?_),(lhd (HB.out.trans lC.out.2))⟩;rw[HT.out.1,vk,List.map_take];exact(lhd lC.out.1)
  ·have aM:k=len:=by omega
   subst aM;have HF:Hid (wr.ownsRow w 3 1 (O oa k oc) K.length (ints (K.map Cl.id))):=(lhd (by have h1:=HO.out;rw[gr (by rw[<-HX.a3];exact nlr _),<-HX.a2]at h1;rw[<-HX.b5,<-HX.a3];exact qf h1 HX.a1.size))
   have cV:¬((k:Int)<k):=by omega
   go_wp2;go_ret;exact⟨_,rfl,HF.out,(btr HX.a1 HB.out)⟩
end Go.Proofs.YtmkpbhaoalbhjaaGreatDoor
namespace Go.Cx
open Go.RowKit
structure Im where
 c:Int
 a:Option Addr
 n:Nat
 k:Nat
def Im.enc (x:Im):List Value:=[x.c,O x.a x.n x.k]
def Im.sl (x:Im):Value:=O x.a x.n x.k
theorem Im.qp (x:Im):x.enc.length=2:=rfl
def qip (w:δ)(v:ε)(ids:List Int):Prop:=∃s L,v=I #[s]/\Sl w 2 s (cat Im.enc L)/\L.map Im.c=ids/\∀x∈L,Sl w 3 x.sl (tv (ctm [(x.c,1)]))
theorem qip.keep {w w':δ}{v:ε}{ids:List Int}(h:qip w v ids)(hb:Below w w w'):qip w' v ids:=by obtain⟨s,L,h1,h2,h3,h4⟩:=h;exact⟨s,L,h1,h2.keep hb,h3,fun x hx=>(h4 x hx).keep hb⟩
theorem qpo {w:δ}{a:Option Addr}{n c:Nat}{l:List Im}(h:Sl w 2 (O a n c) (cat Im.enc l)){k:Nat}(hk:k<l.length):∃ad x,a=Y ad/\l[k]? =Y x/\w (ad.add (k*2))=x.c ∧
  w ⟨(ad.add (k*2)).block,(ad.add (k*2)).off+1,Z⟩=O x.a x.n x.k:=by
 obtain⟨h1,h2,h3,h4,h5⟩:=h.open;rw[qt Im.qp]at h3;obtain⟨x,hx⟩:∃x,l[k]? =Y x:=⟨_,gg hk⟩
 obtain⟨ad,rfl⟩:=sadq h4 (by omega)
 refine⟨ad,x,rfl,hx,h5 ad rfl _ _ (q2l Im.qp l k 0 x hx (by omega)),?_⟩;rw[qi _ _ _ (by omega)];exact h5 ad rfl _ _ (q2l Im.qp l k 1 x hx (by omega))
theorem qli {w:δ}{a:Option Addr}{n c:Nat}{l:List Im}(h:Sl w 2 (O a n c) (cat Im.enc l)):n=l.length:=by have:=h.open.2.2.1;rw[qt Im.qp]at this;omega
end Go.Cx
namespace Go.Proofs.YtmkpbhaoalbhjaaGreatDoor
open Go.RowKit Go.Cx
attribute [local go_sem ↓] Go.wp_at_zero Go.wp_at_succ
theorem qiq (x:Int)(w:δ):Calls Tryz.prog 111 #[H φ x] w fun e w'=>∃g,e=.returned (O (Y ⟨g,0,Z⟩) 1 1)/\w.heap.size<=g/\g<w'.heap.size/\Sl w' 3 (O (Y ⟨g,0,Z⟩) 1 1) (tv (ctm [(x,1)]))/\Below w.heap.size w w':=by go_enter Tryz.func111,Tryz.ntmps111;go_wp2_with fail;refine(qgv 1 _ (by decide) (by decide)).mono ?_;rintro e w1 ⟨rfl,ae⟩;have hs:=q13 w1 167 3 [x,τ (decide ((1:Int)<0)),ω (mg 1)] 1 rfl (by unfold maxLen;omega);have HS:=lhd hs;have HB:=lhd ae;clear hs ae;unfold wv;go_wp2_with fail;go_ret;exact⟨_,rfl,HB.out.size,by simp,HS.out,HB.out.alloc HB.out.size _⟩
theorem qlj:(Tryz.prog.info? 162).map (fun i=>(i.zero,i.size,i.bytes))=Y (Y (I #[H φ 0,O Z 0 0]),2,32):=by kernel_rfl
theorem qpp (x:Int)(a:Option Addr)(n c:Nat):Tryz.prog.built 162 [(0,H φ x),(1,O a n c)]=Y #[H φ x,O a n c]:=by kernel_rfl
theorem qvp (w:δ)(x:Int)(a:Option Addr)(n c:Nat):(Instr.buildSlice 93 1 #[(0,I #[x,O a n c])]).run Tryz.prog w=.ok (O w 1 1) (w.alloc (.cells #[x,O a n c] 162)):=by
 have key:∀u u':ε,(Instr.buildSlice 93 1 #[(0,I #[u,u'])]).run Tryz.prog w=.ok (O w 1 1) (w.alloc (.cells #[u,u'] 162)):=fun u u' =>q2p _ _ 162 _ _ _ _ 2 32 Tryz.underlying93 qlj (by decide) (by decide) (by kernel_rfl)
 exact key _ _
theorem qae {P:Program}{Q:Exit->Act->δ->Prop}{o:Oper}{a:Act}{w:δ}{K:Act->δ->Prop}(s x:Operand)(t:TypeId)(aX:o.op=.call { callee:=.builtin .append,args:=#[s,x],argTypes:=#[t,t] })
  (base:Nat) (e:TypeId) {z:ε} {size bytes:Nat} (fE:(P.info? e).map (fun i=>(i.zero,i.size,i.bytes))=Y (Y z,size,bytes)) (ht:P.underlying t=Y (.slice e)) (jJ:z.cells.size=size) (hsz:0<size)
  (v:ε) (n:Nat) (xs:List ε) (hs:a.eval s=v) (af:w.ownsRow base e size v n xs)
  (ad:Addr) (m c:Nat) (news:List ε) (hx:a.eval x=O (Y ad) m c) (hl:news.length=m*size) (E1:∀j u,news[j]? =Y u->w (ad.add j)=Y u) (h1:∀u∈news,u.oneCell'=true)
  (hm:0<m) (Ue:n+m<=maxLen) (dR:(n+m)*bytes<=140737488355328) (ab:base<=w)
  (h:∀g cap w',w'.ownsRow base e size (O g (n+m) cap) (n+m) (xs++news)->w.grownBy w' v.ownBlock->(v.ownBlock=Y g\/g=w)->g<w'->K (a.put o.dst (O g (n+m) cap)) w'):Oper.wp P o a w K Q:=by
 obtain⟨i0,hi,dv,dB,de⟩:=info_parts fE;exact wp_append_lies w s x t aX base e i0 z size bytes ht hi dv dB de jJ hsz v n xs hs af ad m c news hx hl E1 h1 hm Ue dR ab w rfl h
structure IG (wr:δ)(q b2:Nat)(o:ε)(L:List Im):Prop where
 c0:wr q=Y o
 z0:wr.frozen? q=false
 own:wr.ownsRow b2 162 2 o L.length (cat Im.enc L)
 im:∀x∈L,∃g,x.a=Y ⟨g,0,Z⟩/\b2<=g/\g<wr.heap.size/\o.ownBlock≠Y g/\Sl wr 3 x.sl (tv (ctm [(x.c,1)]))
 lt:q<b2
 le:b2<=wr
theorem qrt (w:δ)(p:Addr)(u:ε)(b:Option Addr)(m d:Nat)(h:w p=Y u)(hf:w.frozen? p=false):(Instr.storeAt 93 (σ (Y p)) (O b m d)).run Tryz.prog w=.ok () (w.setCell p (O b m d)):=by simp[go_sem,h,hf]
theorem qru (w:δ)(p:Addr)(b:Option Addr)(m d:Nat)(h:w p=O b m d):(Instr.loadAt 93 (σ (Y p))).run Tryz.prog w=.ok (O b m d) w:=by simp[go_sem,h]
theorem qpq (w:δ)(q:Nat):(Instr.fieldAt 95 (σ q) 0).run Tryz.prog w=.ok (σ q) w:=by simp[go_sem]
def SgF (b:Nat)(w:δ)(v:ε)(x:Int):Prop:=∃g,v=O (Y ⟨g,0,Z⟩) 1 1/\b<=g/\g<w.heap.size/\Sl w 3 v (tv (ctm [(x,1)]))
theorem SgF.keep {b:Nat}{w w':δ}{v:ε}{x:Int}(h:SgF b w v x)(hb:Below w.heap.size w w'):SgF b w' v x:=by obtain⟨g,h1,h2,h3,h4⟩:=h;exact⟨g,h1,h2,gz h3 hb.size,h4.keep hb⟩
theorem IG.step {wr w6 w7:δ}{q b2 g cap gv:Nat}{o:ε}{L:List Im}{x:Int}(h:IG wr q b2 o L)(hb:Below wr wr w6)(hv:wr<=gv/\gv<w6)(dI:Sl w6 3 (O gv 1 1) (tv (ctm [(x,1)])))
  (hg:w6.grownBy w7 o.ownBlock) (af:w7.ownsRow b2 162 2 (O (Y ⟨g,0,Z⟩) (L.length+1) cap) (L.length+1) (cat Im.enc L++[H φ x,O (Y ⟨gv,0,Z⟩) 1 1])) (ot:o.ownBlock=Y g\/g=w6.heap.size) :
  IG (w7.setCell q (O g (L.length+1) cap)) q b2 (O g (L.length+1) cap) (L++[⟨x,Y ⟨gv,0,Z⟩,1,1⟩])/\Below b2 wr w7:=by
 have qN:∀k,o.ownBlock=Y k->b2<=k/\k<wr:=fun k e=>h.own.lt k e
 have hsz:=hb.size;have E2:w6.heap.size<=w7:=hg.size;have hB:Below b2 wr w7:=(hb.mono h.le).grown hg (gd h.le hsz) fun k e=>(qN k e).1
 have tV:w6 q=Y o:=J hb h.c0;have sJ:w7 q=Y o:=ql hg tV fun k e=>by have:=(qN k e).1;have:=h.lt;show q≠k;omega
 have pI:q<w6:=World.block_lt_of_cell? w6 _ tV;have xC:w7.frozen? q=false:=(hB.frozen (p:=q) h.lt).trans h.z0;have E4:∀ {gx:Nat} {n c:Nat} {xs:List ε},q≠gx->(∀k,o.ownBlock=Y k->gx≠k)->Sl w6 3 (O gx n c) xs->Sl (w7.setCell q (O g (L.length+1) cap)) 3 (O gx n c) xs:=fun {gx n c xs} ah hk hs=>by
  have h7:Sl w7 3 (O gx n c) xs:=by
   obtain⟨a',n',c',e,e2,e3,e4,e5,e6⟩:=hs;injection e with e1 e7 e8
   subst e1 e7 e8;refine⟨_,_,_,rfl,e2,e3,e4,e5,fun ad bR j u hj=>ql hg (e6 ad bR j u hj) fun k ek=>?_⟩;have:(ad.add j).block=ad.block:=by unfold Addr.add;split <;> rfl
   rw[this];injection bR with bR
   rw[<-bR];exact hk k ek
  exact y8 h7 _ _ fun ad n' c' e=>by injection e with e;injection e with e;rw[<-e];exact fun e=>ah e.symm
 refine⟨⟨World.cell?_setCell_same' _ _ _ (by rw[sJ];rfl),by rw[World.frozen?_setCell];exact xC,?_,fun y hy=>?_,h.lt,?_⟩,hB⟩
 ·rw[gw,q2e,q99];exact qji af (fun k hk=>by have:=(af.lt k hk).1;have:=h.lt;show k≠q;omega) _
 ·rcases gO.1 hy with hy|hy
  ·obtain⟨gy,y1,y2,y3,y4,y5⟩:=h.im y hy;refine⟨gy,y1,y2,by simp only [World.size_setCell];omega,fun e=>?_,?_⟩
   ·have e:g=gy:=by injection e
    rcases ot with e2|e2
    ·exact y4 (by rw[e2,e])
    ·omega
   ·have y6:Sl w6 3 y.sl (tv (ctm [(y.c,1)])):=y5.keep hb;unfold Im.sl at y6 ⊢;rw[y1]at y6 ⊢;exact E4 (by have:=h.lt;omega) (fun k ek e=>y4 (by rw[ek,e])) y6
  ·have hy:=List.mem_singleton.1 hy;subst hy;refine⟨gv,rfl,by have:=h.le;omega,by simp only [World.size_setCell];omega,fun e=>?_,?_⟩
   ·have e:g=gv:=by injection e
    rcases ot with e2|e2
    ·have:=(qN g e2).2;omega
    ·omega
   ·exact E4 (by have:=h.lt;have:=h.le;omega) (fun k ek=>by have:=(qN k ek).2;omega) dI
 ·have:=h.le;simp only [World.size_setCell];omega
def imT (wr:δ)(b2 k:Nat)(id:Int)(o:ε)(L:List Im):List ε->δ->Prop:=fun vs w2=>match vs with
 |[]=>Below wr wr w2
 |[v]=>Below wr wr w2/\SgF wr w2 v id
 |[v,u]=>Below wr wr w2/\SgF wr w2 v id/\u=I #[id,v]
 |[v,u,s]=>Below wr.heap.size wr w2/\SgF wr.heap.size w2 v id/\u=I #[H φ id,v]/\∃gs,s=O (Y ⟨gs,0,Z⟩) 1 1/\∀j x,([H φ id,v] : List ε)[j]? =Y x->w2.cell? (Addr.add ⟨gs,0,Z⟩ j)=Y x
 |[_,_,_,r]=>∃g cap gv w6,r=O (Y ⟨g,0,Z⟩) (k+1) cap/\Below wr.heap.size wr w6/\(wr.heap.size<=gv/\gv<w6.heap.size)/\Sl w6 3 (O (Y ⟨gv,0,Z⟩) 1 1) (tv (ctm [(id,1)]))/\w6.grownBy w2 o.ownBlock/\w2.ownsRow b2 162 2 (O (Y ⟨g,0,Z⟩) (k+1) cap) (k+1) (cat Im.enc L++[H φ id,O (Y ⟨gv,0,Z⟩) 1 1])/\(o.ownBlock=Y g\/g=w6.heap.size)
 |_=>False
theorem qrv {wr w2:δ}{b2 k:Nat}{id:Int}{o:ε}{L:List Im}{vs:List ε}(h:imT wr b2 k id o L vs w2)(hl:vs.length<=3):Below wr.heap.size wr w2:=by
 match vs,h,hl with
 |[],h,_=>exact h
 |[_],h,_=>exact h.1
 |[_,_],h,_=>exact h.1
 |[_,_,_],h,_=>exact h.1
 |_ :: _ :: _ :: _ :: _,_,hl=>simp at hl
theorem qfp {α:Type}{l:List α}(h:l.length=3):∃a b c,l=[a,b,c]:=by
 match l,h with
 |[a,b,c],_=>exact⟨a,b,c,rfl⟩
theorem qpr {α:Type}{l:List α}(h:l.length=4):∃a b c d,l=[a,b,c,d]:=by
 match l,h with
 |[a,b,c,d],_=>exact⟨a,b,c,d,rfl⟩
theorem IG.box {wr w6 w7:δ}{q b2:Nat}{o:ε}{L:List Im}(h:IG wr q b2 o L)(hb:Below wr wr w6)(hg:w6.grownBy w7 o.ownBlock):w7 q=Y o/\w7.frozen? q=false:=by
 have sJ:w7 q=Y o:=ql hg (J hb h.c0) fun k e=>by have:=(h.own.lt k e).1;have:=h.lt;show q≠k;omega
 have hB:Below b2 wr w7:=(hb.mono h.le).grown hg (gd h.le hb.size) fun k e=>(h.own.lt k e).1
 exact⟨sJ,(hB.frozen (p:=q) h.lt).trans h.z0⟩
theorem qjr {w:δ}{v:ε}{K:List Cl}(h:Kx w v K):Calls Tryz.prog 82 #[v] w fun e w'=>∃x,e=.returned x/\qip w' x (K.map Cl.id)/\Below w w w':=by
 have Ud:K.length<=4000:=h.q1v.len;obtain⟨a,n,c,rfl⟩:=h.shape;have HH:=lhd h;clear h;go_enter Tryz.func82,Tryz.ntmps82;go_wp2_with fail;obtain⟨W,hW⟩:=x4 (((w.alloc (.cells #[O a n c] 36)).alloc (.cells #[O Z 0 0] 95)).alloc (.cells #[O Z 0 0] 95));rw[<-hW];have hw:Below w w W:=by rw[hW];exact(((q9).alloc (nlr _) _).alloc (by simp) _).alloc (by simp;omega) _
 have aG:W.heap.size=w+3:=by rw[hW];simp
 have r0:W (w+1:Nat)=O Z 0 0:=by rw[hW];exact qk (zx w _ _ _ 0 rfl) _
 have rz:W.frozen? (w+1:Nat)=false:=by rw[hW];exact q27 (by simp) (vo w _ _ _ 0) _
 have q0:W (w+1+1:Nat)=O Z 0 0:=by rw[hW];exact jw w _ _ _ _ 0 rfl
 have qz:W.frozen? (w+1+1:Nat)=false:=by rw[hW];exact q1e w _ _ _ _ 0
 refine(qpn (HH.out.keep hw)).mono ?_;rintro e w1 ⟨ri,rfl,lk,ae⟩;obtain⟨ra,rc,rfl⟩:=qj lk;obtain⟨len,hlen⟩:=x4 K.length;rw[<-hlen]at lk ⊢;have aV:Sl w1 1 (O ra len rc) (ints (K.map Cl.id)):=Sl.qc lk;obtain⟨q,hq⟩:=x4 (w.heap.size+1+1);rw[<-hq]at q0 qz;rw[<-hq];have pJ:Below w w w1:=(btr hw ae);have Pq:IG w1 q w1 (O Z 0 0) []:=⟨J ae q0,xf ae (by show q<_;omega) qz,World.ownsRow_nil _ _ _ _,fun x hx=>(by cases hx),by have:=ae.size;omega,nlr _⟩
 have K9:∀ad:Addr,ra=Y ad->ad.block≠q:=fun ad e=>by have:=(lk.lt ad.block (by rw[e];rfl)).1;omega
 have HX:=qan aV pJ Pq hlen aG hq K9 (J ae r0) (xf ae (by show w.heap.size+1<_;omega) rz);have aW:len<=4000:=by omega
 clear hW hw aG r0 rz q0 qz lk ae hlen aV pJ Pq hq K9;go_wp2_with fail;go_loopw [5,9] (fun _ x wr=>∃(k:Nat) (o:ε) (L:List Im),x=k/\k<=len/\Hid (IG wr q w1 o L/\L.map Im.c=(K.map Cl.id).take k)/\Hid (Below q w1 wr/\∀p u,p.block≠q->w1 p=Y u->wr p=Y u)) (fun _ x _=>len-(vI x).toNat)
 case atStart=>exact⟨0,O Z 0 0,[],rfl,gm _,(lhd ⟨HX.a2,rfl⟩),(lhd ⟨q9,fun _ _ _ h=>h⟩)⟩
 case round =>
  obtain⟨k,o,L,rfl,hk,HI,HB⟩:=hrel;by_cases aZ:k<len
  ·have cV:(k:Int)<len:=by omega
   obtain⟨ad,id,iH,hid,d1⟩:=q00 HX.out.1 aZ;subst iH;have ah:(ad.add k).block≠q:=by
    have e:(ad.add k).block=ad.block:=by unfold Addr.add;split <;> rfl
    rw[e];exact HX.a6 ad rfl
   have d0:=HB.out.2 _ _ ah d1;have A1:L.length=k:=by have:=congrArg List.length HI.out.2;rw[gp,gD,gp,<-HX.a3]at this;omega
   have c0:=HI.out.1.c0;have af:=HI.out.1.own;rw[A1]at af;obtain⟨oa,oc,ho⟩:=qj af;subst ho;have HT:=yh hid A1 af;clear hid A1 af d1 ah;go_wp2_with fail;refine qp4 fun KO cD=>?_
   go_cut []from 13 to 21 (fun wx=>∃(g cap gv:Nat) (w6 w7:δ),wx=w7.setCell ⟨q,0,Z⟩ (O (Y ⟨g,0,Z⟩) (k+1) cap)/\Hid (Below wr.heap.size wr w6/\(wr.heap.size<=gv/\gv<w6.heap.size)/\Sl w6 3 (O (Y ⟨gv,0,Z⟩) 1 1) (tv (ctm [(id,1)]))/\w6.grownBy w7 (O oa k oc).ownBlock/\w7.ownsRow w1.heap.size 162 2 (O (Y ⟨g,0,Z⟩) (k+1) cap) (k+1) (cat Im.enc L++[H φ id,O (Y ⟨gv,0,Z⟩) 1 1])/\((O oa k oc).ownBlock=Y g\/g=w6.heap.size)))
   case first =>
    rename_i At K2 hJ aQ;refine yg (by kernel_rfl) (VF [Y (σ q),Y (O oa k oc),Y id,Y id,Z,Z,Z,Z,Y (σ q),Z]) [4,5,6,7] (imT wr w1 k id (O oa k oc) L) 9 20 24 rfl (by kernel_rfl) (by kernel_rfl) (by decide) (by kernel_rfl) (by kernel_rfl) (by kernel_rfl) (by decide) (by decide) (fun a w2=>K2 a w2) ?start ?pure ?eff ?last ?done
    case start=>exact qb (Below.refl _ wr) 1
    case pure =>
     intro i o ho hL hE a w' vs hT ai hd ab hsz
     match i,ho,hL,hE,ai,hd with
     |0,rfl,hL,hE,ai,hd =>exact yb rfl (zr qu ab 3) (qpq _ _) (gone rfl)
     |1,rfl,hL,hE,ai,hd =>have lO:w' q=O oa k oc:=J (qrv hT (by have:=ai 3 7 rfl (by kernel_rfl);omega)) c0;exact jm rfl (j8 hd 0) (qru _ _ _ _ _ (lO)) (gone rfl)
     |2,rfl,hL,hE,ai,hd =>exact jo (.inl rfl) ⟨_,rfl,fun _ h=>(zr qu ab 5).trans (osi h),rfl⟩
     |3,rfl,hL,hE,ai,hd =>exact jo (.inl rfl) ⟨_,rfl,fun _ h=>(zr qu ab 5).trans (osi h),rfl⟩
     |4,ho,hL,hE,ai,hd =>exact absurd (by decide) hE
     |5,ho,hL,hE,ai,hd =>exact absurd (by decide) hE
     |6,ho,hL,hE,ai,hd =>exact absurd (by decide) hE
     |7,ho,hL,hE,ai,hd =>exact absurd (by decide) hE
     |8,rfl,hL,hE,ai,hd =>exact yb rfl (zr qu ab 3) (qpq _ _) (gone rfl)
     |9,ho,hL,hE,ai,hd =>exact absurd rfl hL
     |i+10,ho,hL,hE,ai,hd =>have:i+10<10:=(gh.1 ho).1;omega
    case eff =>
     intro s i o hs ho a w' vs hl hT hd hr ab hsz
     match s,hs,hr,hl with
     |0,hs,hr,hl =>obtain rfl:=osi hs;obtain rfl:=osi ho;obtain rfl:=gl hl;have f16:a 16 V=id:=j8 hd 3;exact⟨rfl,qdj _ _ _ rfl (fun _ _=>rfl) #[id] (by rw[<-f16];simp[Act.eval]) ((qiq id w').mono fun e w2 ⟨g,h1,h2,h3,h4,h5⟩=>⟨_,h1,_,rfl,(show Below wr wr w2/\SgF wr w2 _ id from⟨Below.trans hT (h5.mono (Below.size hT)),g,rfl,gd (Below.size hT) h2,h3,h4⟩)⟩)⟩
     |1,hs,hr,hl =>
      obtain rfl:=osi hs;obtain rfl:=osi ho;obtain⟨v1,rfl⟩:=List.length_eq_one_iff.1 hl;have f15:a 15 V=id:=j8 hd 2;have f17:a 17 V=v1:=hr 0 4 _ _ rfl rfl rfl (by decide);obtain⟨hb,g,rfl,h1,h2,h3⟩:=(show Below wr wr w'/\SgF wr w' v1 id from hT)
      exact⟨rfl,qh5 _ _ rfl #[(0,H φ id),(1,O (Y ⟨g,0,Z⟩) 1 1)] (by rw[<-f15,<-f17];simp[Act.eval]) _ (run_build _ _ _ _ (qpp _ _ _ _)) ⟨_,rfl,(show Below wr.heap.size wr w'/\SgF wr.heap.size w' _ id/\_=I #[H φ id,_]from⟨hb,⟨g,rfl,h1,h2,h3⟩,rfl⟩)⟩⟩
     |2,hs,hr,hl =>
      obtain rfl:=osi hs;obtain rfl:=osi ho;obtain⟨v1,v2,rfl⟩:=q51 hl;have f18:a 18 V=v2:=hr 1 5 _ _ rfl rfl rfl (by decide);obtain⟨hb,⟨g,rfl,h1,h2,h3⟩,rfl⟩:=(show Below wr wr w'/\SgF wr w' v1 id/\v2=I #[id,v1]from hT)
      have aA:Below w' w' (w'.alloc (.cells #[id,O g 1 1] 162)):=(q9).alloc (nlr _) _;exact⟨rfl,q5z 93 1 _ rfl #[(0,I #[id,O g 1 1])] (by rw[<-f18];simp[Act.eval]) _ _ (qvp w' _ _ _ _) ⟨_,rfl,(show Below wr wr _/\SgF wr _ _ id/\_/\_ from⟨hb.alloc hb.size _,SgF.keep ⟨g,rfl,h1,h2,h3⟩ aA,rfl,w',rfl,q7l w' 162 [id,O g 1 1]⟩)⟩⟩
     |3,hs,hr,hl =>
      obtain rfl:=osi hs;obtain rfl:=osi ho;obtain⟨v1,v2,v3,rfl⟩:=qfp hl;have f19:a 19 V=v3:=hr 2 6 _ _ rfl rfl rfl (by decide);have f14:a 14 V=O oa k oc:=j8 hd 1;obtain⟨hb,⟨g,rfl,h1,h2,h3⟩,_,gs,rfl,hn⟩:=(show Below wr.heap.size wr w'/\SgF wr.heap.size w' v1 id/\v2=I #[H φ id,v1]/\∃gs,v3=O (Y ⟨gs,0,Z⟩) 1 1/\∀j u,([H φ id,v1] : List ε)[j]? =Y u->w'.cell? (Addr.add ⟨gs,0,Z⟩ j)=Y u from hT)
      exact⟨rfl,qae _ _ 93 rfl w1.heap.size 162 qlj Tryz.underlying93 rfl (by decide) _ k (cat Im.enc L) f14 (qa HT.b2 hb) ⟨gs,0,Z⟩ 1 1 [H φ id,O (Y ⟨g,0,Z⟩) 1 1] f19 rfl hn (fun u hu=>by simp at hu;rcases hu with rfl|rfl <;> rfl) (by decide) (by unfold maxLen;omega) (by omega) (gd HI.out.1.le hb.size) fun g2 cap w7 r1 r2 r3 r4=>⟨_,rfl,(show imT wr w1.heap.size k id (O oa k oc) L [_,_,_,_] w7 from⟨g2,cap,g,w',rfl,hb,⟨h1,h2⟩,h3,r2,r1,r3⟩)⟩⟩
     |s+4,hs,hr,hl=>cases hs
    case last =>
     intro o ho a w' vs hsz aO hl hT hf hr ab;obtain rfl:=osi ho;obtain⟨v1,v2,v3,v4,rfl⟩:=qpr hl;obtain⟨g2,cap,gv,w6,rfl,h1,h2,h3,h4,h5,h6⟩:=(show ∃g cap gv w6,v4=O (Y ⟨g,0,Z⟩) (k+1) cap/\Below wr.heap.size wr w6/\(wr.heap.size<=gv/\gv<w6.heap.size)/\Sl w6 3 (O (Y ⟨gv,0,Z⟩) 1 1) (tv (ctm [(id,1)]))/\w6.grownBy w' (O oa k oc).ownBlock/\w'.ownsRow w1.heap.size 162 2 (O (Y ⟨g,0,Z⟩) (k+1) cap) (k+1) (cat Im.enc L++[H φ id,O (Y ⟨gv,0,Z⟩) 1 1])/\((O oa k oc).ownBlock=Y g\/g=w6.heap.size)from hT)
     have g0:a 21 V=σ q:=hf 8 _ _ rfl rfl (by kernel_rfl) (by decide) _ rfl;have g1:a 20 V=O g2 (k+1) cap:=hr 3 7 _ _ rfl rfl rfl;obtain⟨c9,z9⟩:=HI.out.1.box h1 h4;refine⟨rfl,ju _ _ _ rfl _ _ g0 g1 (qrt _ _ _ _ _ _ c9 z9) ?_⟩;refine aQ _ _ (Met.intro (hJ _ _ ⟨a 13 V,a 14 V,a 15 V,a 16 V,a 17 V,a 18 V,a 19 V,a 20 V,a 21 V,⟨g2,cap,gv,w6,w',rfl,(lhd ⟨h1,h2,h3,h4,h5,h6⟩)⟩,(q8z hsz aO ab).trans ?_⟩));kernel_rfl
    case done=>exact fun _ _ h=>h
   case rest =>
    obtain⟨g,cap,gv,w6,w7,rfl,H5⟩:=hcut;refine cD _ _ ?_;have ag:=HI.out.1.step (x:=id) (g:=g) (cap:=cap) H5.out.1 H5.a1 H5.a2 H5.a3 (by rw[HT.a1];exact H5.a4) H5.b5;rw[HT.a1]at ag;obtain⟨wz,mQ⟩:=x4 (w7.setCell q (O g (k+1) cap));have Ps:Below q w1 wz/\∀p u,p.block≠q->w1 p=Y u->wz p=Y u:=by have fN:=HI.out.1.lt;rw[mQ];refine⟨(HB.out.1.trans (ag.2.mono (Nat.le_of_lt fN))).setCell (nlr _) _,fun p u hp h1=>x8 ?_ (fun e=>hp (congrArg Addr.block e))⟩;exact(ag.2.cell (World.block_lt_of_cell? w1 _ h1)).trans (HB.out.2 p u hp h1)
    rw[<-mQ]at ag ⊢;have HZ:=jg ag.1 Ps;clear ag mQ Ps d0 c0;go_wp2;go_roundw
    case measure=>simp[vI];omega
    case rel =>refine⟨k+1,_,_,qh (by omega),by omega,(lhd ⟨HZ.out.1,?_⟩),(lhd HZ.out.2)⟩;rw[gW,HI.out.2,gC,HT.out.1];rfl
  ·have aM:k=len:=by omega
   subst aM;have cV:¬(k:Int)<k:=by omega
   have A1:L.length=k:=by have:=congrArg List.length HI.out.2;rw[gp,gD,gp,<-HX.a3]at this;omega
   have c0:=HI.out.1.c0;have af:=HI.out.1.own;rw[A1]at af;obtain⟨oa,oc,ho⟩:=qj af;subst ho;have hq:=HX.a5;have Pt:=HI.out.1.lt;have r0:=(HB.out.1.cell (p:=(w+1:Nat)) (by show w+1<q;omega)).trans HX.a7;have rz:=(HB.out.1.frozen (p:=(w+1:Nat)) (by show w+1<q;omega)).trans HX.b8;have HE:=yt A1 af hq Pt;clear A1 af hq Pt;go_wp2_with fail;have t0:(wr.setCell (w+1:Nat) (O oa k oc)) (w+1:Nat)=O oa k oc:=World.cell?_setCell_same' _ _ _ (by rw[r0];rfl);refine bodyPost_ret (v:=I #[O oa k oc]) (by simp[results,Tryz.results82,go_sem,t0]) rfl ⟨_,rfl,⟨_,L,rfl,?_,?_,fun x hx=>?_⟩,?_⟩
   ·refine y8 (Sl.qc HE.a1) _ _ fun ad n' c' e=>?_
    have:=(HE.a1.lt ad.block (by rw[e];rfl)).1;have:=HE.b2;show ad.block≠w+1;omega
   ·rw[HI.out.2,gr (by rw[gp,<-HX.a3];exact nlr _)]
   ·obtain⟨g,y1,y2,_,_,y5⟩:=HI.out.1.im x hx;refine y8 y5 _ _ fun ad n' c' e=>?_
    unfold Im.sl at e;rw[y1]at e;injection e with e;injection e with e
    rw[<-e];have:=HE.b2;show g≠w+1;omega
   ·exact(HX.a1.trans (HB.out.1.mono (by have:=HE.b2;omega))).setCell (by show w.heap.size<=w+1;omega) _
