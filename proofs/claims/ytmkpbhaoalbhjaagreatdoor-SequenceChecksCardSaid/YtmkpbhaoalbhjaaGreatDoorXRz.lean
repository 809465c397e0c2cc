/- Steps towards SequenceChecks. Conditions: none. -/
import Derived.Test.YtmkpbhaoalbhjaaGreatDoorXRy
set_option maxRecDepth 1000000
set_option maxHeartbeats 0
open Go.Value renaming slice→O,agg→I,pointer→σ,int→H,tuple→ψ
open Option renaming none→Z,some→Y
open Go renaming undef→V,World→δ,Value→ε
open Go.IntKind renaming i64→φ
open Go.Cx renaming keep→J
namespace Go.Proofs.YtmkpbhaoalbhjaaGreatDoor
open Go.RowKit Go.Cx
attribute [local go_sem ↓] Go.wp_at_zero Go.wp_at_succ
def bkS:ε->Option Nat
 | σ (Y ad)=>Y ad.block
 | O (Y ad) _ _=>Y ad.block
 |_=>Z
theorem qj3 (p r m:Int)(a:Option Addr)(n c:Nat):Tryz.prog.built 30 [(0,H φ p),(1,H φ r),(2,H φ m),(3,O a n c)]=Y #[H φ p,H φ r,H φ m,O a n c]:=by kernel_rfl
structure RP (W wx:δ)(b b2 q E N:Nat)(sv pv:ε)(p:Int)(r m at0:Nat)(P:List Nat)(L:List Int):Prop where
 below:Below b W wx
 c0:wx q=p
 c1:wx ⟨q,1,Z⟩=r
 c2:wx ⟨q,2,Z⟩=m
 c3:wx ⟨q,3,Z⟩=Y sv
 il:0<N->IL wx E L
 own:wx.ownsRow b2 3 1 pv at0 (ints (nI P))
section
variable {W wx w':δ}{b b2 q E N:Nat}{sv pv:ε}{p:Int}{r m at0:Nat}{P:List Nat}{L:List Int}
theorem RP.keep (h:RP W wx b b2 q E N sv pv p r m at0 P L)(hb:Below wx wx w')(hE:0<N->E<wx)(oG:b<=wx):RP W w' b b2 q E N sv pv p r m at0 P L :=
 ⟨h.below.trans (hb.mono oG),J hb h.c0,J hb h.c1,J hb h.c2,J hb h.c3,fun hN=>(h.il hN).keep hb (hE hN),qa h.own hb⟩
theorem RP.put {k:Nat}(h:RP W wx b b2 q E N sv pv p r m at0 P L)(x:Int)(hk:k<L.length)(BG:b<=E)(AW:q≠E)(dN:E<b2)(hN:0<N):RP W (wx.setCell ⟨E,k,Z⟩ x) b b2 q E N sv pv p r m at0 P (L.set k x) where
 below:=h.below.setCell BG _
 c0:=x8 h.c0 (fun e=>AW (congrArg Addr.block e))
 c1:=x8 h.c1 (fun e=>AW (congrArg Addr.block e))
 c2:=x8 h.c2 (fun e=>AW (congrArg Addr.block e))
 c3:=x8 h.c3 (fun e=>AW (congrArg Addr.block e))
 il:=fun _=>(h.il hN).put hk x
 own:=ownsRow_setCell_below h.own dN _
theorem RP.piv {P':List Nat}{QA:ε}{n:Nat}(h:RP W wx b b2 q E N sv pv p r m at0 P L)(hb:Below b2 wx w')(hE:0<N->E<b2)(hq:q<b2)(aj:b<=b2)(ho:w'.ownsRow b2 3 1 QA n (ints (nI P'))):RP W w' b b2 q E N sv QA p r m n P' L :=
 ⟨h.below.trans (hb.mono aj),(hb.cell (p:=q) hq).trans h.c0,(hb.cell (p:=⟨q,1,Z⟩) hq).trans h.c1,(hb.cell (p:=⟨q,2,Z⟩) hq).trans h.c2,(hb.cell (p:=⟨q,3,Z⟩) hq).trans h.c3,fun hN=>(h.il hN).keep hb (hE hN),ho⟩
theorem RP.drew (h:RP W wx b b2 q E N sv pv p r m at0 P L):RP W wx.drew b b2 q E N sv pv p r m at0 P L :=
 ⟨qb h.below 1,h.c0,h.c1,h.c2,h.c3,h.il,h.own.drew⟩
end
theorem qsk {w:δ}{base N q:Nat}{sa:Option Addr}{sn sc:Nat}{l:List Int}(h:RwI w base N (O sa sn sc) l)(ah:0<N->bkS (O sa sn sc)≠Y q)(x0 x1 x2 x3:ε):RwI ((((w.setCell q x0).setCell ⟨q,1,Z⟩ x1).setCell ⟨q,2,Z⟩ x2).setCell ⟨q,3,Z⟩ x3) base N (O sa sn sc) l:=by
 rcases h with h|⟨E,c,h1,h2,h3,h4,h5,h6,h7⟩
 ·exact .inl h
 ·refine .inr ⟨E,c,h1,h2,by simpa [World.setCell]using h3,h4,h5,h6,?_⟩;by_cases hN:0<N
  ·have hq:q≠E:=fun e=>ah hN (by rw[h1,e];rfl)
   exact(((h7.set _ _ hq).set _ _ hq).set _ _ hq).set _ _ hq
  ·have hl:l=[]:=gl (by omega);subst hl;intro i n hi;simp at hi
theorem qed {p:Int}{M:List (List Int)}{j:Nat}(h:(yf p M j).2.length=(yf p M j).1.length):∀d,yf p M (j+d)=yf p M j
 |0=>rfl
 |d+1=>by rw[<-Nat.add_assoc,vh,qed h d];unfold kr;rw[h,Nat.sub_self];rfl
theorem qsl (p:Int)(r m:Nat)(v:ε)(M:List (List Int))(w:δ)(h:Sl w 1 v (ints M.flatten))(hp:prN p.toNat=true)(hM:FM p r m M)(hr:r<=400)(hm:m<=800) :
  Calls Tryz.prog 70 #[I #[p,r,m,v]] w fun e w'=>∃sv u,e=.returned (ψ #[I #[p,r,m,sv],u])/\RwI w' w (r*m) sv (jk p m M).1.flatten ∧
   w'.ownsRow w 3 1 u (jk p m M).2.length (ints (nI (jk p m M).2))/\Below w w w':=by
 have iR:p.toNat<=997/\2<=p.toNat:=by have:=yi.1 hp;omega
 have cp:2<=p/\p<=997:=by omega
 obtain⟨va,vn,vc,rfl⟩:=qg h;obtain⟨N,hN⟩:=x4 (r*m);have ow:N<=320000:=by rw[hN];exact gd (Nat.mul_le_mul hr hm) (by decide)
 have fh:M.flatten.length=N:=hM.q1d.trans hN.symm;rw[<-hN];have HH:=kp h hM hp hN ow fh;clear h hM hp hN ow iR fh;go_enter Tryz.func70,Tryz.ntmps70;go_wp2_with fail;obtain⟨W,hW⟩:=x4 ((w.alloc (.cells #[p,r,m,O va vn vc] 30)).alloc (.cells #[H φ 0,H φ 0,H φ 0,O Z 0 0] 30));have hw:Below w w W:=by rw[hW];exact((q9).alloc (nlr _) _).alloc (by simp) _
 have aG:W.heap.size=w+2:=by rw[hW];simp
 have p0:W w=p:=by rw[hW];exact qk (xz w _ _ 0 rfl) _
 have p1:W ⟨w,1,Z⟩=r:=by rw[hW];exact qk (xz w _ _ 1 rfl) _
 have p2:W ⟨w,2,Z⟩=m:=by rw[hW];exact qk (xz w _ _ 2 rfl) _
 have p3:W ⟨w,3,Z⟩=O va vn vc:=by rw[hW];exact qk (xz w _ _ 3 rfl) _
 have q0:W (w+1:Nat)=H φ 0:=by rw[hW];exact zx w _ _ _ 0 rfl
 have q1:W ⟨w+1,1,Z⟩=H φ 0:=by rw[hW];exact zx w _ _ _ 1 rfl
 have q2:W ⟨w+1,2,Z⟩=H φ 0:=by rw[hW];exact zx w _ _ _ 2 rfl
 have q3:W ⟨w+1,3,Z⟩=O Z 0 0:=by rw[hW];exact zx w _ _ _ 3 rfl
 have qz:∀i,W.frozen? ⟨w+1,i,Z⟩=false:=fun i=>by rw[hW];exact vo w _ _ _ i
 rw[<-hW];have H0:=q4q hw aG q0 q1 q2 q3 qz;have VJ:=lhd (HH.out.1.keep hw);clear hW hw aG q0 q1 q2 q3 qz;refine qp4 fun KO cD=>?_
 go_cut [6]from 21 to 29 (fun x wx=>∃(q:Nat) (s:ε),x=σ q/\Hid (W<=q/\q<wx/\wx q=p/\wx ⟨q,1,Z⟩=r/\wx ⟨q,2,Z⟩=m/\wx ⟨q,3,Z⟩=Y s/\RwI wx W N s M.flatten/\(0<N->bkS s≠Y q)/\Below W W wx))
 case first =>
  rename_i At K2 hJ aQ;refine vf rfl (fun b i v w'=>match b,i with
   |false,0=>v=p
   |false,1=>v=σ (Y ⟨w,1,Z⟩)
   |false,2=>v=r
   |false,3=>v=m
   |false,4=>∃q,v=O (Y ⟨q,0,Z⟩) 0 0/\W<=q/\q<w'
   |false,5=>v=σ (Y ⟨w,3,Z⟩)
   |false,6=>v=O va vn vc
   |false,7=>RwI w' W N v M.flatten
   |false,8=>∃s,v=I #[p,r,m,s]/\RwI w' W N s M.flatten
   |false,9=>q6r v w'/\∃q,v=σ (Y ⟨q,0,Z⟩)/\W<=q
   |true,9=>∃q s,v=σ (Y ⟨q,0,Z⟩)/\W<=q/\q<w'/\w' ⟨q,0,Z⟩=p/\w' ⟨q,1,Z⟩=r/\w' ⟨q,2,Z⟩=m/\w' ⟨q,3,Z⟩=Y s/\RwI w' W N s M.flatten/\(0<N->bkS s≠Y q)
   |_,_=>True) (fun i=>i == 9 || (i == 7 && decide (0<N))) bkS [(8,7)] (fun _ v=>I #[p,r,m,v]) (by kernel_rfl) 10 189 rfl (by kernel_rfl) (by kernel_rfl) (by decide) rfl ?keep ?step ?store ?done
  case keep =>
   intro b i v w1 w2 h hb
   match b,i,h with
   |false,0,h=>exact h
   |false,1,h=>exact h
   |false,2,h=>exact h
   |false,3,h=>exact h
   |false,4,⟨q,h1,h2,h3⟩=>exact⟨q,h1,h2,gz h3 hb.size⟩
   |false,5,h=>exact h
   |false,6,h=>exact h
   |false,7,h=>exact h.keep hb
   |false,8,⟨s,h1,h2⟩=>exact⟨s,h1,h2.keep hb⟩
   |false,9,⟨h1,h2⟩=>exact⟨h1.keep hb,h2⟩
   |false,i+10,h=>trivial
   |true,0,h=>trivial
   |true,1,h=>trivial
   |true,2,h=>trivial
   |true,3,h=>trivial
   |true,4,h=>trivial
   |true,5,h=>trivial
   |true,6,h=>trivial
   |true,7,h=>trivial
   |true,8,h=>trivial
   |true,9,⟨q,s,h1,h2,h3,h4,h5,h6,h7,h8,h9⟩=>exact⟨q,s,h1,h2,gz h3 hb.size,J hb h4,J hb h5,J hb h6,J hb h7,h8.keep hb,h9⟩
   |true,10,h=>trivial
   |true,i+11,h=>trivial
  case step =>
   intro i o ho aD ph b w' bU hbf hw hd ab hsz
   match i,ho,aD,bU,hbf,hd with
   |0,rfl,aD,bU,hbf,hd =>obtain rfl:=jb hbf;exact jo (.inl rfl) ⟨_,rfl,(zr qu ab 4),j7 q9 rfl rfl⟩
   |1,rfl,aD,bU,hbf,hd =>obtain rfl:=jb hbf;exact yb rfl (zr qu ab 1) (jv w' _ 1 (by decide)) ⟨_,rfl,rfl,j7 q9 rfl rfl⟩
   |2,rfl,aD,bU,hbf,hd =>obtain rfl:=jb hbf;exact jm rfl (zf hd 1) (qe0 _ _ _ (J hw p1)) ⟨_,rfl,rfl,j7 q9 rfl rfl⟩
   |3,rfl,aD,bU,hbf,hd =>obtain rfl:=jb hbf;exact jo (.inl rfl) ⟨_,rfl,(zr qu ab 5),j7 q9 rfl rfl⟩
   |4,rfl,aD,bU,hbf,hd =>obtain rfl:=jb hbf;exact⟨rfl,gu _,q5z 23 0 _ rfl #[] (by simp) (O w' 0 0) (w'.alloc (.cells #[] 3)) (by simp[go_sem]) ⟨_,rfl,⟨w',rfl,hw.size,by simp⟩,j7 ((q9).alloc (nlr _) _) rfl rfl⟩⟩
   |5,rfl,aD,bU,hbf,hd =>obtain rfl:=jb hbf;exact yb rfl (zr qu ab 1) (jv w' _ 3 (by decide)) ⟨_,rfl,rfl,j7 q9 rfl rfl⟩
   |6,rfl,aD,bU,hbf,hd =>obtain rfl:=jb hbf;exact jm rfl (zf hd 5) (yy _ _ _ _ _ (J hw p3)) ⟨_,rfl,rfl,j7 q9 rfl rfl⟩
   |7,rfl,aD,bU,hbf,hd =>obtain rfl:=jb hbf;obtain⟨q4,f25,VK,LG⟩:∃q,b 25 V=O (Y ⟨q,0,Z⟩) 0 0/\W<=q/\q<w':=zf hd 4;have f27:b 27 V=O va vn vc:=zf hd 6;exact⟨rfl,gu _,qsg _ _ rfl q4 f25 _ M.flatten f27 (VJ.out.keep hw) (by rw[HH.b5];have:=HH.a4;omega) fun v2 w2 aj fO=>⟨v2,rfl,HH.b5 ▸ qql ⟨VK,LG⟩ hw.size fO,aj,fun h=>fO.elim (fun h1=>absurd (show 0<N by simpa using h) (by rw[<-HH.b5,h1.1];simp)) (fun ⟨E,c,h1,h2,h3,_⟩=>⟨E,by rw[h1];rfl,h2,h3⟩),fun c hc h=>absurd h ((by decide:∀c∈([(8,7)] : List (Nat×Nat)),c.1≠7) c hc)⟩⟩
   |8,rfl,aD,bU,hbf,hd =>obtain rfl:=jb hbf;have f28:RwI w' W N (b 28 V) M.flatten:=zf hd 7;have g21:b 21 V=p:=zf hd 0;have g23:b 23 V=r:=zf hd 2;have g24:b 24 V=m:=zf hd 3;obtain⟨sa,sc,MA⟩:=f28.shape;exact⟨rfl,gu _,qh5 _ _ rfl #[(0,H φ p),(1,H φ r),(2,H φ m),(3,b.tmps.getD 28 V)] (by rw[<-g21,<-g23,<-g24];simp[Act.eval]) (I #[H φ p,H φ r,H φ m,b.tmps.getD 28 V]) (by rw[MA];exact run_build _ _ _ _ (qj3 _ _ _ _ _ _)) ⟨_,rfl,⟨_,rfl,f28⟩,q9,fun h=>absurd h (by simp),fun c hc h=>by obtain rfl:c=(8,7):=(by decide:∀c∈([(8,7)] : List (Nat×Nat)),c.1=8->c=(8,7)) c hc h;intro o' d' ik eT;obtain rfl:=osi ik;obtain rfl:=osi eT;rfl⟩⟩
   |9,rfl,aD,bU,hbf,hd =>obtain rfl:=jb hbf;exact⟨rfl,gu _,vt _ rfl _ _ (q07 _) ⟨_,rfl,⟨q4h _,_,rfl,hw.size⟩,(q9).alloc (nlr _) _,(fun _=>⟨_,rfl,nlr _,by simp⟩),fun c hc h=>absurd h ((by decide:∀c∈([(8,7)] : List (Nat×Nat)),c.1≠9) c hc)⟩⟩
   |10,ho,aD,bU,hbf,hd=>exact absurd rfl aD
   |i+11,ho,aD,bU,hbf,hd =>have:i+11<11:=(gh.1 ho).1;omega
  case store =>
   intro o ho l b w' aP bW ag;obtain rfl:=osi ho;have f6:q6r (b 6 V) w'/\∃q,b 6 V=σ (Y ⟨q,0,Z⟩)/\W<=q:=by have h1:=ag.fact 9 _ _ rfl rfl (aP 9 (by kernel_rfl));rw[bW]at h1;exact h1
   have f29:∃s,b 29 V=I #[p,r,m,s]/\RwI w' W N s M.flatten:=by have h1:=ag.fact 8 _ _ rfl rfl (aP 8 (by kernel_rfl));rw[bW]at h1;exact h1
   have fx:b 29 V=I #[p,r,m,b 28 V]:=ag.copy (8,7) (by simp) (aP 8 (by kernel_rfl)) _ _ _ _ rfl rfl rfl rfl;have fD:0<N->bkS (b 28 V)≠bkS (b 6 V):=fun hN=>ag.apart 7 _ 28 9 _ 6 rfl rfl rfl rfl (aP 7 (by kernel_rfl)) (aP 9 (by kernel_rfl)) (by simpa using hN) rfl (by decide)
   obtain⟨s,MB,hR⟩:=f29;have VL:b 28 V=s:=by rw[fx]at MB;injection MB with e;injection e with e;simpa using e
   rw[VL]at fD;obtain⟨sa,sc,hs⟩:=hR.shape;subst hs;obtain⟨⟨q,e6,hq,q0,q1,q2,q3,hz⟩,q',xP,dA⟩:=f6;have iW:q'=q:=by rw[e6]at xP;injection xP with e;injection e with e;injection e with e;exact e.symm
   rw[iW]at dA;rw[e6]at fD;have z0:=hz 0;have z1:=hz 1;have z2:=hz 2;have z3:=hz 3;obtain⟨t0,t1,t2,t3⟩:=q1f q0 q1 q2 q3;have Gc:0<N->bkS (O sa N sc)≠Y q:=fun hN=>fD hN
   have VM:RwI ((((w'.setCell q p).setCell ⟨q,1,Z⟩ r).setCell ⟨q,2,Z⟩ m).setCell ⟨q,3,Z⟩ (O sa N sc)) W N (O sa N sc) M.flatten:=qsk hR Gc _ _ _ _;refine⟨rfl,ju _ _ _ rfl _ _ e6 MB (vx q0 q1 q2 q3 hz) ⟨rfl,?_,by simp,fun i oi di hi eI hl=>?_⟩⟩
   ·exact jj ag.below dA _ _ _ _
   ·match i,hi,hl with
    |9,hi,hl =>obtain rfl:=osi hi;obtain rfl:=osi eI;rw[e6];exact⟨q,_,rfl,dA,by simpa [World.setCell]using hq,t0 _ _ _ _,t1 _ _ _ _,t2 _ _ _ _,t3 _ _ _ _,VM,Gc⟩
    |0,hi,hl=>trivial
    |1,hi,hl=>trivial
    |2,hi,hl=>trivial
    |3,hi,hl=>trivial
    |4,hi,hl=>trivial
    |5,hi,hl=>trivial
    |6,hi,hl=>trivial
    |7,hi,hl=>trivial
    |8,hi,hl=>trivial
    |i+10,hi,hl=>trivial
  case done =>intro b w2 hsz aO hf ab hw;obtain⟨q,s,g6,h⟩:∃q s,b 6 V=σ (Y ⟨q,0,Z⟩)/\W<=q/\q<w2/\w2 ⟨q,0,Z⟩=p/\w2 ⟨q,1,Z⟩=r/\w2 ⟨q,2,Z⟩=m/\w2 ⟨q,3,Z⟩=Y s/\RwI w2 W N s M.flatten/\(0<N->bkS s≠Y q):=hf 9 _ _ rfl rfl;refine aQ _ _ (Met.intro (hJ _ _ ⟨b 6 V,b 21 V,b 22 V,b 23 V,b 24 V,b 25 V,b 26 V,b 27 V,b 28 V,b 29 V,⟨q,s,g6,(lhd ⟨h.1,h.2.1,h.2.2.1,h.2.2.2.1,h.2.2.2.2.1,h.2.2.2.2.2.1,h.2.2.2.2.2.2.1,h.2.2.2.2.2.2.2,hw⟩)⟩,(q8z hsz aO ab).trans ?_⟩));kernel_rfl
 case rest =>
  obtain⟨q,s,rfl,H3⟩:=hcut;refine cD _ _ ?_;obtain⟨sa,sc,hs⟩:=H3.a6.shape;subst hs;have t1:=J H3.b8 p1;have QB:=lhd p1;clear p0 p1 p2 p3;obtain⟨b2,aj⟩:=x4 wc.heap.size;have vS:W<=b2:=by rw[aj];exact H3.b8.size
  have hE:∃E c,0<N->O sa N sc=O (Y ⟨E,0,Z⟩) N c/\W<=E/\E<b2/\N<=c/\c<=maxLen/\q≠E/\IL wc E M.flatten:=by
   by_cases hN:0<N
   ·rcases H3.a6 with ⟨_,h0,_⟩|⟨E,c,e1,e2,e3,e4,e5,e6,e7⟩
    ·omega
    ·have ah:=H3.a7 hN;rw[e1]at ah;exact⟨E,c,fun _=>⟨e1,e2,by omega,e4,e5,fun e=>ah (by rw[e];rfl),e7⟩⟩
   ·exact⟨0,0,fun h=>absurd h hN⟩
  obtain⟨E,c,hE⟩:=hE;obtain⟨sv,dI⟩:=x4 (O sa N sc:ε);rw[<-dI]at hE;have eQ:q<b2:=by rw[aj];exact H3.a1
  have H4:=kg hE dI aj vS eQ;clear hE dI aj;go_wp2_with fail;go_loopw [7,8,9] (fun u a x wr=>∃(j:Nat) (ua:Option Addr) (uc:Nat),u=O ua (yf p M j).2.length uc/\a=((yf p M j).2.length:Nat)/\x=j/\j<=m/\Hid (RP wc wr W b2 q E N sv (O ua (yf p M j).2.length uc) p r m (yf p M j).2.length (yf p M j).2 (yf p M j).1.flatten)) (fun _ _ x _=>m-(vI x).toNat)
  case atStart =>have h3:=H3.out;refine⟨0,Z,0,rfl,rfl,rfl,gm _,(lhd ⟨q9,h3.2.2.1,h3.2.2.2.1,h3.2.2.2.2.1,by rw[H4.a1];exact h3.2.2.2.2.2.1,fun hN=>(H4.out.1 hN).2.2.2.2.2.2,World.ownsRow_nil _ _ _ _⟩)⟩
  case round =>
   obtain⟨j,ua,uc,rfl,rfl,rfl,hj,HR⟩:=hrel;obtain⟨wo,eE⟩:=x4 wr;subst eE;have dS:w.heap.size<W:=by have:=H0.a1;omega
   replace t1:=(HR.out.below.cell (p:=⟨w,1,Z⟩) dS).trans t1
   have xY:=lhd (H3.b8.trans (HR.out.below.mono (nlr _)));obtain⟨S,hS⟩:=x4 (yf p M j);obtain⟨hF,tF,_,_⟩:=q3n (show 0<p by omega) HH.a1 j;rw[<-hS]at hF tF HR ⊢;obtain⟨at0,bY⟩:=x4 S.2.length;rw[<-bY]at HR tF ⊢;have HS:=yh hS bY hF;clear hS bY hF;by_cases IF:j<m/\at0<r
   ·obtain⟨cj,eb⟩:=IF;have hN:0<N:=by rw[HH.a3];exact Nat.mul_pos (by omega) (by omega)
    obtain⟨dI,Ff,fS,uG,ej,AW,_⟩:=H4.out.1 hN;have QC:=HH.a3;have ow:=HH.a4;obtain⟨aj,vS,eQ⟩:=H4.b2;have Gd:b2<=wo:=by have:=HR.out.below.size;omega
    have HQ:=q93 dI Ff fS AW eQ vS Gd QC ow hN;have VN:=HR;clear HR dI Ff fS uG ej AW aj eQ vS Gd QC ow hN;have pk:(j:Int)<m:=by omega
    have VO:(at0:Int)<r:=by omega
    go_wp2_with fail;go_loopw [10] (fun x wr=>∃i:Nat,x=i/\at0<=i/\i<=r/\Hid (∀i',at0<=i'->i'<i->j6 (zm S.1 i') j=0)/\Hid (Below wo wo wr)) (fun x _=>r-(vI x).toNat)
    case atStart=>exact⟨at0,rfl,nlr _,by omega,(lhd (fun i' h1 h2=>by omega)),(lhd q9)⟩
    case round =>
     obtain⟨i,rfl,jO,db,HZ,mO⟩:=hrel
     replace t1:=J mO.out t1
     have KC:=VN.out.keep mO.out (fun _=>by have:=HQ.out;omega) (by have:=HQ.out;omega);have Ge:=lhd KC;clear KC;by_cases hi:i<r
     ·have BC:(i:Int)<r:=by omega
      have c3:=Ge.out.c3;rw[HQ.out.1]at c3;obtain⟨im,aD⟩:=x4 (i*m);obtain⟨ix,lR⟩:=x4 (i*m+j);have Gf:ix<N:=by rw[HQ.a7,lR];exact q2x hi cj
      have VP:(ix:Int)<N:=by omega
      have ow:N<=320000:=HQ.a8;have w1:IntKind.i64.wrap ((i:Int)*(m:Int))=(im:Int):=by rw[aD];exact kd (by omega) (by omega)
      have w2:IntKind.i64.wrap ((im:Int)+(j:Int))=(ix:Int):=by rw[lR,<-aD,Int.natCast_add];exact IntWalk.i64_in _ (by omega)
      obtain⟨lS,kY⟩:=HS.b2.at hi cj;obtain⟨x,hx⟩:∃x:Nat,(x:Int)=j6 (zm S.1 i) j:=⟨(j6 (zm S.1 i) j).toNat,by omega⟩
      have d0:=(Ge.out.il HQ.b9 _ _ (flat_get HS.b2.wid (by rw[HS.b2.len];exact hi) cj)).1;rw[<-lR,<-hx]at d0;rw[<-hx]at kY;have HX:=kg hx kY aD lR Gf;clear hx lS kY aD lR Gf ow;by_cases uI:x=0
      ·subst uI;have dv:(((0:Nat):Int) == 0)=true:=rfl;go_wp2;go_roundw
       case measure=>simp[vI];omega
       case rel =>
        refine⟨i+1,qh (by omega),by omega,by omega,(lhd (fun i' h1 h2=>?_)),mO⟩;by_cases Kr:i'=i
        ·rw[Kr,<-HX.out.1];rfl
        ·exact HZ.out i' h1 (by omega)
      ·have xB:((x:Int) == 0)=false:=by simpa using uI
       have kE:¬((x:Int)=0):=by omega
       have J6:((i:Int) == (r:Int))=false:=by simp;omega
       have VQ:¬((i:Int)=(r:Int)):=by omega
       have iF:q25 S.1 j (S.1.length-S.2.length) S.2.length=Y i:=by rw[HS.b2.len,<-HS.a1];exact qen jO (by omega) (by rw[<-HX.out.1];omega) HZ.out
       have tA:=lhd iF;have iR:=yi.1 HH.a2;obtain⟨P,hP⟩:∃P:Nat,p=(P:Int):=⟨p.toNat,by omega⟩
       clear iF;have QD:∀U:δ,Calls Tryz.prog 98 #[x,p] U fun e w'=>e=.returned (ovN p.toNat x:Nat)/\Below U.heap.size U w':=fun U=>by have h1:=HH.a2;have h2:=HX.a1;rw[hP]at h1 h2 ⊢;exact qvb x U h1 uI (by omega)
       have VR:=lhd QD;have tK:=q6t HH.a2 uI (by have:=HX.a1;omega);clear QD hP iR;go_wp2_with fail;refine(VR.out _).mono ?_;rintro e w4 ⟨rfl,aN⟩;obtain⟨y,hy⟩:=x4 (ovN p.toNat x);rw[<-hy];have hyp:(y:Int)<p/\0<y:=by rw[hy];omega
       have hsz:=Ge.out.below.size;have eJ:=yh (Ge.out.keep aN (fun _=>by have:=HQ.out;have:=mO.out.size;omega) (by have:=HQ.out;have:=mO.out.size;omega)) hy hyp
       replace t1:=J aN t1
       clear aN hy tK d0 c3 hsz;go_wp2_with fail;have aA:=eb;have hF:=HS.b2;have vU:=lhd hF;clear hF;go_loopw [12] (fun x wq=>∃cc:Nat,x=cc/\cc<=m/\Hid (RP wc wq W b2 q E N sv (O ua at0 uc) p r m at0 S.2 (SN p j S.1 at0 i cc).flatten)) (fun x _=>m-(vI x).toNat)
       case atStart=>exact⟨0,rfl,gm _,(lhd (by rw[qsi (by rw[vU.out.len];exact eb) (by rw[vU.out.len];exact hi)];exact eJ.out.1))⟩
       case round =>
        obtain⟨cc,rfl,Af,HC⟩:=hrel;by_cases ej:cc<m
        ·have xK:(cc:Int)<m:=by omega
         obtain⟨am,nR⟩:=x4 (at0*m);obtain⟨ax,tY⟩:=x4 (at0*m+cc);obtain⟨iy,oE⟩:=x4 (i*m+cc);have ow:N<=320000:=HQ.a8;have vV:ax<N:=by rw[HQ.a7,tY];exact q2x eb ej
         have Gg:iy<N:=by rw[HQ.a7,oE];exact q2x hi ej
         have MC:(ax:Int)<N:=by omega
         have VS:(iy:Int)<N:=by omega
         have w4:IntKind.i64.wrap ((im:Int)+(cc:Int))=(iy:Int):=by rw[oE,<-HX.a2,Int.natCast_add];exact IntWalk.i64_in _ (by have:=HX.a2;omega)
         have w5:IntKind.i64.wrap ((at0:Int)*(m:Int))=(am:Int):=by rw[nR];exact kd (by omega) (by omega)
         have w6:IntKind.i64.wrap ((am:Int)+(cc:Int))=(ax:Int):=by rw[tY,<-nR,Int.natCast_add];exact IntWalk.i64_in _ (by omega)
         obtain⟨g1,g2⟩:=qvc (j:=j) (show 0<p by omega) vU.out eb hi ej;obtain⟨xa,hxa⟩:=x4 (j6 (zm S.1 at0) cc);obtain⟨xi,dW⟩:=x4 (j6 (zm S.1 i) cc);rw[<-tY,<-hxa]at g1;rw[<-oE,<-dW]at g2;have dT:=HC.out.il HQ.b9;obtain⟨d1,z1⟩:=dT _ _ g1;obtain⟨d2,z2⟩:=dT _ _ g2;have c3:=HC.out.c3;rw[HQ.out.1]at c3;have nu:0<=xi/\xi<p:=by rw[dW];exact vU.out.at hi ej
         have kX:0<=(y:Int)/\(y:Int)<p:=⟨by omega,eJ.a2⟩
         obtain⟨m1,_,m3,m4⟩:=q41 cp.2 kX nu kX;obtain⟨xy,hxy⟩:=x4 (xi*(y:Int))
         replace m1:IntKind.i64.wrap (xi*(y:Int))=xy:=by rw[hxy];exact m1
         rw[<-hxy]at m3 m4;have hQ:xy.tmod p=xy%p:=q4g m3;obtain⟨nv,qH⟩:=x4 (xy%p);rw[<-qH]at hQ;have vW:j6 (ye p j (zm S.1 i)) cc=nv:=by rw[qg1 (by rw[(vU.out.row hi).1];exact ej),<-dW,<-HX.out.1,Int.toNat_natCast,<-eJ.a1,<-hxy,qH]
         have fo:=qu1 (j:=j) (show 0<p by omega) vU.out eb hi ej;rw[<-tY,<-hxa,<-oE,vW]at fo;have Dw:¬(p=0):=by omega
         have VT:(p == 0)=false:=by simpa using Dw
         have hlen:(SN p j S.1 at0 i cc).flatten.length=N:=(qlz (show 0<p by omega) vU.out eb hi cc).q1d.trans HQ.a7.symm;have Gh:iy=ax\/iy≠ax:=Classical.em _;have vX:=yt fo hlen vV Gg;have oU:iy=ax->xi=xa:=fun e=>by rw[e]at d2;rw[d1]at d2;injection d2 with d2;injection d2 with _ d2;exact d2.symm
         clear dT g1 g2 hxa dW nR tY oE vV Gg vW fo hlen nu kX hxy qH m3 m4 ow;go_upto_region 18 with fail
         go_still_tail 16,(by kernel_rfl)
         change wpList _ _ _ _ _ wr.drew;have AX:=HC.out.drew;obtain⟨w8,fJ⟩:=x4 wr.drew
         replace d1:w8 ⟨E,ax,Z⟩=xa:=by rw[fJ];exact d1
         replace d2:w8 ⟨E,iy,Z⟩=xi:=by rw[fJ];exact d2
         replace z1:w8.frozen? ⟨E,ax,Z⟩=false:=by rw[fJ];exact z1
         replace z2:w8.frozen? ⟨E,iy,Z⟩=false:=by rw[fJ];exact z2
         replace c3:w8 ⟨q,3,Z⟩=O E N c:=by rw[fJ];exact c3
         rw[<-fJ]at AX ⊢;have MD:=lhd AX;clear AX fJ;go_upto_region 19 with fail;obtain⟨ws,vY⟩:=x4 (w8.setCell ⟨E,iy,Z⟩ xa)
         replace c3:ws ⟨q,3,Z⟩=O E N c:=by rw[vY];exact x8 c3 (fun e=>HQ.a3 (congrArg Addr.block e))
         rw[<-vY];have QE:=lhd vY;clear vY
         go_still_tail 12,(by kernel_rfl)
         change wpList _ _ _ _ _ ws.drew;rw[QE.out];clear QE c3;have IQ:=(MD.out.put xa (by rw[vX.a1];exact vX.b3) HQ.a1 HQ.a3 HQ.a2 HQ.b9).drew;obtain⟨w9,pU⟩:=x4 ((w8.setCell ⟨E,iy,Z⟩ xa).drew);rw[<-pU]at IQ ⊢;have e1:∃v,w9 ⟨E,ax,Z⟩=Y v:=by
          rw[pU];rcases Gh with e|e
          ·rw[e];exact⟨_,World.cell?_setCell_same' _ _ _ (by rw[d1];rfl)⟩
          ·exact⟨_,x8 d1 (fun h=>e (by injection h with _ h _;exact h.symm))⟩
         obtain⟨ov,e1⟩:=e1;have e2:w9.frozen? ⟨E,ax,Z⟩=false:=by rw[pU];show (w8.setCell _ _).frozen? _=false;rw[World.frozen?_setCell];exact z1
         have c9:=IQ.c3;rw[HQ.out.1]at c9;have lC:=lhd IQ;clear IQ pU d1 d2 z1 z2 oU Gh;go_wp2;go_roundw
         case measure=>simp[vI];omega
         case rel =>refine⟨cc+1,qh (by omega),by omega,(show Hid _ from ?_)⟩;have h9:=lC.out.put nv (k:=ax) (by rw[List.length_set,vX.a1];exact vX.a2) HQ.a1 HQ.a3 HQ.a2 HQ.b9;rw[vX.out.1]at h9;exact h9
        ·have KW:cc=m:=by omega
         subst KW;obtain⟨M2,BJ⟩:=x4 ((q0f S.1 at0 i).set at0 (ye p j (zm (q0f S.1 at0 i) at0)));have IS:=qsj (j:=j) (show 0<p by omega) vU.out eb hi;rw[<-BJ]at IS;have Gi:FM p r cc M2:=by rw[<-IS];exact qlz (show 0<p by omega) vU.out eb hi cc
         have eY:=yh Gi BJ (by rw[<-IS];exact HC.out:RP wc wr W b2 q E N sv (O ua at0 uc) p r cc at0 S.2 M2.flatten);clear IS BJ Gi
         replace t1:=(eY.b2.below.cell (p:=⟨w,1,Z⟩) dS).trans ((H3.b8.cell (p:=⟨w,1,Z⟩) dS).trans QB.out)
         have xK:¬(cc:Int)<cc:=by omega
         go_wp2_with fail;go_loopw [14] (fun x wq=>∃k:Nat,x=k/\k<=r/\Hid (RP wc wq W b2 q E N sv (O ua at0 uc) p r cc at0 S.2 (elK p j at0 M2 k).flatten)) (fun x _=>r-(vI x).toNat)
         case atStart=>exact⟨0,rfl,gm _,(lhd (by rw[qif];exact eY.b2))⟩
         case round =>
          obtain⟨k,rfl,hk,HK⟩:=hrel;obtain⟨wk,KM⟩:=x4 wr;subst KM
          replace t1:=(HK.out.below.cell (p:=⟨w,1,Z⟩) dS).trans ((H3.b8.cell (p:=⟨w,1,Z⟩) dS).trans QB.out)
          by_cases cO:k<r
          ·have cV:(k:Int)<r:=by omega
           have uL:=qoz (show 0<p by omega) eY.out.1 j at0 k eb;have jR:zm (elK p j at0 M2 k) k=zm M2 k:=by rw[q7u _ _ _ _ _ (by rw[eY.out.1.len];exact cO),if_neg (Nat.lt_irrefl k)]
           have sL:zm (elK p j at0 M2 k) at0=zm M2 at0:=by
            rw[q7u _ _ _ _ _ (by rw[eY.out.1.len];exact eb)];split
            ·rw[if_pos rfl]
            ·rfl
           obtain⟨dv,ME⟩:=eY.out.1.at cO cj;obtain⟨z,hz⟩:∃z:Nat,(z:Int)=j6 (zm M2 k) j:=⟨(j6 (zm M2 k) j).toNat,by omega⟩
           rw[<-hz]at ME;obtain⟨km,cd⟩:=x4 (k*cc);obtain⟨kx,rM⟩:=x4 (k*cc+j);have ow:N<=320000:=HQ.a8;have MF:kx<N:=by rw[HQ.a7,rM];exact q2x cO cj
           have VU:(kx:Int)<N:=by omega
           have w3:IntKind.i64.wrap ((k:Int)*(cc:Int))=(km:Int):=by rw[cd];exact kd (by omega) (by omega)
           have w4:IntKind.i64.wrap ((km:Int)+(j:Int))=(kx:Int):=by rw[rM,<-cd,Int.natCast_add];exact IntWalk.i64_in _ (by omega)
           have d1:=(HK.out.il HQ.b9 _ _ (flat_get uL.wid (by rw[uL.len];exact cO) cj)).1;rw[jR,<-hz,<-rM]at d1;have c3:=HK.out.c3;rw[HQ.out.1]at c3;have ff:=kp hz ME uL jR sL cd;clear hz ME dv uL jR sL rM MF cd ow;go_wp2_with fail;go_loopw [16] (fun x wq=>∃e:Nat,x=e/\e<=cc/\Hid (e=0\/(k≠at0/\0<z))/\Hid (RP wc wq W b2 q E N sv (O ua at0 uc) p r cc at0 S.2 ((elK p j at0 M2 k).set k (kt (vg p j (zm M2 at0) (zm M2 k)) (zm M2 k) e)).flatten)) (fun x _=>cc-(vI x).toNat)
           case atStart =>refine⟨0,rfl,gm _,(show Hid _ from .inl rfl),(show Hid _ from ?_)⟩;rw[q17,<-ff.a3,q23 (by rw[ff.a2.len];exact cO)];exact HK.out
           case round =>
            obtain⟨e,rfl,he,nO,HE⟩:=hrel;clear d1 c3 t1;by_cases lx:e<cc
            ·have NT:(e:Int)<cc:=by omega
             by_cases kW:k=at0
             ·have rY:((k:Int) != (at0:Int))=false:=by rw[kW];simp
              have wY:e=0:=nO.out.resolve_right fun h=>h.1 kW
              have zU:=lhd (q9s (p:=p) (j:=j) (M:=M2) (a:=at0) (k:=k) (by rw[eY.out.1.len];exact cO) (.inl kW));have MG:=lhd wY;have MH:(k:Int)=(at0:Int):=by omega
              clear wY;go_wp2;go_roundw
              case measure=>simp[vI];omega
              case rel =>refine⟨k+1,qh (by omega),by omega,(show Hid _ from ?_)⟩;have h1:=HE.out;rw[MG.out,q17,<-ff.a3,q23 (by rw[ff.a2.len];exact cO)]at h1;rw[zU.out];exact h1
             ·have rY:((k:Int) != (at0:Int))=true:=by simp;omega
              have MH:¬(k:Int)=(at0:Int):=by omega
              by_cases dv:0<z
              ·have Kt:(0:Int)<z:=by omega
               obtain⟨am,nR⟩:=x4 (at0*cc);obtain⟨ax,tY⟩:=x4 (at0*cc+e);obtain⟨ky,rp⟩:=x4 (k*cc+e);have ow:N<=320000:=HQ.a8;have vV:ax<N:=by rw[HQ.a7,tY];exact q2x eb lx
               have Gj:ky<N:=by rw[HQ.a7,rp];exact q2x cO lx
               have MC:(ax:Int)<N:=by omega
               have VV:(ky:Int)<N:=by omega
               have w5:IntKind.i64.wrap ((at0:Int)*(cc:Int))=(am:Int):=by rw[nR];exact kd (by omega) (by omega)
               have w6:IntKind.i64.wrap ((am:Int)+(e:Int))=(ax:Int):=by rw[tY,<-nR,Int.natCast_add];exact IntWalk.i64_in _ (by omega)
               have w7:IntKind.i64.wrap ((km:Int)+(e:Int))=(ky:Int):=by rw[rp,<-ff.b5,Int.natCast_add];exact IntWalk.i64_in _ (by have:=ff.b5;omega)
               have mv:(zm M2 k).length=cc:=(eY.out.1.row cO).1;have Gk:(zm M2 at0).length=cc:=(eY.out.1.row eb).1;obtain⟨fZ,QF⟩:=q7m (show 0<p by omega) j Gk mv (eY.out.1.row cO).2.1;have xZ:FM p r cc ((elK p j at0 M2 k).set k (kt (vg p j (zm M2 at0) (zm M2 k)) (zm M2 k) e)):=ff.a2.set k (by rw[q1p (by rw[fZ,mv])];exact mv) (q6d QF (eY.out.1.row cO).2.1 e);have ir:zm ((elK p j at0 M2 k).set k (kt (vg p j (zm M2 at0) (zm M2 k)) (zm M2 k) e)) k=kt (vg p j (zm M2 at0) (zm M2 k)) (zm M2 k) e:=yl (by rw[ff.a2.len];exact cO);have cE:zm ((elK p j at0 M2 k).set k (kt (vg p j (zm M2 at0) (zm M2 k)) (zm M2 k) e)) at0=zm M2 at0:=by rw[q11 (fun h=>kW h)];exact ff.a4
               have g1:=flat_get xZ.wid (i:=k) (c:=e) (by rw[xZ.len];exact cO) lx;rw[ir,q3h (by rw[fZ,mv]) (by rw[mv];exact lx)]at g1;have g2:=flat_get xZ.wid (i:=at0) (c:=e) (by rw[xZ.len];exact eb) lx;rw[cE]at g2;obtain⟨o,ho⟩:=x4 (j6 (zm M2 k) e);obtain⟨v,hv⟩:=x4 (j6 (zm M2 at0) e);rw[<-ho,<-rp]at g1;rw[<-hv,<-tY]at g2;have uE:0<=o/\o<p:=by rw[ho];exact eY.out.1.at cO lx
               have QG:0<=v/\v<p:=by rw[hv];exact eY.out.1.at eb lx
               have QH:0<=p-(z:Int)/\p-(z:Int)<p:=by have:=ff.a1;omega
               have dT:=HE.out.il HQ.b9;obtain⟨d1,z1⟩:=dT _ _ g1;obtain⟨d2,_⟩:=dT _ _ g2;have c3:=HE.out.c3;rw[HQ.out.1]at c3;obtain⟨m1,m2,m3,m4⟩:=q41 cp.2 uE QH QG;have w8:IntKind.i64.wrap (p-(z:Int))=p-z:=IntWalk.i64_in _ (by omega);have hQ:(o+(p-(z:Int))*v).tmod p=(o+(p-(z:Int))*v)%p:=q4g (by omega);have vW:j6 (vg p j (zm M2 at0) (zm M2 k)) e=(o+(p-(z:Int))*v)%p:=by unfold vg;rw[if_neg (by rw[<-ff.out.1];omega),q9a (by rw[mv];exact lx) (by rw[Gk];exact lx),<-ho,<-hv,<-ff.out.1,Int.mul_comm v]
               obtain⟨pz,AY⟩:=x4 (p-(z:Int))
               replace w8:IntKind.i64.wrap (p-(z:Int))=pz:=by rw[AY];exact w8
               rw[<-AY]at m1 m2 hQ vW;obtain⟨pv,jP⟩:=x4 (pz*v)
               replace m1:IntKind.i64.wrap (pz*v)=pv:=by rw[jP];exact m1
               rw[<-jP]at m2 hQ vW;obtain⟨ov,tK⟩:=x4 (o+pv)
               replace m2:IntKind.i64.wrap (o+pv)=ov:=by rw[tK];exact m2
               rw[<-tK]at hQ vW;obtain⟨nv,qH⟩:=x4 (ov%p);rw[<-qH]at hQ vW;have Dw:¬(p=0):=by omega
               have VT:(p == 0)=false:=by simpa using Dw
               have fo:((elK p j at0 M2 k).set k (kt (vg p j (zm M2 at0) (zm M2 k)) (zm M2 k) e)).flatten.set ky nv=((elK p j at0 M2 k).set k (kt (vg p j (zm M2 at0) (zm M2 k)) (zm M2 k) (e+1))).flatten:=by rw[rp,q1r _ xZ.wid (by rw[xZ.len];exact cO) lx,ir,<-vW,q2t (by rw[fZ,mv]) (by rw[mv];exact lx),List.set_set]
               have hlen:((elK p j at0 M2 k).set k (kt (vg p j (zm M2 at0) (zm M2 k)) (zm M2 k) e)).flatten.length=N:=xZ.q1d.trans HQ.a7.symm;have vX:=yh fo hlen Gj;clear dT g1 g2 ho hv nR tY rp vV Gj ow vW fo hlen uE QG QH AY jP tK qH m3 m4 xZ ir cE fZ QF mv Gk;go_upto_region 27 with fail
               go_still_tail 32,(by kernel_rfl)
               change wpList _ _ _ _ _ wr.drew;have AX:=HE.out.drew;obtain⟨w9,pU⟩:=x4 wr.drew
               replace d1:w9 ⟨E,ky,Z⟩=o:=by rw[pU];exact d1
               replace d2:w9 ⟨E,ax,Z⟩=v:=by rw[pU];exact d2
               replace z1:w9.frozen? ⟨E,ky,Z⟩=false:=by rw[pU];exact z1
               replace c3:w9 ⟨q,3,Z⟩=O E N c:=by rw[pU];exact c3
               rw[<-pU]at AX ⊢;have MD:=lhd AX;have DC:=jg kW dv;clear AX pU;go_wp2;go_roundw
               case measure=>simp[vI];omega
               case rel =>refine⟨e+1,qh (by omega),by omega,(show Hid _ from .inr DC.out),(show Hid _ from ?_)⟩;have h9:=MD.out.put nv (by rw[vX.a1];exact vX.b2) HQ.a1 HQ.a3 HQ.a2 HQ.b9;rw[vX.out.1]at h9;exact h9
              ·have Gl:z=0:=by omega
               have Kt:¬(0:Int)<z:=by omega
               have wY:e=0:=nO.out.resolve_right fun h=>dv h.2
               have zU:=lhd (q9s (p:=p) (j:=j) (M:=M2) (a:=at0) (k:=k) (by rw[eY.out.1.len];exact cO) (.inr (by rw[<-ff.out.1,Gl];rfl)));have MG:=lhd wY;clear wY Gl;go_wp2;go_roundw
               case measure=>simp[vI];omega
               case rel =>refine⟨k+1,qh (by omega),by omega,(show Hid _ from ?_)⟩;have h1:=HE.out;rw[MG.out,q17,<-ff.a3,q23 (by rw[ff.a2.len];exact cO)]at h1;rw[zU.out];exact h1
            ·have QI:e=cc:=by omega
             have NT:¬(e:Int)<cc:=by omega
             have Ip:=lhd QI;clear QI;go_wp2;go_roundw
             case measure=>simp[vI];omega
             case rel =>refine⟨k+1,qh (by omega),by omega,(show Hid _ from ?_)⟩;have mF:=nO.out.resolve_left (fun h=>by have:=Ip.out;omega);have h1:=HE.out;have mv:(zm M2 k).length=cc:=(eY.out.1.row cO).1;have Gk:(zm M2 at0).length=cc:=(eY.out.1.row eb).1;obtain⟨fZ,_⟩:=q7m (show 0<p by omega) j Gk mv (eY.out.1.row cO).2.1;rw[Ip.out,q26 fZ mv]at h1;rw[<-qp5 (by rw[eY.out.1.len];exact cO) (by rw[eY.out.1.len];exact eb) mF.1,ff.a3,ff.a4];exact h1
          ·have aM:k=r:=by omega
           rw[aM]at HK;have cV:¬(k:Int)<r:=by omega
           have cJ:yf p M (j+1)=(elK p j at0 M2 r,S.2++[j]):=by rw[vh,<-HS.out.1,qdm HS.b2 tA.out (by rw[<-HS.a1];exact eb),<-HS.a1,eY.a1]
           have hsz:b2<=wk:=by have:=HK.out.below.size;have:=H4.a2;omega
           have tx:=jg cJ hsz;have af:=HK.out.own;clear cJ hsz;go_wp2_with (at_builtin;refine qo (W:=wk) rfl _ _ 23 rfl b2 3 Tryz.xg Tryz.underlying23 rfl (by decide) (by decide) _ _ _ rfl af [j] rfl rfl (q5v _) ?bp2 q9 ?bp3 ?_)
           case bp2=>omega
           case bp3=>exact tx.out.2
           intro v9 w9 jB rZ ei;obtain⟨nS,nU,sb⟩:=qj jB;subst sb;have lC:=jg jB ei;clear rZ jB ei af;go_wp2;go_roundw
           case measure=>simp[vI];omega
           case rel =>
            have hl:(S.2++[j]).length=at0+1:=by rw[gw,<-HS.a1];rfl
            refine⟨j+1,nS,nU,?_⟩;rw[tx.out.1];show _=O nS (S.2++[j]).length nU/\_=H φ ((S.2++[j]).length:Nat)/\_/\_/\Hid (RP _ _ _ _ _ _ _ _ (O nS (S.2++[j]).length nU) _ _ _ (S.2++[j]).length (S.2++[j]) _);rw[hl];refine⟨rfl,qh (by omega),qh (by omega),by omega,(lhd (HK.out.piv lC.out.2 (fun _=>HQ.a2) HQ.a4 HQ.a5 ?_))⟩;rw[ql8,vk];exact lC.out.1
     ·have hie:i=r:=by omega
      have J6:((i:Int) == (r:Int))=true:=by rw[hie];simp
      have BC:¬((i:Int)<r):=by omega
      have cJ:yf p M (j+1)=S:=by rw[vh,<-HS.out.1];unfold kr;rw[qeo (fun i' h1 h2=>HZ.out i' (by rw[HS.a1];exact h1) (by rw[hie];have:=HS.b2.len;have:=HS.a1;omega))]
      have tx:=lhd cJ;clear cJ;go_wp2;go_roundw
      case measure=>simp[vI];omega
      case rel =>refine⟨j+1,ua,uc,?_⟩;rw[tx.out,<-HS.a1];exact⟨rfl,rfl,qh (by omega),by omega,Ge⟩
   ·have eS:jk p m M=S:=by
     rcases gG j m with h1|h1
     ·have hl:S.2.length=S.1.length:=by rw[HS.b2.len,<-HS.a1];omega
      rw[HS.out.1]at hl ⊢;have:=qed hl (m-j);rw[show j+(m-j)=m by omega]at this;exact this
     ·rw[HS.out.1,show j=m by omega];rfl
    have IT:=lhd eS;clear eS;rcases gG j m with h1|h1
    ·have pk:(j:Int)<m:=by omega
     have VO:¬(at0:Int)<r:=by omega
     obtain⟨q0,q1,q2,q3,qz⟩:=H0.b2;have bX:∀ {c:Nat} {x:ε},W.cell? ⟨w.heap.size+1,c,Z⟩=Y x->wo.cell? ⟨w.heap.size+1,c,Z⟩=Y x:=fun hx=>(xY.out.cell (by show w.heap.size+1<_;have:=H0.a1;omega)).trans hx
     have r0:=bX q0;have r1:=bX q1;have r2:=bX q2;have r3:=bX q3;have cL:∀i,wo.frozen? ⟨w.heap.size+1,i,Z⟩=false:=fun i=>(xY.out.frozen (by show w.heap.size+1<_;have:=H0.a1;omega)).trans (qz i)
     have z0:=cL 0;have z1:=cL 1;have z2:=cL 2;have z3:=cL 3;have x0:=HR.out.c0;have x1:=HR.out.c1;have x2:=HR.out.c2;have x3:=HR.out.c3;rw[H4.a1]at x3;clear q0 q1 q2 q3 qz bX cL;go_wp2_with fail;obtain⟨e0,e1,e2,e3⟩:=q1f r0 r1 r2 r3;refine bodyPost_ret (v:=ψ #[I #[p,r,m,O sa N sc],O ua at0 uc]) (by simp[results,Tryz.results70,go_sem,e0,e1,e2,e3]) rfl ⟨_,_,rfl,?_,?_,jj ((btr H0.out.1 xY.out)) (by omega) _ _ _ _⟩
     ·rw[IT.out,<-H4.a1];by_cases hN:0<N
      ·obtain⟨e5,e6,e7,e8,e9,_,_⟩:=H4.out.1 hN;refine .inr ⟨E,c,e5,by have:=H0.out.1.size;omega,?_,e8,e9,?_,?_⟩
       ·have:=xY.out.size;have:=HR.out.below.size;have:=H4.a2;simp[World.setCell];omega
       ·rw[HS.b2.q1d,HH.a3]
       ·have hi:=HR.out.il hN;have ah:w+1≠E:=by have:=H0.a1;omega
        exact(((hi.set _ _ ah).set _ _ ah).set _ _ ah).set _ _ ah
      ·have cY:N=0:=by omega
       have fh:S.1.flatten=[]:=gl (by rw[HS.b2.q1d,<-HH.a3];exact cY);have Gm:=H3.a6;rw[<-H4.a1]at Gm;rw[fh];rcases Gm with ⟨e1,e2,_⟩|⟨g,cap,e1,e2,e3,e4,e5,_,_⟩
       ·exact .inl ⟨e1,e2,rfl⟩
       ·refine .inr ⟨g,cap,e1,by have:=H0.out.1.size;omega,?_,e4,e5,cY.symm,fun i n hi=>by simp at hi⟩;have:=HR.out.below.size;simp[World.setCell];omega
     ·rw[IT.out,<-HS.a1];refine vl (qf HR.out.own (by have:=H0.out.1.size;have:=H4.a3;omega)) (fun b hb=>?_) _ _ _ _;have:=(HR.out.own.lt b hb).1;have:=H4.a3;have:=H0.a1;omega
    ·have pk:¬(j:Int)<m:=by omega
     obtain⟨q0,q1,q2,q3,qz⟩:=H0.b2;have bX:∀ {c:Nat} {x:ε},W.cell? ⟨w.heap.size+1,c,Z⟩=Y x->wo.cell? ⟨w.heap.size+1,c,Z⟩=Y x:=fun hx=>(xY.out.cell (by show w.heap.size+1<_;have:=H0.a1;omega)).trans hx
     have r0:=bX q0;have r1:=bX q1;have r2:=bX q2;have r3:=bX q3;have cL:∀i,wo.frozen? ⟨w.heap.size+1,i,Z⟩=false:=fun i=>(xY.out.frozen (by show w.heap.size+1<_;have:=H0.a1;omega)).trans (qz i)
     have z0:=cL 0;have z1:=cL 1;have z2:=cL 2;have z3:=cL 3;have x0:=HR.out.c0;have x1:=HR.out.c1;have x2:=HR.out.c2;have x3:=HR.out.c3;rw[H4.a1]at x3;clear q0 q1 q2 q3 qz bX cL;go_wp2_with fail;obtain⟨e0,e1,e2,e3⟩:=q1f r0 r1 r2 r3;refine bodyPost_ret (v:=ψ #[I #[p,r,m,O sa N sc],O ua at0 uc]) (by simp[results,Tryz.results70,go_sem,e0,e1,e2,e3]) rfl ⟨_,_,rfl,?_,?_,jj ((btr H0.out.1 xY.out)) (by omega) _ _ _ _⟩
     ·rw[IT.out,<-H4.a1];by_cases hN:0<N
      ·obtain⟨e5,e6,e7,e8,e9,_,_⟩:=H4.out.1 hN;refine .inr ⟨E,c,e5,by have:=H0.out.1.size;omega,?_,e8,e9,?_,?_⟩
       ·have:=xY.out.size;have:=HR.out.below.size;have:=H4.a2;simp[World.setCell];omega
       ·rw[HS.b2.q1d,HH.a3]
       ·have hi:=HR.out.il hN;have ah:w+1≠E:=by have:=H0.a1;omega
        exact(((hi.set _ _ ah).set _ _ ah).set _ _ ah).set _ _ ah
      ·have cY:N=0:=by omega
       have fh:S.1.flatten=[]:=gl (by rw[HS.b2.q1d,<-HH.a3];exact cY);have Gm:=H3.a6;rw[<-H4.a1]at Gm;rw[fh];rcases Gm with ⟨e1,e2,_⟩|⟨g,cap,e1,e2,e3,e4,e5,_,_⟩
       ·exact .inl ⟨e1,e2,rfl⟩
       ·refine .inr ⟨g,cap,e1,by have:=H0.out.1.size;omega,?_,e4,e5,cY.symm,fun i n hi=>by simp at hi⟩;have:=HR.out.below.size;simp[World.setCell];omega
     ·rw[IT.out,<-HS.a1];refine vl (qf HR.out.own (by have:=H0.out.1.size;have:=H4.a3;omega)) (fun b hb=>?_) _ _ _ _;have:=(HR.out.own.lt b hb).1;have:=H4.a3;have:=H0.a1;omega
theorem qqo (p:Int)(r m:Nat)(v:ε)(M:List (List Int))(w:δ)(h:Sl w 1 v (ints M.flatten))(hp:prI p=true)(hM:FM p r m M)(hr:r<=400)(hm:m<=400) :
  Calls Tryz.prog 38 #[I #[p,r,m,v]] w fun e w'=>∃sv u,e=.returned (ψ #[I #[p,r,m,sv],u])/\RwI w' w (r*m) sv (jk p m M).1.flatten ∧
   w'.ownsRow w 3 1 u (jk p m M).2.length (ints (nI (jk p m M).2))/\Below w w w':=by
 obtain⟨jL,iR,eP⟩:=q3r hp;obtain⟨va,vn,vc,rfl⟩:=qg h;have HO:=yt (q3d hp hM hr hm) h hM eP;clear h hM eP hp;go_enter Tryz.func38,Tryz.ntmps38;go_wp2_with fail;obtain⟨W0,aB⟩:=x4 ((w.alloc (.cells #[p,r,m,O va vn vc] 30)).alloc (.cells #[H φ 0,H φ 0,H φ 0,O Z 0 0] 30));have fe:Below w w W0:=by rw[aB];exact((q9).alloc (nlr _) _).alloc (by simp) _
 have dg:W0.heap.size=w+2:=by rw[aB];simp
 have p0:W0 w=p:=by rw[aB];exact qk (xz w _ _ 0 rfl) _
 have p1:W0 ⟨w,1,Z⟩=r:=by rw[aB];exact qk (xz w _ _ 1 rfl) _
 have p2:W0 ⟨w,2,Z⟩=m:=by rw[aB];exact qk (xz w _ _ 2 rfl) _
 have p3:W0 ⟨w,3,Z⟩=O va vn vc:=by rw[aB];exact qk (xz w _ _ 3 rfl) _
 have q0:W0 (w+1:Nat)=H φ 0:=by rw[aB];exact zx w _ _ _ 0 rfl
 have q1:W0 ⟨w+1,1,Z⟩=H φ 0:=by rw[aB];exact zx w _ _ _ 1 rfl
 have q2:W0 ⟨w+1,2,Z⟩=H φ 0:=by rw[aB];exact zx w _ _ _ 2 rfl
 have q3:W0 ⟨w+1,3,Z⟩=O Z 0 0:=by rw[aB];exact zx w _ _ _ 3 rfl
 have qz:∀i,W0.frozen? ⟨w+1,i,Z⟩=false:=fun i=>by rw[aB];exact vo w _ _ _ i
 rw[<-aB];have H0:=q4q fe dg q0 q1 q2 q3 qz;clear aB fe dg q0 q1 q2 q3 qz;refine(qgc p r m (O va vn vc) M.flatten W0 (HO.a1.keep H0.out.1)).mono ?_;rintro e w1 ⟨rfl,ae⟩;rw[HO.out.1]
 replace p0:=J ae p0
 replace p1:=J ae p1
 replace p2:=J ae p2
 replace p3:=J ae p3
 have cX:=lhd ae;clear ae;go_wp2_with fail;refine(qsl p r m (O va vn vc) M w1 ((HO.a1.keep H0.out.1).keep cX.out) HO.b3 HO.a2 hr (by omega)).mono ?_;rintro e w2 ⟨sv,u,rfl,hR,hO,aj⟩;have eo:Below W0 W0 w2:=(btr cX.out aj);obtain⟨sa,sc,dI⟩:=hR.shape;have r0:=J eo H0.a2;have r1:=J eo H0.a3;have r2:=J eo H0.a4;have r3:=J eo H0.a5;have hz:∀i,w2.frozen? ⟨w.heap.size+1,i,Z⟩=false:=fun i=>xf eo (by show w.heap.size+1<_;have:=H0.a1;omega) (H0.b6 i)
 have z0:=hz 0;have z1:=hz 1;have z2:=hz 2;have z3:=hz 3;have bQ:Below w w w2:=H0.out.1.trans (eo.mono (by have:=H0.a1;omega));have cU:w.heap.size+1<w1:=by have:=cX.out.size;have:=H0.a1;omega
 have HR:=yt hR hO bQ cU;obtain⟨N,hN⟩:=x4 (r*m);rw[<-hN]at dI;subst dI;have HN:=lhd hN;obtain⟨ua,uc,hu⟩:=qj hO;subst hu;obtain⟨L,hL⟩:=x4 ((jk p m M).2.length);rw[<-hL];have HL:=lhd hL;clear hR hO bQ cU aj eo hz hN hL;go_wp2_with fail;obtain⟨e0,e1,e2,e3⟩:=q1f r0 r1 r2 r3;have hR:=HR.out.1;have hO:=HR.a1;rw[<-HN.out]at hR ⊢;rw[<-HL.out]at hO ⊢;refine bodyPost_ret (v:=ψ #[I #[p,r,m,O sa N sc],O ua L uc]) (by simp[results,Tryz.results38,go_sem,e0,e1,e2,e3]) rfl ⟨_,_,rfl,(hR.q1f HR.b3 _ _ _ _).mono (by have:=HR.b3;omega),vl (qf hO (by have:=HR.b3;omega)) (fun b hb=>?_) _ _ _ _,jj HR.a2 (by omega) _ _ _ _⟩;have:=(hO.lt b hb).1;have:=HR.b3;omega
theorem qt2 (p:Int)(r m:Nat)(v:ε)(M:List (List Int))(w:δ)(h:Sl w 1 v (ints M.flatten))(hp:prI p=true)(hM:FM p r m M)(hr:r<=400)(hm:m<=400) :
  Calls Tryz.prog 13 #[I #[p,r,m,v]] w fun e w'=>e=.returned (q2r p m M:Int)/\Below w w w':=by
 obtain⟨va,vn,vc,rfl⟩:=qg h;have HO:=yh h hp hM;clear h hM hp;go_enter Tryz.func13,Tryz.ntmps13;go_wp2_with fail;refine(qqo p r m (O va vn vc) M _ (HO.out.1.alloc _) HO.a1 HO.b2 hr hm).mono ?_;rintro e w2 ⟨sv,u,rfl,hR,hO,aj⟩;have bQ:Below w w w2:=(bal w _).trans (aj.mono (by simp));obtain⟨sa,sc,dI⟩:=hR.shape;subst dI;obtain⟨ua,uc,hu⟩:=qj hO;subst hu;have HL:Hid ((jk p m M).2.length=q2r p m M):=(lhd rfl)
 obtain⟨L,hL⟩:=x4 ((jk p m M).2.length);obtain⟨N,hN⟩:=x4 (r*m);rw[<-hL]at HL ⊢;rw[<-hN];have HB:=lhd bQ;clear hR hO aj bQ hL hN;go_wp2;go_ret;exact⟨by rw[<-HL.out];rfl,HB.out.alloc HB.out.size _⟩
