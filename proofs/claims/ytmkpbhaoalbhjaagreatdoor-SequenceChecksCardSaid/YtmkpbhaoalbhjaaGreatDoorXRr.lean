/- Steps towards SequenceChecks. Conditions: none. -/
import Derived.Test.YtmkpbhaoalbhjaaGreatDoorXRq
set_option maxRecDepth 1000000
set_option maxHeartbeats 0
open Go.Value renaming slice→O,agg→I,pointer→σ,bool→τ,int→H,tuple→ψ
open Option renaming none→Z,some→Y
open Go renaming undef→V,World→δ,Value→ε
open Go.IntKind renaming i64→φ
open Go.Cx renaming keep→J
namespace Go.Proofs.YtmkpbhaoalbhjaaGreatDoor
open Go.RowKit Go.Cx
attribute [local go_sem ↓] Go.wp_at_zero Go.wp_at_succ
theorem qhc:(Tryz.prog.info? 52).map (fun i=>(i.zero,i.size,i.bytes))=Y (Y (I #[H φ 0,H φ 0,O Z 0 0]),3,40):=by kernel_rfl
theorem qtv (w:δ)(x d:Int)(a:Option Addr)(n c:Nat):(Instr.buildSlice 34 1 #[(0,I #[x,d,O a n c])]).run Tryz.prog w=.ok (O w 1 1) (w.alloc (.cells #[x,d,O a n c] 52)):=by
 have key:∀u u' Lx:ε,(Instr.buildSlice 34 1 #[(0,I #[u,u',Lx])]).run Tryz.prog w=.ok (O w 1 1) (w.alloc (.cells #[u,u',Lx] 52)):=fun u u' Lx =>q2p _ _ 52 _ _ _ _ 3 40 Tryz.underlying34 qhc (by decide) (by decide) (by kernel_rfl)
 exact key _ _ _
theorem qdz (w:δ)(p:Addr)(u:ε)(b:Option Addr)(m d:Nat)(h:w p=Y u)(hf:w.frozen? p=false):(Instr.storeAt 34 (σ (Y p)) (O b m d)).run Tryz.prog w=.ok () (w.setCell p (O b m d)):=by simp[go_sem,h,hf]
theorem qe1 (w:δ)(p:Addr)(b:Option Addr)(m d:Nat)(h:w p=O b m d):(Instr.loadAt 34 (σ (Y p))).run Tryz.prog w=.ok (O b m d) w:=by simp[go_sem,h]
theorem q6z (w:δ)(p:Addr)(b:Option Nat)(h:w p=Value.map b):(Instr.loadAt 88 (σ (Y p))).run Tryz.prog w=.ok (.map b) w:=by simp[go_sem,h]
theorem q7w (w:δ)(q:Nat):(Instr.fieldAt 36 (σ q) 0).run Tryz.prog w=.ok (σ q) w:=by simp[go_sem]
theorem qag (w:δ)(q i:Nat)(hi:i<2):(Instr.fieldAt 90 (σ q) i).run Tryz.prog w=.ok (σ (Y ⟨q,i,Z⟩)) w:=by rcases (by omega:i=0\/i=1)with rfl|rfl <;> simp[go_sem]
theorem qit {w:δ}{p:Nat}{x:Ce}(h0:w p=x.id)(h1:w ⟨p,1,Z⟩=x.dim)(h2:w ⟨p,2,Z⟩=O x.a x.n x.c):(Instr.loadAt 52 (σ p)).run Tryz.prog w=.ok x.v w:=by simp[go_sem,h0,h1,h2,Ce.v]
theorem qiu {P:Program}{Q:Exit->Act->δ->Prop}{o:Oper}{a:Act}{w:δ}{K:Act->δ->Prop}(t:Nat)(x y:Operand)(f:Bool)(aX:o.op=.lookup t x y f)(u v z:ε)(h1:a.eval x=u)(h2:a.eval y=v)(hr:(Instr.lookup t u v f).run P w=.ok z w)(h:K (a.put o.dst z) w):Oper.wp P o a w K Q:=by subst h1 h2;unfold Oper.wp;simp[execOp,aX,hr,Result.andThen];exact h
structure CG (wr:δ)(q b2:Nat)(o:ε)(l:List Ce):Prop where
 c0:wr q=Y o
 z0:wr.frozen? q=false
 own:wr.ownsRow b2 52 3 o l.length (cat Ce.enc l)
 lt:q<b2
 le:b2<=wr
theorem CG.keep {w w':δ}{q b2:Nat}{o:ε}{l:List Ce}(h:CG w q b2 o l)(hb:Below w w w'):CG w' q b2 o l :=
 ⟨J hb h.c0,xf hb (World.block_lt_of_cell? w q h.c0) h.z0,qa h.own hb,h.lt,gd h.le hb.size⟩
theorem CG.step {wr w6 w7:δ}{q b2 g cap:Nat}{o:ε}{l:List Ce}{x:Ce}(h:CG wr q b2 o l)(hb:Below wr wr w6)(hg:w6.grownBy w7 o.ownBlock)
  (af:w7.ownsRow b2 52 3 (O g (l.length+1) cap) (l.length+1) (cat Ce.enc l++x.enc)) :
  CG (w7.setCell q (O g (l.length+1) cap)) q b2 (O g (l.length+1) cap) (l++[x])/\Below b2 wr w7:=by
 have qN:∀k,o.ownBlock=Y k->b2<=k/\k<wr:=fun k e=>h.own.lt k e
 have hsz:=hb.size;have E2:w6.heap.size<=w7:=hg.size;have hle:=h.le;have ak:=h.lt;have hB:Below b2 wr w7:=(hb.mono h.le).grown hg (gd h.le hsz) fun k e=>(qN k e).1
 have sJ:w7 q=Y o:=ql hg (J hb h.c0) fun k e=>by have:=(qN k e).1;show q≠k;omega
 have xC:w7.frozen? q=false:=(hB.frozen (p:=q) h.lt).trans h.z0;refine⟨⟨World.cell?_setCell_same' _ _ _ (by rw[sJ];rfl),by rw[World.frozen?_setCell];exact xC,?_,h.lt,?_⟩,hB⟩
 ·rw[gw,q2e,q99];exact qji af (fun k hk=>by have:=(af.lt k hk).1;show k≠q;omega) _
 ·simp only [World.size_setCell];omega
def cT (wr:δ)(b2 k:Nat)(x:Ce)(o:ε)(l:List Ce):List ε->δ->Prop:=fun vs w2=>match vs with
 |[]=>Below wr wr w2
 |[s]=>Below wr wr w2/\∃gs,s=O (Y ⟨gs,0,Z⟩) 1 1/\∀j u,(x.enc:List ε)[j]? =Y u->w2 (Addr.add ⟨gs,0,Z⟩ j)=Y u
 |[_,r]=>∃g cap w6,r=O (Y ⟨g,0,Z⟩) (k+1) cap/\Below wr wr w6/\w6.grownBy w2 o.ownBlock/\w2.ownsRow b2 52 3 (O (Y ⟨g,0,Z⟩) (k+1) cap) (k+1) (cat Ce.enc l++x.enc)
 |_=>False
theorem q6k {wr w2:δ}{b2 k:Nat}{x:Ce}{o:ε}{l:List Ce}{vs:List ε}(h:cT wr b2 k x o l vs w2)(hl:vs.length<=1):Below wr wr w2:=by
 match vs,h,hl with
 |[],h,_=>exact h
 |[_],h,_=>exact h.1
 |_ :: _ :: _,_,hl=>simp at hl
theorem CG.box {wr w6 w7:δ}{q b2:Nat}{o:ε}{l:List Ce}(h:CG wr q b2 o l)(hb:Below wr wr w6)(hg:w6.grownBy w7 o.ownBlock):w7 q=Y o/\w7.frozen? q=false:=by
 have sJ:w7 q=Y o:=ql hg (J hb h.c0) fun k e=>by have:=(h.own.lt k e).1;have:=h.lt;show q≠k;omega
 have hB:Below b2 wr w7:=(hb.mono h.le).grown hg (gd h.le hb.size) fun k e=>(h.own.lt k e).1
 exact⟨sJ,(hB.frozen (p:=q) h.lt).trans h.z0⟩
theorem qlp {m:List Ce}(c:Int):(∃y,y∈m/\y.id=c/\gOf m c=Y y.v)\/(gOf m c=Z/\∀y∈m,y.id≠c):=by
 unfold gOf;cases hf:m.find? fun x=>x.id == c with
 |none=>exact .inr ⟨rfl,fun y hy e=>by have:=List.find?_eq_none.1 hf y hy;simp[e]at this⟩
 |some y=>exact .inl ⟨y,gR hf,by simpa using List.find?_some hf,rfl⟩
def k9 (mA l:List Ce):List Ce:=l.filter fun y=>!(mA.any fun x=>x.id == y.id)
theorem qs5 {w:δ}{v u:ε}{A B U:List Cl}(h:Kx w v A)(k:Kx w u B)(hU:qcs A B=Y U)(hc:Cx.chk U=(0,0))(P7:canon U=U) :
  Calls Tryz.prog 47 #[v,u] w fun e w'=>∃y,e=.returned (ψ #[y,τ true])/\Kx w' y U/\Below w w w':=by
 obtain⟨a,an,ac,rfl⟩:=h.shape;obtain⟨c,cn,cc,rfl⟩:=k.shape;have HH:=kg h k hU hc P7;clear h k hU hc P7;go_enter Tryz.func47,Tryz.ntmps47;go_wp2_with fail;obtain⟨W,hW⟩:=x4 (((w.alloc (.cells #[O a an ac] 36)).alloc (.cells #[O c cn cc] 36)).alloc (.cells #[O Z 0 0] 36));rw[<-hW];have hw:Below w w W:=by rw[hW];exact(((q9).alloc (nlr _) _).alloc (by simp) _).alloc (by simp;omega) _
 have b2:W w=O a an ac:=by rw[hW];exact qk (qk (xz w _ _ 0 rfl) _) _
 have b3:W (w+1:Nat)=O c cn cc:=by rw[hW];exact qk (zx w _ _ _ 0 rfl) _
 have b4:W (w+1+1:Nat)=O Z 0 0:=by rw[hW];exact jw w _ _ _ _ 0 rfl
 have z4:W.frozen? (w+1+1:Nat)=false:=by rw[hW];exact q1e w _ _ _ _ 0
 have aG:W.heap.size=w+3:=by rw[hW];simp
 have HW:=kp hw (HH.out.1.keep hw) (HH.a1.keep hw) b4 z4 aG;clear hW hw b4 z4 aG;refine qp4 fun KO cD=>?_
 go_cut [6,7]from 17 to 20 (fun x y wx=>∃S T:Nat,x=σ S/\y=σ T/\Hid (q5e wx S A/\q5e wx T B/\Below W W wx))
 case first =>
  rename_i At K2 hJ aQ;refine q0m rfl (fun i v w'=>match i with
   |0=>v=I #[O a an ac]
   |1=>∃T,v=σ (Y ⟨T,0,Z⟩)/\q5e w' T A
   |2=>v=I #[O c cn cc]
   |3=>∃T,v=σ (Y ⟨T,0,Z⟩)/\q5e w' T B
   |4=>∃T,v=σ (Y ⟨T,0,Z⟩)/\q5e w' T A
   |5=>∃T,v=σ (Y ⟨T,0,Z⟩)/\q5e w' T B
   |_=>True) 98 rfl (by kernel_rfl) (by kernel_rfl) ?keep ?step ?done
  case keep =>
   intro i v w1 w2 h hb
   match i,h with
   |0,h=>exact h
   |1,⟨T,h1,h2⟩=>exact⟨T,h1,h2.keep hb⟩
   |2,h=>exact h
   |3,⟨T,h1,h2⟩=>exact⟨T,h1,h2.keep hb⟩
   |4,⟨T,h1,h2⟩=>exact⟨T,h1,h2.keep hb⟩
   |5,⟨T,h1,h2⟩=>exact⟨T,h1,h2.keep hb⟩
   |i+6,h=>trivial
  case step =>
   intro i o ho b w' hw hd ab hsz
   match i,ho,hd with
   |0,rfl,_ =>exact⟨rfl,q8o _ _ rfl _ (zr qu ab 2) _ (q10 (J hw b2)) ⟨_,rfl,rfl,q9⟩⟩
   |1,rfl,hd =>
    have g17:b 17 V=I #[O a an ac]:=(zf hd 0)
    exact⟨rfl,qdj _ _ _ rfl (fun _ _=>rfl) #[I #[O a an ac]] (by rw[<-g17];simp[Act.eval]) ((qng (HW.a1.keep hw)).mono fun e w2 ⟨T,h1,h2,_,h3⟩=>⟨_,h1,_,rfl,⟨T,rfl,h2⟩,h3⟩)⟩
   |2,rfl,_ =>exact⟨rfl,q8o _ _ rfl _ (zr qu ab 3) _ (q10 (J hw b3)) ⟨_,rfl,rfl,q9⟩⟩
   |3,rfl,hd =>
    have g19:b 19 V=I #[O c cn cc]:=(zf hd 2)
    exact⟨rfl,qdj _ _ _ rfl (fun _ _=>rfl) #[I #[O c cn cc]] (by rw[<-g19];simp[Act.eval]) ((qng (HW.a2.keep hw)).mono fun e w2 ⟨T,h1,h2,_,h3⟩=>⟨_,h1,_,rfl,⟨T,rfl,h2⟩,h3⟩)⟩
   |4,rfl,hd =>exact⟨rfl,q1b _ (.inr rfl) ⟨_,rfl,hd 1 _ _ rfl rfl (by kernel_rfl),q9⟩⟩
   |5,rfl,hd =>exact⟨rfl,q1b _ (.inr rfl) ⟨_,rfl,hd 3 _ _ rfl rfl (by kernel_rfl),q9⟩⟩
   |i+6,ho,hd =>have:i+6<6:=(gh.1 ho).1;omega
  case done =>intro b w2 hsz aO hf ab hw;obtain⟨S,q6,hS⟩:∃T,b 6 V=σ (Y ⟨T,0,Z⟩)/\q5e w2 T A:=hf 4 _ _ rfl rfl;obtain⟨T,q7,hT⟩:∃T,b 7 V=σ (Y ⟨T,0,Z⟩)/\q5e w2 T B:=hf 5 _ _ rfl rfl;refine aQ _ _ (Met.intro (hJ _ _ ⟨b 6 V,b 7 V,b 17 V,b 18 V,b 19 V,b 20 V,⟨S,T,q6,q7,(lhd ⟨hS,hT,hw⟩)⟩,(q8z hsz aO ab).trans ?_⟩));kernel_rfl
 case rest =>
  obtain⟨S,T,rfl,rfl,H1⟩:=hcut;refine cD _ _ ?_;obtain⟨BA,nA,vA,mA,a1,a2,a3,a4,a5,a6,a7⟩:=H1.out.1;obtain⟨BB,nB,vB,mB,e1,e2,e3,e4,e5,e6,e7⟩:=H1.a1;obtain⟨ia,n,ic,rfl⟩:=qg a4;obtain⟨ja,m,jc,rfl⟩:=qg e4;have hn:n=mA.length:=by have:=a4.open.2.2.1;rw[xl,gp]at this;omega
  have hm:m=mB.length:=by have:=e4.open.2.2.1;rw[xl,gp]at this;omega
  have E7:=(q4v.1 HH.out.1.chk).1;have GD:=(q4v.1 HH.a1.chk).1;have Uw:n<=8:=by rw[hn,<-gp (f:=Ce.cl),a5];exact E7
  have XB:m<=8:=by rw[hm,<-gp (f:=Ce.cl),e5];exact GD
  have HA:=kp a3 a4 a5 a6 a7 hn;have HB:=kp e3 e4 e5 e6 e7 hm;have EH:∀x∈mA,∀y∈mB,x.id=y.id->clB x.cl y.cl=true:=by
   have hU:=HH.a2;unfold qcs at hU;split at hU
   ·cases hU
   ·rename_i hn;intro x hx y hy e;refine gN fun hc=>hn ?_
    rw[HH.out.1.q1v.cells.2,HH.a1.q1v.cells.2];refine List.any_eq_true.2 ⟨x.cl,by rw[<-a5];exact gj.2 ⟨x,hx,rfl⟩,List.any_eq_true.2 ⟨y.cl,by rw[<-e5];exact gj.2 ⟨y,hy,rfl⟩,?_⟩⟩;have hb:clB x.cl y.cl=false:=by simpa using hc
    rw[hb];simpa using (show x.cl.id=y.cl.id from e)
  have Ux:=lhd EH;clear a3 a4 a5 a6 a7 hn e3 e4 e5 e6 e7 hm E7 GD EH;have Ch:=fun o=>qk a1 o
  have Ci:=fun o=>qk a2 o
  have Uy:=fun o=>qk e2 o
  go_wp2_with fail;obtain⟨w4,oA⟩:=x4 (wc.alloc (.cells #[O Z 0 0] 36));obtain⟨q,hq⟩:=x4 wc.heap.size;have nZ:Below wc wc w4:=by rw[oA];exact(q9).alloc (nlr _) _
  have lp:w4=q+1:=by rw[oA,hq];simp
  have P8:CG w4 q w4 (O Z 0 0) []:=by have h0:=heap_alloc_new wc (.cells #[O Z 0 0] 36);rw[<-oA,<-hq]at h0;exact⟨by simp[World.cell?,h0],jz h0 0,World.ownsRow_nil _ _ _ _,by omega,nlr _⟩
  have uC:∀wr,Qk q w4 w4 wr->Below wc wc wr:=fun wr hk=>hk.lower nZ (by rw[hq];exact nlr _) (by omega)
  rw[<-oA,<-hq];have H4:=yh P8 uC lp;clear P8 uC lp nZ oA Ch Ci Uy hq;go_loopw [10,11,12,26] (fun _ _ _ y wr=>∃(k:Nat) (o:ε),y=k/\k<=n/\Hid (CG wr q w4 o (mA.take k))/\Hid (Qk q w4 w4 wr)) (fun _ _ _ y _=>n-(vI y).toNat)
  case atStart=>exact⟨0,_,rfl,gm _,(lhd H4.out.1),(lhd (Qk.refl _ _ _))⟩
  case round =>
   obtain⟨k,o,rfl,hk,HC,HK⟩:=hrel;have fV:=H4.a1 wr HK.out;by_cases dy:k<n
   ·have cV:(k:Int)<n:=by omega
    obtain⟨x,hx⟩:∃x,mA[k]? =Y x:=⟨_,gg (by rw[<-HA.b5];exact dy)⟩
    obtain⟨ad,c',iH,hc',d0⟩:=q00 (HA.a1.keep fV) dy;subst iH;have uf:c'=x.id:=by rw[List.getElem?_map,hx]at hc';exact(osi hc').symm
    subst uf;have ee:=gi hx;have kE:I64 x.id:=(HA.a4 x ee).1.1;have kG:Asc (mA.map Ce.cl):=by rw[HA.a2];exact HH.out.1.q1v.asc
    have c1:=J fV a1;have s1:=J fV e1;have qO:∀w',Below wr wr w'->(Instr.lookup 88 (.map (Y BA)) x.id false).run Tryz.prog w'=.ok (I #[x.id,x.dim,O x.a x.n x.c]) w':=fun w' hb=>by have:=((HA.out.1.keep fV).keep hb).look (e:=52) Tryz.underlying3 Tryz.underlying88 (zeroCell w') (yx kE);rw[this,qb1 kG ee];rfl
    have kP:=(HA.a3 x ee).keep fV;have af:=HC.out.own;have kO:(mA.take k).length=k:=by rw[gD];have:=HA.b5;omega
    rw[kO]at af;obtain⟨oa,oc,ho⟩:=qj af;subst ho;have c0:=HC.out.c0;have HX:=q4q hx kP af kO qO ee fV;have lq:=((HB.out.1.keep fV).qgy (e:=52) Tryz.underlying3 Tryz.underlying88 (zeroCell wr) (yx kE))
    clear hx kP af kO qO ee fV hc' kG kE;rcases qlp (m:=mB) x.id with ⟨y,hy,vJ,hg⟩|⟨hg,fk⟩
    ·rw[hg]at lq
     replace lq:(Instr.lookup 88 (.map (Y BB)) x.id true).run Tryz.prog wr=.ok (ψ #[I #[y.id,y.dim,O y.a y.n y.c],τ true]) wr:=lq
     have E9:=(HB.a3 y hy).keep HX.b6;have dF:=Ux.out x HX.a5 y hy vJ.symm;have HY:=jg E9 dF;clear hg hy vJ E9 dF;go_wp2_with fail;obtain⟨wy,pL⟩:=x4 (wr.alloc (.cells #[y.id,y.dim,O y.a y.n y.c] 52));obtain⟨cP,sM⟩:=x4 wr.heap.size;have iO:Below wr wr wy:=by rw[pL];exact(q9).alloc (nlr _) _
     have d0:wy cP=y.id:=by rw[pL,sM];exact xz wr _ _ 0 rfl
     have d1:wy ⟨cP,1,Z⟩=y.dim:=by rw[pL,sM];exact xz wr _ _ 1 rfl
     have d2:wy ⟨cP,2,Z⟩=O y.a y.n y.c:=by rw[pL,sM];exact xz wr _ _ 2 rfl
     rw[<-pL,<-sM];clear pL sM;have qO:=fun w' (hb:Below wy wy w')=>HX.a4 w' ((btr iO hb))
     have Uz:=c1
     replace c1:=J iO c1
     have qP:=lhd iO;clear iO;refine qp4 fun KO cD=>?_
     go_cut [50]from 39 to 49 (fun x wx=>x=τ false/\Hid (Below wy wy wx))
     case first =>
      rename_i At K2 hJ aQ;refine q0m rfl (fun i v w'=>match i with
       |0=>v=τ true
       |1=>v=τ true
       |2=>v=σ S
       |3=>v=σ S
       |4=>v=σ S
       |5=>v=.map (Y BA)
       |6=>v=x.id
       |7=>v=I #[x.id,x.dim,O x.a x.n x.c]
       |8=>v=I #[y.id,y.dim,O y.a y.n y.c]
       |9=>v=τ true
       |10=>v=τ false
       |11=>v=τ false
       |_=>True) 98 rfl (by kernel_rfl) (by kernel_rfl) ?keep ?step ?done
      case keep =>
       intro i v w1 w2 h hb
       match i,h with
       |0,h=>exact h
       |1,h=>exact h
       |2,h=>exact h
       |3,h=>exact h
       |4,h=>exact h
       |5,h=>exact h
       |6,h=>exact h
       |7,h=>exact h
       |8,h=>exact h
       |9,h=>exact h
       |10,h=>exact h
       |11,h=>exact h
       |i+12,h=>trivial
      case step =>
       intro i o ho b w' hw hd ab hsz
       match i,ho,hd with
       |0,rfl,_ =>exact⟨rfl,q1b _ (.inl rfl) ⟨_,rfl,(zr qu ab 12),q9⟩⟩
       |1,rfl,hd =>exact⟨rfl,q1b _ (.inl rfl) ⟨_,rfl,(zf hd 0),q9⟩⟩
       |2,rfl,hd =>exact⟨gwt 1 40 (zf hd 1),q1b _ (.inl rfl) ⟨_,rfl,(zr qu ab 6),q9⟩⟩
       |3,rfl,hd =>exact⟨gwt 1 40 (zf hd 1),q4j _ rfl _ (zf hd 2) ⟨_,rfl,rfl,q9⟩⟩
       |4,rfl,hd =>exact⟨gwt 1 40 (zf hd 1),q8b _ _ _ rfl _ (zf hd 3) _ (qag w' _ 0 (by decide)) ⟨_,rfl,rfl,q9⟩⟩
       |5,rfl,hd =>exact⟨gwt 1 40 (zf hd 1),q8o _ _ rfl _ (zf hd 4) _ (q6z _ _ _ (J hw c1)) ⟨_,rfl,rfl,q9⟩⟩
       |6,rfl,hd =>exact⟨gwt 1 40 (zf hd 1),q1b _ (.inl rfl) ⟨_,rfl,(zr qu ab 10),q9⟩⟩
       |7,rfl,hd =>exact⟨gwt 1 40 (zf hd 1),qiu _ _ _ _ rfl _ _ _ (zf hd 5) (zf hd 6) (qO w' hw) ⟨_,rfl,rfl,q9⟩⟩
       |8,rfl,hd =>exact⟨gwt 1 40 (zf hd 1),q8o _ _ rfl _ (zr qu ab 11) _ (qit (x:=y) (J hw d0) (J hw d1) (J hw d2)) ⟨_,rfl,rfl,q9⟩⟩
       |9,rfl,hd =>
        have EI:b 46 V=I #[x.id,x.dim,O x.a x.n x.c]:=(zf hd 7)
        have Ly:b 47 V=I #[y.id,y.dim,O y.a y.n y.c]:=(zf hd 8)
        exact⟨gwt 1 40 (zf hd 1),qdj _ _ _ rfl (fun _ _=>rfl) #[I #[x.id,x.dim,O x.a x.n x.c],I #[y.id,y.dim,O y.a y.n y.c]] (by rw[<-EI,<-Ly];simp[Act.eval]) ((qpf x y w' ((HX.a1.keep qP.out).keep hw) ((HY.out.1.keep qP.out).keep hw)).mono fun e w2 ⟨h1,h2⟩=>⟨τ true,by rw[h1,HY.out.2],_,rfl,rfl,h2⟩)⟩
       |10,rfl,hd =>exact⟨gwt 1 40 (zf hd 1),q3g _ _ _ rfl _ (zf hd 9) _ rfl ⟨_,rfl,rfl,q9⟩⟩
       |11,rfl,hd =>exact⟨rfl,qka _ _ _ rfl (zf hd 1) ⟨_,rfl,(zf hd 10),q9⟩⟩
       |i+12,ho,hd =>have:i+12<12:=(gh.1 ho).1;omega
      case done =>intro b w2 hsz aO hf ab hw;have U0:b 50 V=τ false:=hf 11 _ _ rfl rfl;refine aQ _ _ (Met.intro (hJ _ _ ⟨b 39 V,b 40 V,b 41 V,b 42 V,b 43 V,b 44 V,b 45 V,b 46 V,b 47 V,b 48 V,b 49 V,b 50 V,⟨U0,(lhd hw)⟩,(q8z hsz aO ab).trans ?_⟩));kernel_rfl
     case rest =>
      obtain⟨rfl,H7⟩:=hcut;refine cD _ _ ?_;obtain⟨wv,vK⟩:=x4 wc;subst vK;have fw:Below wr wr wv:=(btr qP.out H7.out);have EJ:=J fw c0;have EK:=J fw Uz;have mY:=qa HX.a2 fw;have oY:=fun w' (hb:Below wv wv w')=>HX.a4 w' ((btr fw hb))
      have HV:=jg fw (HC.out.keep fw);clear fw;go_wp2_with fail;refine qp4 fun KO cD=>?_
      go_cut []from 52 to 62 (fun wx=>∃(g cap:Nat) (w6 w7:δ),wx=w7.setCell q (O g (k+1) cap)/\Hid (Below wv wv w6/\w6.grownBy w7 (O oa k oc).ownBlock/\w7.ownsRow w4 52 3 (O g (k+1) cap) (k+1) (cat Ce.enc (mA.take k)++x.enc)))
      case first =>
       rename_i At K2 hJ aQ;refine yg (by kernel_rfl) (VF [Y (σ q),Y (O oa k oc),Y (σ S),Y (σ S),Y (σ S),Y (.map (Y BA)),Y x.id,Y (I #[x.id,x.dim,O x.a x.n x.c]),Z,Z,Y (σ q),Z]) [8,9] (cT wv w4 (k) x (O oa k oc) (mA.take k)) 11 20 98 rfl (by kernel_rfl) (by kernel_rfl) (by decide) (by kernel_rfl) (by kernel_rfl) (by kernel_rfl) (by decide) (by decide) (fun a w2=>K2 a w2) ?start ?pure ?eff ?last ?done
       case start=>exact qb (Below.refl _ wv) 1
       case pure =>
        intro i o ho hL hE a w' vs hT ai hd ab hsz
        match i,ho,hL,hE,ai,hd with
        |0,rfl,_,_,_,_ =>exact yb rfl (zr qu ab 8) (q7w _ _) (gone rfl)
        |1,rfl,hL,hE,ai,hd =>have lO:w' q=O oa k oc:=J (q6k hT (by have:=ai 1 9 rfl (by kernel_rfl);omega)) EJ;exact jm rfl (j8 hd 0) (qe1 _ _ _ _ _ (lO)) (gone rfl)
        |2,rfl,_,_,_,_ =>exact jo (.inl rfl) ⟨_,rfl,fun _ h=>(zr qu ab 6).trans (osi h),rfl⟩
        |3,rfl,_,_,_,hd =>exact⟨rfl,gu _,q4j _ rfl _ (j8 hd 2) (gone rfl)⟩
        |4,rfl,_,_,_,hd =>exact yb rfl (j8 hd 3) (qag _ _ 0 (by decide)) (gone rfl)
        |5,rfl,hL,hE,ai,hd =>have dg:w' S=Value.map (Y BA):=J (q6k hT (by have:=ai 1 9 rfl (by kernel_rfl);omega)) EK;exact jm rfl (j8 hd 4) (q6z _ _ _ (dg)) (gone rfl)
        |6,rfl,_,_,_,_ =>exact jo (.inl rfl) ⟨_,rfl,fun _ h=>(zr qu ab 10).trans (osi h),rfl⟩
        |7,rfl,hL,hE,ai,hd =>exact⟨rfl,gu _,qiu _ _ _ _ rfl _ _ _ (j8 hd 5) (j8 hd 6) (oY w' (q6k hT (by have:=ai 1 9 rfl (by kernel_rfl);omega))) (gone rfl)⟩
        |8,ho,hL,hE,ai,hd =>exact absurd (by decide) hE
        |9,ho,hL,hE,ai,hd =>exact absurd (by decide) hE
        |10,rfl,_,_,_,_ =>exact yb rfl (zr qu ab 8) (q7w _ _) (gone rfl)
        |11,ho,hL,hE,ai,hd =>exact absurd rfl hL
        |i+12,ho,hL,hE,ai,hd =>have:i+12<12:=(gh.1 ho).1;omega
       case eff =>
        intro s i o hs ho a w' vs hl hT hd hr ab hsz
        match s,hs,hr,hl with
        |0,hs,hr,hl =>obtain rfl:=osi hs;obtain rfl:=osi ho;obtain rfl:=gl hl;have f7:a 59 V=I #[x.id,x.dim,O x.a x.n x.c]:=j8 hd 7;exact⟨rfl,q5z 34 1 _ rfl #[(0,I #[x.id,x.dim,O x.a x.n x.c])] (by rw[<-f7];simp[Act.eval]) _ _ (qtv w' _ _ _ _ _) ⟨_,rfl,(show Below wv wv _/\_ from⟨Below.alloc hT (Below.size hT) _,w',rfl,q7l w' 52 [x.id,x.dim,O x.a x.n x.c]⟩)⟩⟩
        |1,hs,hr,hl =>
         obtain rfl:=osi hs;obtain rfl:=osi ho;obtain⟨v1,rfl⟩:=List.length_eq_one_iff.1 hl;have f8:a 60 V=v1:=hr 0 8 _ _ rfl rfl rfl (by decide);have f1:a 53 V=O oa k oc:=j8 hd 1;obtain⟨hb,gs,rfl,hn⟩:=(show Below wv wv w'/\∃gs,v1=O (Y ⟨gs,0,Z⟩) 1 1/\∀j u,(x.enc:List ε)[j]? =Y u->w' (Addr.add ⟨gs,0,Z⟩ j)=Y u from hT)
         exact⟨rfl,qae _ _ 34 rfl w4 52 qhc Tryz.underlying34 rfl (by decide) _ (k) (cat Ce.enc (mA.take k)) f1 (qa mY hb) ⟨gs,0,Z⟩ 1 1 x.enc f8 rfl hn (Ce.xu x) (by decide) (by unfold maxLen;omega) (by omega) (gd HV.out.2.le hb.size) fun g2 cap w7 r1 r2 r3 r4=>⟨_,rfl,(show cT wv w4 (k) x (O oa k oc) (mA.take k) [_,_] w7 from⟨g2,cap,w',rfl,hb,r2,r1⟩)⟩⟩
        |s+2,hs,hr,hl=>cases hs
       case last =>
        intro o ho a w' vs hsz aO hl hT hf hr ab;obtain rfl:=osi ho;obtain⟨v1,v2,rfl⟩:=q51 hl;obtain⟨g2,cap,w6,rfl,h1,h4,h5⟩:=(show ∃g cap w6,v2=O (Y ⟨g,0,Z⟩) (k+1) cap/\Below wv wv w6/\w6.grownBy w' (O oa (k) oc).ownBlock/\w'.ownsRow w4 52 3 (O (Y ⟨g,0,Z⟩) (k+1) cap) (k+1) (cat Ce.enc (mA.take k)++x.enc)from hT)
        have g0:a 62 V=σ q:=hf 10 _ _ rfl rfl (by kernel_rfl) (by decide) _ rfl;have g1:a 61 V=O g2 (k+1) cap:=hr 1 9 _ _ rfl rfl rfl;obtain⟨c9,z9⟩:=HV.out.2.box h1 h4;refine⟨rfl,ju _ _ _ rfl _ _ g0 g1 (qdz _ _ _ _ _ _ c9 z9) ?_⟩;refine aQ _ _ (Met.intro (hJ _ _ ⟨a 52 V,a 53 V,a 54 V,a 55 V,a 56 V,a 57 V,a 58 V,a 59 V,a 60 V,a 61 V,a 62 V,⟨g2,cap,w6,w',rfl,(lhd ⟨h1,h4,h5⟩)⟩,(q8z hsz aO ab).trans ?_⟩));kernel_rfl
       case done=>exact fun _ _ h=>h
      case rest =>
       obtain⟨g,cap,w6,w7,rfl,H5⟩:=hcut;refine cD _ _ ?_;have ag:=HV.out.2.step (x:=x) (g:=g) (cap:=cap) H5.out.1 (by rw[HX.a3]at *;exact H5.a1) (by rw[HX.a3];exact H5.b2);rw[HX.a3]at ag;obtain⟨wz,mQ⟩:=x4 (w7.setCell q (O g (k+1) cap));have mF:Qk q w4 w4 wz:=by rw[mQ];exact((HK.out.below (HV.out.1.mono HC.out.le)).below ag.2).set _ _
       rw[<-mQ]at ag ⊢;have HZ:=jg ag.1 mF;clear ag mF mQ;go_wp2;go_roundw
       case measure=>simp[vI];omega
       case rel=>exact⟨k+1,_,qh (by omega),by omega,(lhd (by rw[gC,HX.out.1];exact HZ.out.1)),(lhd HZ.out.2)⟩
    ·rw[hg]at lq
     replace lq:(Instr.lookup 88 (.map (Y BB)) x.id true).run Tryz.prog wr=.ok (ψ #[I #[H φ 0,H φ 0,O Z 0 0],τ false]) wr:=lq
     clear hg fk;go_wp2_with fail
     go_quiet (fail)
     obtain⟨wv,vK⟩:=x4 ((wr.alloc (.cells #[H φ 0,H φ 0,O Z 0 0] 52)).drewN nq);have fw:Below wr wr wv:=by rw[vK];exact qb ((q9).alloc (nlr _) _) nq
     rw[<-vK];clear vK;have EJ:=J fw c0;have EK:=J fw c1;have mY:=qa HX.a2 fw;have oY:=fun w' (hb:Below wv wv w')=>HX.a4 w' ((btr fw hb))
     have HV:=jg fw (HC.out.keep fw);clear fw;go_wp2_with fail;refine qp4 fun KO cD=>?_
     go_cut []from 52 to 62 (fun wx=>∃(g cap:Nat) (w6 w7:δ),wx=w7.setCell q (O g (k+1) cap)/\Hid (Below wv wv w6/\w6.grownBy w7 (O oa k oc).ownBlock/\w7.ownsRow w4 52 3 (O g (k+1) cap) (k+1) (cat Ce.enc (mA.take k)++x.enc)))
     case first =>
      rename_i At K2 hJ aQ;refine yg (by kernel_rfl) (VF [Y (σ q),Y (O oa k oc),Y (σ S),Y (σ S),Y (σ S),Y (.map (Y BA)),Y x.id,Y (I #[x.id,x.dim,O x.a x.n x.c]),Z,Z,Y (σ q),Z]) [8,9] (cT wv w4 (k) x (O oa k oc) (mA.take k)) 11 20 98 rfl (by kernel_rfl) (by kernel_rfl) (by decide) (by kernel_rfl) (by kernel_rfl) (by kernel_rfl) (by decide) (by decide) (fun a w2=>K2 a w2) ?start ?pure ?eff ?last ?done
      case start=>exact qb (Below.refl _ wv) 1
      case pure =>
       intro i o ho hL hE a w' vs hT ai hd ab hsz
       match i,ho,hL,hE,ai,hd with
       |0,rfl,_,_,_,_ =>exact yb rfl (zr qu ab 8) (q7w _ _) (gone rfl)
       |1,rfl,hL,hE,ai,hd =>have lO:w' q=O oa k oc:=J (q6k hT (by have:=ai 1 9 rfl (by kernel_rfl);omega)) EJ;exact jm rfl (j8 hd 0) (qe1 _ _ _ _ _ (lO)) (gone rfl)
       |2,rfl,_,_,_,_ =>exact jo (.inl rfl) ⟨_,rfl,fun _ h=>(zr qu ab 6).trans (osi h),rfl⟩
       |3,rfl,_,_,_,hd =>exact⟨rfl,gu _,q4j _ rfl _ (j8 hd 2) (gone rfl)⟩
       |4,rfl,_,_,_,hd =>exact yb rfl (j8 hd 3) (qag _ _ 0 (by decide)) (gone rfl)
       |5,rfl,hL,hE,ai,hd =>have dg:w' S=Value.map (Y BA):=J (q6k hT (by have:=ai 1 9 rfl (by kernel_rfl);omega)) EK;exact jm rfl (j8 hd 4) (q6z _ _ _ (dg)) (gone rfl)
       |6,rfl,_,_,_,_ =>exact jo (.inl rfl) ⟨_,rfl,fun _ h=>(zr qu ab 10).trans (osi h),rfl⟩
       |7,rfl,hL,hE,ai,hd =>exact⟨rfl,gu _,qiu _ _ _ _ rfl _ _ _ (j8 hd 5) (j8 hd 6) (oY w' (q6k hT (by have:=ai 1 9 rfl (by kernel_rfl);omega))) (gone rfl)⟩
       |8,ho,hL,hE,ai,hd =>exact absurd (by decide) hE
       |9,ho,hL,hE,ai,hd =>exact absurd (by decide) hE
       |10,rfl,_,_,_,_ =>exact yb rfl (zr qu ab 8) (q7w _ _) (gone rfl)
       |11,ho,hL,hE,ai,hd =>exact absurd rfl hL
       |i+12,ho,hL,hE,ai,hd =>have:i+12<12:=(gh.1 ho).1;omega
      case eff =>
       intro s i o hs ho a w' vs hl hT hd hr ab hsz
       match s,hs,hr,hl with
       |0,hs,hr,hl =>obtain rfl:=osi hs;obtain rfl:=osi ho;obtain rfl:=gl hl;have f7:a 59 V=I #[x.id,x.dim,O x.a x.n x.c]:=j8 hd 7;exact⟨rfl,q5z 34 1 _ rfl #[(0,I #[x.id,x.dim,O x.a x.n x.c])] (by rw[<-f7];simp[Act.eval]) _ _ (qtv w' _ _ _ _ _) ⟨_,rfl,(show Below wv wv _/\_ from⟨Below.alloc hT (Below.size hT) _,w',rfl,q7l w' 52 [x.id,x.dim,O x.a x.n x.c]⟩)⟩⟩
       |1,hs,hr,hl =>
        obtain rfl:=osi hs;obtain rfl:=osi ho;obtain⟨v1,rfl⟩:=List.length_eq_one_iff.1 hl;have f8:a 60 V=v1:=hr 0 8 _ _ rfl rfl rfl (by decide);have f1:a 53 V=O oa k oc:=j8 hd 1;obtain⟨hb,gs,rfl,hn⟩:=(show Below wv wv w'/\∃gs,v1=O (Y ⟨gs,0,Z⟩) 1 1/\∀j u,(x.enc:List ε)[j]? =Y u->w' (Addr.add ⟨gs,0,Z⟩ j)=Y u from hT)
        exact⟨rfl,qae _ _ 34 rfl w4 52 qhc Tryz.underlying34 rfl (by decide) _ (k) (cat Ce.enc (mA.take k)) f1 (qa mY hb) ⟨gs,0,Z⟩ 1 1 x.enc f8 rfl hn (Ce.xu x) (by decide) (by unfold maxLen;omega) (by omega) (gd HV.out.2.le hb.size) fun g2 cap w7 r1 r2 r3 r4=>⟨_,rfl,(show cT wv w4 (k) x (O oa k oc) (mA.take k) [_,_] w7 from⟨g2,cap,w',rfl,hb,r2,r1⟩)⟩⟩
       |s+2,hs,hr,hl=>cases hs
      case last =>
       intro o ho a w' vs hsz aO hl hT hf hr ab;obtain rfl:=osi ho;obtain⟨v1,v2,rfl⟩:=q51 hl;obtain⟨g2,cap,w6,rfl,h1,h4,h5⟩:=(show ∃g cap w6,v2=O (Y ⟨g,0,Z⟩) (k+1) cap/\Below wv wv w6/\w6.grownBy w' (O oa (k) oc).ownBlock/\w'.ownsRow w4 52 3 (O (Y ⟨g,0,Z⟩) (k+1) cap) (k+1) (cat Ce.enc (mA.take k)++x.enc)from hT)
       have g0:a 62 V=σ q:=hf 10 _ _ rfl rfl (by kernel_rfl) (by decide) _ rfl;have g1:a 61 V=O g2 (k+1) cap:=hr 1 9 _ _ rfl rfl rfl;obtain⟨c9,z9⟩:=HV.out.2.box h1 h4;refine⟨rfl,ju _ _ _ rfl _ _ g0 g1 (qdz _ _ _ _ _ _ c9 z9) ?_⟩;refine aQ _ _ (Met.intro (hJ _ _ ⟨a 52 V,a 53 V,a 54 V,a 55 V,a 56 V,a 57 V,a 58 V,a 59 V,a 60 V,a 61 V,a 62 V,⟨g2,cap,w6,w',rfl,(lhd ⟨h1,h4,h5⟩)⟩,(q8z hsz aO ab).trans ?_⟩));kernel_rfl
      case done=>exact fun _ _ h=>h
     case rest =>
      obtain⟨g,cap,w6,w7,rfl,H5⟩:=hcut;refine cD _ _ ?_;have ag:=HV.out.2.step (x:=x) (g:=g) (cap:=cap) H5.out.1 (by rw[HX.a3]at *;exact H5.a1) (by rw[HX.a3];exact H5.b2);rw[HX.a3]at ag;obtain⟨wz,mQ⟩:=x4 (w7.setCell q (O g (k+1) cap));have mF:Qk q w4 w4 wz:=by rw[mQ];exact((HK.out.below (HV.out.1.mono HC.out.le)).below ag.2).set _ _
      rw[<-mQ]at ag ⊢;have HZ:=jg ag.1 mF;clear ag mF mQ;go_wp2;go_roundw
      case measure=>simp[vI];omega
      case rel=>exact⟨k+1,_,qh (by omega),by omega,(lhd (by rw[gC,HX.out.1];exact HZ.out.1)),(lhd HZ.out.2)⟩
   ·have aM:n=k:=by omega
    subst aM;have cV:¬(n:Int)<n:=by omega
    obtain⟨w8,fJ⟩:=x4 wr;subst fJ;have s1:=J fV e1;have s2:=J fV e2;have dH:mA.take n=mA:=gr (by rw[<-HA.b5];exact nlr _);have P9:Hid (CG w8 q w4 o (mA++k9 mA (mB.take 0))):=lhd (by have:=HC.out;rw[dH]at this;simpa [k9]using this)
    have PA:=HK;clear HC HK dH fV;go_wp2_with fail;go_loopw [14,15,16,69] (fun _ _ _ y wr=>∃(k:Nat) (o:ε),y=k/\k<=m/\Hid (CG wr q w4 o (mA++k9 mA (mB.take k)))/\Hid (Qk q w4 w4 wr)) (fun _ _ _ y _=>m-(vI y).toNat)
    case atStart=>exact⟨0,_,rfl,gm _,P9,PA⟩
    case round =>
     clear P9 PA s1 s2;obtain⟨k,o,rfl,hk,HC,HK⟩:=hrel;have fV:=H4.a1 wr HK.out;by_cases dy:k<m
     ·have cV:(k:Int)<m:=by omega
      obtain⟨x,hx⟩:∃x,mB[k]? =Y x:=⟨_,gg (by rw[<-HB.b5];exact dy)⟩
      obtain⟨ad,c',iH,hc',d0⟩:=q00 (HB.a1.keep fV) dy;subst iH;have uf:c'=x.id:=by rw[List.getElem?_map,hx]at hc';exact(osi hc').symm
      subst uf;have ee:=gi hx;have kE:I64 x.id:=(HB.a4 x ee).1.1;have kG:Asc (mB.map Ce.cl):=by rw[HB.a2];exact HH.a1.q1v.asc
      have c1:=J fV a1;have s1:=J fV e1;have qO:∀w',Below wr wr w'->(Instr.lookup 88 (.map (Y BB)) x.id false).run Tryz.prog w'=.ok (I #[x.id,x.dim,O x.a x.n x.c]) w':=fun w' hb=>by have:=((HB.out.1.keep fV).keep hb).look (e:=52) Tryz.underlying3 Tryz.underlying88 (zeroCell w') (yx kE);rw[this,qb1 kG ee];rfl
      have af:=HC.out.own;obtain⟨kk,ox⟩:=x4 ((mA++k9 mA (mB.take k)).length);rw[<-ox]at af;obtain⟨oa,oc,ho⟩:=qj af;subst ho;have rY:kk<=8000:=by have h1:(k9 mA (mB.take k)).length<=(mB.take k).length:=gY _ _;have h2:=HA.b5;rw[gw]at ox;rw[gD]at h1;omega
      have c0:=HC.out.c0;have HX:=q4q hx trivial af ox.symm qO ee fV;have lq:=((HA.out.1.keep fV).qgy (e:=52) Tryz.underlying3 Tryz.underlying88 (zeroCell wr) (yx kE))
      clear hx af ox qO ee fV hc' kG kE;rcases qlp (m:=mA) x.id with ⟨y,hy,vJ,hg⟩|⟨hg,fk⟩
      ·rw[hg]at lq
       replace lq:(Instr.lookup 88 (.map (Y BA)) x.id true).run Tryz.prog wr=.ok (ψ #[I #[y.id,y.dim,O y.a y.n y.c],τ true]) wr:=lq
       have iF:k9 mA (mB.take (k+1))=k9 mA (mB.take k):=by rw[gC,HX.out.1];unfold k9;rw[gZ];have:(mA.any fun z=>z.id == x.id)=true:=List.any_eq_true.2 ⟨y,hy,by simpa using vJ⟩;simp[this]
       have HF:=lhd iF;have fw:Below wr wr (wr.alloc (.cells #[y.id,y.dim,O y.a y.n y.c] 52)):=(q9).alloc (nlr _) _;have HN:=jg (HC.out.keep fw) (HK.out.below (fw.mono HC.out.le));clear hg hy vJ iF fw;go_wp2_with fail;go_roundw
       case measure=>simp[vI];omega
       case rel=>exact⟨k+1,_,qh (by omega),by omega,(lhd (by rw[HF.out];exact HN.out.1)),(lhd HN.out.2)⟩
      ·rw[hg]at lq
       replace lq:(Instr.lookup 88 (.map (Y BA)) x.id true).run Tryz.prog wr=.ok (ψ #[I #[H φ 0,H φ 0,O Z 0 0],τ false]) wr:=lq
       have iF:mA++k9 mA (mB.take (k+1))=(mA++k9 mA (mB.take k))++[x]:=by
        rw[gC,HX.out.1,bj];unfold k9;rw[gZ];have:(mA.any fun z=>z.id == x.id)=false:=by rw[List.any_eq_false];intro z hz;simpa using fk z hz
        simp[this]
       have HF:=lhd iF;obtain⟨wv,vK⟩:=x4 (wr.alloc (.cells #[H φ 0,H φ 0,O Z 0 0] 52));have fw:Below wr wr wv:=by rw[vK];exact(q9).alloc (nlr _) _
       have hz:=vK;have U1:=lhd hz;clear hg fk iF hz vK;go_wp2_with fail;rw[<-U1.out];have EJ:=J fw c0;have EK:=J fw s1;have mY:=qa HX.a2 fw;have oY:=fun w' (hb:Below wv wv w')=>HX.a4 w' ((btr fw hb))
       have HV:=jg fw (HC.out.keep fw);clear fw;go_wp2_with fail;refine qp4 fun KO cD=>?_
       go_cut []from 84 to 94 (fun wx=>∃(g cap:Nat) (w6 w7:δ),wx=w7.setCell q (O g (kk+1) cap)/\Hid (Below wv wv w6/\w6.grownBy w7 (O oa kk oc).ownBlock/\w7.ownsRow w4 52 3 (O g (kk+1) cap) (kk+1) (cat Ce.enc (mA++k9 mA (mB.take k))++x.enc)))
       case first =>
        rename_i At K2 hJ aQ;refine yg (by kernel_rfl) (VF [Y (σ q),Y (O oa kk oc),Y (σ T),Y (σ T),Y (σ T),Y (.map (Y BB)),Y x.id,Y (I #[x.id,x.dim,O x.a x.n x.c]),Z,Z,Y (σ q),Z]) [8,9] (cT wv w4 (kk) x (O oa kk oc) (mA++k9 mA (mB.take k))) 11 20 98 rfl (by kernel_rfl) (by kernel_rfl) (by decide) (by kernel_rfl) (by kernel_rfl) (by kernel_rfl) (by decide) (by decide) (fun a w2=>K2 a w2) ?start ?pure ?eff ?last ?done
        case start=>exact qb (Below.refl _ wv) 1
        case pure =>
         intro i o ho hL hE a w' vs hT ai hd ab hsz
         match i,ho,hL,hE,ai,hd with
         |0,rfl,_,_,_,_ =>exact yb rfl (zr qu ab 8) (q7w _ _) (gone rfl)
         |1,rfl,hL,hE,ai,hd =>have lO:w' q=O oa kk oc:=J (q6k hT (by have:=ai 1 9 rfl (by kernel_rfl);omega)) EJ;exact jm rfl (j8 hd 0) (qe1 _ _ _ _ _ (lO)) (gone rfl)
         |2,rfl,_,_,_,_ =>exact jo (.inl rfl) ⟨_,rfl,fun _ h=>(zr qu ab 7).trans (osi h),rfl⟩
         |3,rfl,_,_,_,hd =>exact⟨rfl,gu _,q4j _ rfl _ (j8 hd 2) (gone rfl)⟩
         |4,rfl,_,_,_,hd =>exact yb rfl (j8 hd 3) (qag _ _ 0 (by decide)) (gone rfl)
         |5,rfl,hL,hE,ai,hd =>have dg:w' T=Value.map (Y BB):=J (q6k hT (by have:=ai 1 9 rfl (by kernel_rfl);omega)) EK;exact jm rfl (j8 hd 4) (q6z _ _ _ (dg)) (gone rfl)
         |6,rfl,_,_,_,_ =>exact jo (.inl rfl) ⟨_,rfl,fun _ h=>(zr qu ab 14).trans (osi h),rfl⟩
         |7,rfl,hL,hE,ai,hd =>exact⟨rfl,gu _,qiu _ _ _ _ rfl _ _ _ (j8 hd 5) (j8 hd 6) (oY w' (q6k hT (by have:=ai 1 9 rfl (by kernel_rfl);omega))) (gone rfl)⟩
         |8,ho,hL,hE,ai,hd =>exact absurd (by decide) hE
         |9,ho,hL,hE,ai,hd =>exact absurd (by decide) hE
         |10,rfl,_,_,_,_ =>exact yb rfl (zr qu ab 8) (q7w _ _) (gone rfl)
         |11,ho,hL,hE,ai,hd =>exact absurd rfl hL
         |i+12,ho,hL,hE,ai,hd =>have:i+12<12:=(gh.1 ho).1;omega
        case eff =>
         intro s i o hs ho a w' vs hl hT hd hr ab hsz
         match s,hs,hr,hl with
         |0,hs,hr,hl =>obtain rfl:=osi hs;obtain rfl:=osi ho;obtain rfl:=gl hl;have f7:a 91 V=I #[x.id,x.dim,O x.a x.n x.c]:=j8 hd 7;exact⟨rfl,q5z 34 1 _ rfl #[(0,I #[x.id,x.dim,O x.a x.n x.c])] (by rw[<-f7];simp[Act.eval]) _ _ (qtv w' _ _ _ _ _) ⟨_,rfl,(show Below wv wv _/\_ from⟨Below.alloc hT (Below.size hT) _,w',rfl,q7l w' 52 [x.id,x.dim,O x.a x.n x.c]⟩)⟩⟩
         |1,hs,hr,hl =>
          obtain rfl:=osi hs;obtain rfl:=osi ho;obtain⟨v1,rfl⟩:=List.length_eq_one_iff.1 hl;have f8:a 92 V=v1:=hr 0 8 _ _ rfl rfl rfl (by decide);have f1:a 85 V=O oa kk oc:=j8 hd 1;obtain⟨hb,gs,rfl,hn⟩:=(show Below wv wv w'/\∃gs,v1=O (Y ⟨gs,0,Z⟩) 1 1/\∀j u,(x.enc:List ε)[j]? =Y u->w' (Addr.add ⟨gs,0,Z⟩ j)=Y u from hT)
          exact⟨rfl,qae _ _ 34 rfl w4 52 qhc Tryz.underlying34 rfl (by decide) _ (kk) (cat Ce.enc (mA++k9 mA (mB.take k))) f1 (qa mY hb) ⟨gs,0,Z⟩ 1 1 x.enc f8 rfl hn (Ce.xu x) (by decide) (by unfold maxLen;omega) (by omega) (gd HV.out.2.le hb.size) fun g2 cap w7 r1 r2 r3 r4=>⟨_,rfl,(show cT wv w4 (kk) x (O oa kk oc) (mA++k9 mA (mB.take k)) [_,_] w7 from⟨g2,cap,w',rfl,hb,r2,r1⟩)⟩⟩
         |s+2,hs,hr,hl=>cases hs
        case last =>
         intro o ho a w' vs hsz aO hl hT hf hr ab;obtain rfl:=osi ho;obtain⟨v1,v2,rfl⟩:=q51 hl;obtain⟨g2,cap,w6,rfl,h1,h4,h5⟩:=(show ∃g cap w6,v2=O (Y ⟨g,0,Z⟩) (kk+1) cap/\Below wv wv w6/\w6.grownBy w' (O oa (kk) oc).ownBlock/\w'.ownsRow w4 52 3 (O (Y ⟨g,0,Z⟩) (kk+1) cap) (kk+1) (cat Ce.enc (mA++k9 mA (mB.take k))++x.enc)from hT)
         have g0:a 94 V=σ q:=hf 10 _ _ rfl rfl (by kernel_rfl) (by decide) _ rfl;have g1:a 93 V=O g2 (kk+1) cap:=hr 1 9 _ _ rfl rfl rfl;obtain⟨c9,z9⟩:=HV.out.2.box h1 h4;refine⟨rfl,ju _ _ _ rfl _ _ g0 g1 (qdz _ _ _ _ _ _ c9 z9) ?_⟩;refine aQ _ _ (Met.intro (hJ _ _ ⟨a 84 V,a 85 V,a 86 V,a 87 V,a 88 V,a 89 V,a 90 V,a 91 V,a 92 V,a 93 V,a 94 V,⟨g2,cap,w6,w',rfl,(lhd ⟨h1,h4,h5⟩)⟩,(q8z hsz aO ab).trans ?_⟩));kernel_rfl
        case done=>exact fun _ _ h=>h
       case rest =>
        obtain⟨g,cap,w6,w7,rfl,H5⟩:=hcut;refine cD _ _ ?_;have ag:=HV.out.2.step (x:=x) (g:=g) (cap:=cap) H5.out.1 (by rw[HX.a3]at *;exact H5.a1) (by rw[HX.a3];exact H5.b2);rw[HX.a3,<-HF.out]at ag;obtain⟨wz,mQ⟩:=x4 (w7.setCell q (O g (kk+1) cap));have mF:Qk q w4 w4 wz:=by rw[mQ];exact((HK.out.below (HV.out.1.mono HC.out.le)).below ag.2).set _ _
        rw[<-mQ]at ag ⊢;have HZ:=jg ag.1 mF;clear ag mF mQ;go_wp2;go_roundw
        case measure=>simp[vI];omega
        case rel=>exact⟨k+1,_,qh (by omega),by omega,(lhd HZ.out.1),(lhd HZ.out.2)⟩
     ·have aM:m=k:=by omega
      subst aM;have cV:¬(m:Int)<m:=by omega
      have dH:mB.take m=mB:=gr (by rw[<-HB.b5];exact nlr _);have af:=HC.out.own;rw[dH]at af;have c0:=HC.out.c0;obtain⟨oa,oc,ho⟩:=qj af;subst ho;have fH:(mA++k9 mA mB).map Ce.cl=A++B.filter fun y=>!(A.any fun x=>x.id == y.id):=by
       rw[gW,HA.a2,<-HB.a2,<-HA.a2];unfold k9;rw[List.filter_map]
       congr 2
       refine List.filter_congr fun y _=>?_
       simp only [Function.comp,List.any_map];rfl
      have PB:canon ((mA++k9 mA mB).map Ce.cl)=U:=by
       have hU:=HH.a2;unfold qcs at hU;split at hU
       ·cases hU
       ·rw[HH.out.1.q1v.cells.2,HH.a1.q1v.cells.2]at hU;rw[fH];exact osi hU
      have fj:COk (mA++k9 mA mB):=fun x hx=>by
       rcases gO.1 hx with hx|hx
       ·exact HA.a4 x hx
       ·exact HB.a4 x (gS.1 hx).1
      have aV:SlC wr (O oa (mA++k9 mA mB).length oc) (mA++k9 mA mB):=by
       refine⟨Sl.qc af,fun x hx=>?_⟩;rcases gO.1 hx with hx|hx
       ·exact(HA.a3 x hx).keep fV
       ·exact(HB.a3 x (gS.1 hx).1).keep fV
      have aW:(mA++k9 mA mB).length<=16:=by have h1:(k9 mA mB).length<=mB.length:=gY _ _;have h2:=HA.b5;have h3:=HB.b5;rw[gw];omega
      obtain⟨kk,ox⟩:=x4 ((mA++k9 mA mB).length);rw[<-ox]at aV aW;rw[<-ox]at c0;have HL:=kg PB fj aV fV ox;clear fH PB fj aV af dH ox fV;go_wp2_with fail;refine(q8l _ _ _ HL.a2 (by rw[<-HL.b4];omega) fun x hx=>(HL.a1 x hx).2.1).mono ?_;rintro e wf ⟨r,mr,rfl,ir,cE,qV,hbf⟩;obtain⟨ra,rc,rfl⟩:=qj cE;have vL:Below W W wf:=((btr H1.b2 HL.a3)).trans (hbf.mono (by have:=H1.b2.size;have:=HL.a3.size;omega));have lp:w.heap.size+1+1<W:=by have:=HW.b5;omega
      have g4:=J vL HW.a3;have z4:=xf vL lp HW.a4;obtain⟨rn,mU⟩:=x4 mr.length;rw[<-mU];have HR:=q4q ir cE qV vL lp mU hbf;clear ir cE qV vL lp mU hbf;go_wp2_with fail;have e4:(wf.setCell (w+1+1:Nat) (O ra rn rc)) (w+1+1:Nat)=O ra rn rc:=World.cell?_setCell_same' _ _ _ (by rw[g4];rfl);refine bodyPost_ret (v:=ψ #[I #[O ra rn rc],τ true]) (by simp[results,Tryz.results47,go_sem,e4]) rfl ⟨_,rfl,?_,((btr HW.out.1 HR.a3)).setCell (by show w.heap.size<=w+1+1;omega) _⟩;have B0:∀ {v:ε} {xs:List ε} {st:Nat} {e:TypeId} {n:Nat},wf.ownsRow wr e st v n xs->Sl (wf.setCell (w+1+1:Nat) (O ra rn rc)) st v xs:=fun {v xs st e n} ho=>by
       refine y8 (Sl.qc ho) _ _ fun ad n' c' e'=>?_
       have h1:=(ho.lt ad.block (by rw[e'];rfl)).1;have h2:=H1.b2.size;have h3:=HL.a3.size;have h4:=HR.a4;show ad.block≠w+1+1;omega
      have Lz:mr.map Ce.cl=U:=by rw[HR.out.1];exact HL.out.1
      refine⟨mr,_,rfl,⟨by have:=B0 HR.a1;rw[<-HR.a5]at this;exact this,fun x hx=>B0 (HR.a2 x hx)⟩,?_,qb0 HL.a1 HR.out.1,by rw[Lz];exact HH.a3,by rw[Lz];exact HH.b4⟩;have h1:=(q4v.1 HH.a3).1;rw[<-Lz,gp]at h1;exact h1
open Go.Maps
theorem qni {T B nB:Nat}{m:List Ce}(c:Int)(v:ε)(w:δ)(G:Cx.Good (m.map Ce.cl))(hT:w T=Value.map (Y B))(hm:Mp Tryz.prog 3 w B nB (gOf m))(hs:∀x∈m,Sl w 2 x.sl (cat Sd.enc x.s))(hI:∀x∈m,I64 x.id)
  (hc:c∈m.map Ce.id) (h:Sl w 1 v (ints [c])) :
  Calls Tryz.prog 78 #[σ T,v] w fun e w'=>∃SE k s,e=.returned (.map (Y SE))/\Mp Tryz.prog 3 w' SE k (sG s)/\(∀d,s d=true↔d=c\/Relation.TransGen (q87 (m.map Ce.cl)) c d)/\k<=1000000/\Below w w w':=by
 obtain⟨a,n,cap,rfl⟩:=qg h;obtain⟨h1,h2,h3,h4,h5⟩:=h.open;unfold maxLen at h2;have hn:n=1:=by simp[ints]at h3;omega
 subst hn;obtain⟨ad,rfl⟩:=sadq h4 (by omega)
 have d0:w (ad.add 0)=c:=h5 ad rfl 0 _ rfl;have eW:m.length<=4000:=by have:=G.len;rwa [gp]at this
 obtain⟨W5,dZ⟩:=x4 ((((w.alloc (.cells #[σ T] 91)).alloc (.map #[] 0)).alloc (.cells #[.map (Y (w.heap.size+1))] 125)).alloc (.cells #[.nilFunc] 60));have aS:Below w w W5:=by rw[dZ];exact(((bal w _).alloc (by simp) _).alloc (by simp;omega) _).alloc (by simp;omega) _
 have k1:W5 w=σ T:=by rw[dZ];exact qk (qk (qk (xz w _ _ 0 rfl) _) _) _
 have k2:W5 (w+1+1:Nat)=Value.map (Y (w+1)):=by rw[dZ];have:=qd ((w.alloc (.cells #[σ T] 91)).alloc (.map #[] 0)) #[.map (Y (w+1))] 125 (0,0) 0;simp only [World.size_alloc]at this;exact qk this _
 have k3:W5 (w+1+1+1:Nat)=Y .nilFunc:=by rw[dZ];have:=qd (((w.alloc (.cells #[σ T] 91)).alloc (.map #[] 0)).alloc (.cells #[.map (Y (w+1))] 125)) #[.nilFunc] 60 (0,0) 0;simp only [World.size_alloc]at this;exact this
 have f3:W5.frozen? (w+1+1+1:Nat)=false:=by rw[dZ];have:=jz (heap_alloc_new (((w.alloc (.cells #[σ T] 91)).alloc (.map #[] 0)).alloc (.cells #[.map (Y (w+1))] 125)) (.cells #[.nilFunc] 60)) 0;simp only [World.size_alloc]at this;exact this
 have kS:Mp Tryz.prog 3 W5 (w+1) 0 (sG (fun _=>false)):=by
  rw[dZ];have h:Mp Tryz.prog 3 ((w.alloc (.cells #[σ T] 91)).alloc (.map #[] 0)) (w+1) 0 (sG (fun _=>false)):=by
   have:=Mp.made (P:=Tryz.prog) (k:=3) (w.alloc (.cells #[σ T] 91));rw[World.size_alloc]at this;have e:(fun _=>Z)=sG (fun _=>false):=by funext c;simp[sG]
   rw[<-e];exact this
  exact Mp.alloc (Mp.alloc h _) _
 obtain⟨p1,ng⟩:=x4 w.heap.size;obtain⟨SE,xT⟩:=x4 (w.heap.size+1);obtain⟨p2,jL⟩:=x4 (w.heap.size+1+1);obtain⟨p3,L0⟩:=x4 (w.heap.size+1+1+1);rw[<-ng]at k1;rw[<-jL,<-xT]at k2;rw[<-L0]at k3 f3;rw[<-xT]at kS;obtain⟨fv,L1⟩:=x4 (Value.func (.func 110) #[] #[σ p1,σ p2,σ p3]);have ag:(store p3 (Value.func (.func 110) #[] #[σ p1,σ p2,σ p3])).run Tryz.prog W5=.ok () (W5.setCell p3 fv):=by rw[L1,run_store _ _ _ _ _ rfl,k3,f3];rfl
 obtain⟨C1,hV⟩:=x4 (W5.setCell p3 fv);rw[<-hV]at ag;have v1:C1 p1=σ T:=by rw[hV];exact xe k1 (by show p1≠p3;omega)
 have v2:C1 p2=Value.map (Y SE):=by rw[hV];exact xe k2 (by show p2≠p3;omega)
 have v3:C1 p3=Y (Value.func (.func 110) #[] #[σ p1,σ p2,σ p3]):=by rw[hV,L1];exact World.cell?_setCell_same' _ _ _ (by rw[k3];rfl)
 have I2:Below w w C1:=by rw[hV];exact aS.setCell (show w<=p3 by omega) _
 have PC:Mp Tryz.prog 3 C1 SE 0 (sG (fun _=>false)):=by rw[hV];exact kS.setCell (by show SE≠p3;omega) _
 have A7:Vr w C1 T SE p1 p2 p3:=⟨I2,by omega,⟨by omega,by omega,by omega⟩,v1,v2,v3⟩
 have I3:mu (m.map Ce.id) (fun _=>false)<=4000:=by have h1:mu (m.map Ce.id) (fun _=>false)<=(m.map Ce.id).length:=gY _ _;rw[gp]at h1;omega
 have aq:=qrr G hT hm hs hI SE p1 p2 p3 _ c 0 (fun _=>false) C1 (nlr _) A7 PC hc (by omega);have HC:=lhd aq;have dV:C1 (ad.add 0)=c:=J I2 d0;have XC:C1 ad=c:=dV;have HV:=yh A7 I2 I3;have U2:=lhd dZ;have HP:=yt ng xT jL L0;clear aq A7 PC I2 hV L1 k1 k2 k3 f3 kS aS dZ v1 h h3 h4 h5 G hm hs hI hc hT I3 ng xT jL L0;have dU:=@run_makeMap Tryz.prog;go_enter Tryz.func78,Tryz.ntmps78;go_wp2_with fail;rw[<-U2.out,<-HP.b3,<-HP.a2,<-HP.a1,<-HP.out.1,ag];go_wp2_with fail;go_loopw [13] (fun x wr=>(x=H φ 0/\wr=C1)\/(x=H φ 1/\Hid (∃k s,Mp Tryz.prog 3 wr SE k (sG s)/\(∀d,s d=true↔d=c\/Relation.TransGen (q87 (m.map Ce.cl)) c d)/\k<=1000000/\Vr w wr T SE p1 p2 p3))) (fun x _=>1-(vI x).toNat)
 case atStart=>exact .inl ⟨rfl,rfl⟩
 case round =>
  rcases hrel with ⟨rfl,rfl⟩|⟨rfl,HF⟩
  ·have v3:=HV.out.1.c3;go_wp2_with fail;refine HC.out.mono ?_;rintro e w5 ⟨rfl,I4,k',s',b1,b2,b3,b4,b5⟩;have H5:=kp I4 b1 b2 b3 b4 b5;clear I4 b1 b2 b3 b4 b5;go_wp2_with fail;go_roundw
   case measure=>simp[vI]
   case rel =>
    obtain⟨I4,b1,b2,b3,b4,b5⟩:=H5.out;refine .inr ⟨rfl,(lhd ⟨k',s',b1,fun d=>⟨fun h=>?_,fun h=>?_⟩,?_,HV.out.1.gs I4⟩)⟩
    ·rcases b5 d h with h|h
     ·cases h
     ·exact h
    ·rcases h with rfl|h
     ·exact b3
     ·exact q6b.reach (fun _ h=>by cases h) b2 b3 h
    ·have:=HV.b2;omega
  ·obtain⟨k',s',b1,b2,b3,b4⟩:=HF.out;have c2:=b4.c2;have HX:=yt b1 b2 b3 b4;clear b1 b2 b3 b4;go_wp2_with fail;go_ret;exact⟨SE,k',s',rfl,HX.out.1,HX.a1,HX.a2,HX.b3.below⟩
