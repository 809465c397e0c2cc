/- Steps towards SequenceChecks. Conditions: none. -/
import Derived.Test.YtmkpbhaoalbhjaaGreatDoorXRf
import Derived.Test.YtmkpbhaoalbhjaaGreatDoorXRu
set_option maxRecDepth 1000000
set_option maxHeartbeats 0
open Go.Value renaming slice→O,agg→I,pointer→σ,bool→τ,int→H,tuple→ψ
open Option renaming none→Z,some→Y
open Go renaming undef→V,World→δ,Value→ε
open Go.IntKind renaming i64→φ
open Go.Cx renaming keep→J
namespace Go.Proofs.YtmkpbhaoalbhjaaGreatDoor
open Go.RowKit Go.Cx
attribute [local go_sem ↓] Go.wp_at_zero Go.wp_at_succ
theorem kj (w:δ)(q i:Nat)(hi:i<5):(Instr.fieldAt 57 (σ q) i).run Tryz.prog w=.ok (σ (Y ⟨q,i,Z⟩)) w:=by rcases (by omega:i=0\/i=1\/i=2\/i=3\/i=4)with rfl|rfl|rfl|rfl|rfl <;> simp[go_sem]
theorem vq {w:δ}{p:Addr}{n c:Nat}{so:Option Addr}(q0:w p=O so n c):(Instr.loadAt 36 (σ (Y p))).run Tryz.prog w=.ok (I #[O so n c]) w:=by simp[go_sem,q0]
theorem qah {w:δ}{q n k:Nat}{p r c:Int}{so:Option Addr}(q0:w q=p)(q1:w ⟨q,1,Z⟩=r)(q2:w ⟨q,2,Z⟩=c)(q3:w ⟨q,3,Z⟩=O so n k) :
  (Instr.loadAt 30 (σ q)).run Tryz.prog w=.ok (I #[p,r,c,O so n k]) w:=by
 simp[go_sem,q0,q1,q2,q3]
theorem qt1 {w:δ}{v x:ε}{A B M U:List Cl}{p d:Int}{m:Nat}{Bd:List (List Int)}(h:CvV w v p A B M U)(hx:FmV w x p (nId U d) m Bd)(hp:prI p=true)(hd : -900<=d/\d<=900)(kF:∀d,nId A d<=100)(oe:∀d,nId M d<=100)(lG:∀d,nId U d<=100)(hm:m<=200)
  (Qh:∀c∈q04 A d,c∈q04 U d) (Fj:∀c∈q04 M (d-1),c∈q04 A (d-1)) :
  Calls Tryz.prog 31 #[v,H φ d,x] w fun e w'=>∃y,e=.returned y/\FmO w w' y p (nId M (d-1)) m (q9i p A M U d m Bd)/\Below w w w':=by
 obtain⟨aa,an,ac,ba,bn,bc,ma,mn,mc,ua,un,uc,rfl,ka,kb,km,ku⟩:=h;obtain⟨s,rfl,hE,hF⟩:=hx;obtain⟨ea,en,ec,rfl⟩:=qg hE;obtain⟨r,hr⟩:=x4 (nId U d);rw[<-hr]at hF ⊢;have ir:r<=100:=by rw[hr];exact lG d
 have HH:=qb4 ka km ku hE hF hp kF oe Qh Fj hr;clear ka kb km ku hE hF hp kF oe lG Qh Fj hr;have wd:IntKind.i64.wrap (d-1)=d-1:=IntWalk.i64_in _ (by omega);go_enter Tryz.func31,Tryz.ntmps31;go_wp2_with fail;obtain⟨W,hW⟩:=x4 (((w.alloc (.cells #[O aa an ac,O ba bn bc,O ma mn mc,O ua un uc,p] 57)).alloc (.cells #[p,r,m,O ea en ec] 30)).alloc (.cells #[H φ 0,H φ 0,H φ 0,O Z 0 0] 30));rw[<-hW];have hw:Below w w W:=by rw[hW];exact(((q9).alloc (nlr _) _).alloc (by simp) _).alloc (by simp;omega) _
 have aG:W.heap.size=w+3:=by rw[hW];simp
 have b3:∀(i:Nat) (x:ε),(#[O aa an ac,O ba bn bc,O ma mn mc,O ua un uc,p] : Array ε)[i]? =Y x->W ⟨w,i,Z⟩=Y x:=fun i x hx=>by rw[hW];exact qk (qk (xz w _ _ i hx) _) _
 have b5:∀(i:Nat) (x:ε),(#[p,r,m,O ea en ec] : Array ε)[i]? =Y x->W ⟨w+1,i,Z⟩=Y x:=fun i x hx=>by rw[hW];exact qk (zx w _ _ _ i hx) _
 have h6:W.heap[w.heap.size+1+1]? =Y (.cells #[H φ 0,H φ 0,H φ 0,O Z 0 0] 30 (0,0)):=by have h2:=heap_alloc_new ((w.alloc (.cells #[O aa an ac,O ba bn bc,O ma mn mc,O ua un uc,p] 57)).alloc (.cells #[p,r,m,O ea en ec] 30)) (.cells #[H φ 0,H φ 0,H φ 0,O Z 0 0] 30);simp only [World.size_alloc]at h2;rw[hW];exact h2
 obtain⟨s3,pK⟩:=x4 w.heap.size;obtain⟨s5,iB⟩:=x4 (w.heap.size+1);obtain⟨s6,cW⟩:=x4 (w.heap.size+1+1);rw[<-pK]at b3;rw[<-iB]at b5;rw[<-cW]at h6;rw[<-cW,<-iB,<-pK];have AK:=b3 0 _ rfl;have Fl:=b3 2 _ rfl;have Qi:=b3 3 _ rfl;have LS:=b3 4 _ rfl;have AD:=b5 0 _ rfl;have Co:=b5 1 _ rfl;have AE:=b5 2 _ rfl;have Cp:=b5 3 _ rfl;have HW:=kp hw aG pK iB cW h6;clear hW hw aG b3 b5 h6 pK iB cW;have vM:∀(w':δ) (a:Option Addr) (n k:Nat) (K:List Cl) (d:Int),Below W W w'->Kx w (I #[O a n k]) K->Calls Tryz.prog 33 #[I #[O a n k],d] w' fun e w2=>∃x,e=.returned x/\Sl w2 1 x (ints (q04 K d))/\Below w' w' w2:=fun w' a n k K d hb hk =>(qbb (hk.keep ((btr HW.out.1 hb))) d).mono fun e w2 ⟨x,h1,h2,h3⟩=>⟨x,h1,Sl.qc h2,h3⟩
 have sT:∀(w':δ) (y z:ε),Below W W w'->Sl w' 1 y (ints (q04 U d))->Sl w' 1 z (ints (q04 A d))->Calls Tryz.prog 59 #[I #[p,r,m,O ea en ec],y,z] w' fun e w2=>∃x,e=.returned x/\FmO W w2 x p (nId A d) m (q0v (q04 U d) (q04 A d) Bd)/\Below w' w' w2:=fun w' y z hb hy hz =>(qqb ⟨_,rfl,HH.a3.keep ((btr HW.out.1 hb)),HH.a4⟩ hy hz (qh6 HH.a2.q1v d) HH.b10.symm HH.a8 (gd (HH.a6 d) (by decide)) (by omega) (by omega)).mono fun e w2 ⟨x,h1,h2,h3⟩=>⟨x,h1,by obtain⟨s,g1,g2,g3⟩:=h2;exact⟨s,g1,qf g2 hb.size,g3⟩,h3⟩
 refine qp4 fun KO cD=>?_
 go_cut [7]from 10 to 19 (fun x wx=>∃q:Nat,x=σ q/\Hid (BxV wx q (p) (nId A d) (m) (q0v (q04 U d) (q04 A d) Bd)/\W<=q/\Below W W wx))
 case first =>
  rename_i At K2 hJ aQ;refine vf rfl (fun b i v w'=>match b,i with
   |false,0=>v=I #[p,r,m,O ea en ec]
   |false,1=>v=σ (Y ⟨s3,3,Z⟩)
   |false,2=>v=I #[O ua un uc]
   |false,3=>v=d
   |false,4=>Sl w' 1 v (ints (q04 U (d)))
   |false,5=>v=σ s3
   |false,6=>v=I #[O aa an ac]
   |false,7=>v=d
   |false,8=>Sl w' 1 v (ints (q04 A (d)))
   |false,9=>FmO W w' v (p) (nId A d) (m) (q0v (q04 U d) (q04 A d) Bd)
   |false,10=>q6q v w'/\∃q,v=σ (Y ⟨q,0,Z⟩)/\W<=q
   |true,10=>∃q,v=σ (Y ⟨q,0,Z⟩)/\BxV w' q (p) (nId A d) (m) (q0v (q04 U d) (q04 A d) Bd)/\W<=q
   |_,_=>True) (fun _=>false) bkT [] (fun _ v=>v) (by kernel_rfl) 11 44 rfl (by kernel_rfl) (by kernel_rfl) (by decide) rfl ?keep ?step ?store ?done
  case keep =>
   intro b i v w1 w2 h hb
   match b,i,h with
   |false,0,h=>exact h
   |false,1,h=>exact h
   |false,2,h=>exact h
   |false,3,h=>exact h
   |false,4,h=>exact h.keep hb
   |false,5,h=>exact h
   |false,6,h=>exact h
   |false,7,h=>exact h
   |false,8,h=>exact h.keep hb
   |false,9,h=>exact h.keep hb
   |false,10,⟨h1,h2⟩=>exact⟨h1.keep hb,h2⟩
   |false,i+11,h=>trivial
   |true,0,h=>trivial
   |true,1,h=>trivial
   |true,2,h=>trivial
   |true,3,h=>trivial
   |true,4,h=>trivial
   |true,5,h=>trivial
   |true,6,h=>trivial
   |true,7,h=>trivial
   |true,8,h=>trivial
   |true,9,h=>trivial
   |true,10,⟨q,h1,h2,h3⟩=>exact⟨q,h1,h2.keep hb,h3⟩
   |true,11,h=>trivial
   |true,i+12,h=>trivial
  case step =>
   intro i o ho aD ph b w' bU hbf hw hd ab hsz
   match i,ho,aD,bU,hbf,hd with
   |0,rfl,_,_,hbf,_ =>obtain rfl:=jb hbf;exact jm rfl (zr qu ab 5) (qah (J hw AD) (J hw Co) (J hw AE) (J hw Cp)) ⟨_,rfl,rfl,j7 q9 rfl rfl⟩
   |1,rfl,_,_,hbf,_ =>obtain rfl:=jb hbf;exact yb rfl (zr qu ab 3) (kj w' _ 3 (by decide)) ⟨_,rfl,rfl,j7 q9 rfl rfl⟩
   |2,rfl,_,_,hbf,hd =>obtain rfl:=jb hbf;exact jm rfl (zf hd 1) (vq (J hw Qi)) ⟨_,rfl,rfl,j7 q9 rfl rfl⟩
   |3,rfl,_,_,hbf,_ =>obtain rfl:=jb hbf;exact jo (.inl rfl) ⟨_,rfl,(zr qu ab 1),j7 q9 rfl rfl⟩
   |4,rfl,_,_,hbf,hd =>
    obtain rfl:=jb hbf;have g12:b 12 V=I #[O ua un uc]:=(zf hd 2)
    have g13:b 13 V=d:=(zf hd 3)
    exact q0e rfl #[I #[O ua un uc],d] (by rw[<-g12,<-g13];simp[Act.eval]) ((vM w' _ _ _ _ _ hw HH.a2).mono fun e w2 ⟨x,h1,h2,h3⟩=>⟨_,h1,_,rfl,h2,j7 h3 rfl rfl⟩)
   |5,rfl,_,_,hbf,_ =>obtain rfl:=jb hbf;exact yb rfl (zr qu ab 3) (kj w' _ 0 (by decide)) ⟨_,rfl,rfl,j7 q9 rfl rfl⟩
   |6,rfl,_,_,hbf,hd =>obtain rfl:=jb hbf;exact jm rfl (zf hd 5) (vq (J hw AK)) ⟨_,rfl,rfl,j7 q9 rfl rfl⟩
   |7,rfl,_,_,hbf,_ =>obtain rfl:=jb hbf;exact jo (.inl rfl) ⟨_,rfl,(zr qu ab 1),j7 q9 rfl rfl⟩
   |8,rfl,_,_,hbf,hd =>
    obtain rfl:=jb hbf;have g16:b 16 V=I #[O aa an ac]:=(zf hd 6)
    have g17:b 17 V=d:=(zf hd 7)
    exact q0e rfl #[I #[O aa an ac],d] (by rw[<-g16,<-g17];simp[Act.eval]) ((vM w' _ _ _ _ _ hw HH.out.1).mono fun e w2 ⟨x,h1,h2,h3⟩=>⟨_,h1,_,rfl,h2,j7 h3 rfl rfl⟩)
   |9,rfl,_,_,hbf,hd =>
    obtain rfl:=jb hbf;have f14:Sl w' 1 (b 14 V) (ints (q04 U d)):=zf hd 4;have f18:Sl w' 1 (b 18 V) (ints (q04 A d)):=zf hd 8;have g10:b 10 V=I #[p,r,m,O ea en ec]:=(zf hd 0)
    exact q0e rfl #[I #[p,r,m,O ea en ec],b 14 V,b 18 V] (by rw[<-g10];simp[Act.eval]) ((sT w' _ _ hw f14 f18).mono fun e w2 ⟨y,h1,h2,h3⟩=>⟨_,h1,_,rfl,h2,j7 h3 rfl rfl⟩)
   |10,rfl,_,_,hbf,_ =>obtain rfl:=jb hbf;exact⟨rfl,gu _,vt _ rfl _ _ (q07 _) ⟨_,rfl,⟨q7x _,_,rfl,hw.size⟩,(q9).alloc (nlr _) _,fun h=>absurd h (by decide),fun c hc=>absurd hc gP⟩⟩
   |11,ho,aD,bU,hbf,hd=>exact absurd rfl aD
   |i+12,ho,aD,bU,hbf,hd =>have:i+12<12:=(gh.1 ho).1;omega
  case store =>
   intro o ho l b w' aP bW ag;obtain rfl:=osi ho;have fA:q6q (b 7 V) w'/\∃q,b 7 V=σ (Y ⟨q,0,Z⟩)/\W<=q:=by have h1:=ag.fact 10 _ _ rfl rfl (aP 10 (by kernel_rfl));rw[bW]at h1;exact h1
   have f0:FmO W w' (b 19 V) (p) (nId A d) (m) (q0v (q04 U d) (q04 A d) Bd):=by have h1:=ag.fact 9 _ _ rfl rfl (aP 9 (by kernel_rfl));rw[bW]at h1;exact h1
   obtain⟨s,e0,hs,hF⟩:=f0;obtain⟨so,sc,rfl⟩:=qj hs;obtain⟨⟨q,eA,hq⟩,q',iC,dA⟩:=fA;have iW:q'=q:=by rw[eA]at iC;injection iC with e;injection e with e;injection e with e;exact e.symm
   rw[iW]at dA;have ah:=qlw hq hs;obtain⟨q0,q1,q2,q3,hz⟩:=q68 hq;have z0:=hz 0;have z1:=hz 1;have z2:=hz 2;have z3:=hz 3;obtain⟨t0,t1,t2,t3⟩:=q1f q0 q1 q2 q3;refine⟨rfl,ju _ _ _ rfl _ _ eA e0 (vx q0 q1 q2 q3 hz) ⟨rfl,?_,by simp,fun i oi di hi eI hl=>?_⟩⟩
   ·exact jj ag.below dA _ _ _ _
   ·have h1:=ag.fact i oi di hi eI hl;rw[bW]at h1
    match i,hi,hl,h1 with
    |10,hi,hl,h1 =>obtain rfl:=osi hi;obtain rfl:=osi eI;rw[eA];exact⟨q,rfl,⟨_,_,_,t0 _ _ _ _,t1 _ _ _ _,t2 _ _ _ _,t3 _ _ _ _,Sl.qc (vl hs ah _ _ _ _),hF⟩,dA⟩
    |0,hi,hl,h1=>trivial
    |1,hi,hl,h1=>trivial
    |2,hi,hl,h1=>trivial
    |3,hi,hl,h1=>trivial
    |4,hi,hl,h1=>trivial
    |5,hi,hl,h1=>trivial
    |6,hi,hl,h1=>trivial
    |7,hi,hl,h1=>trivial
    |8,hi,hl,h1=>trivial
    |9,hi,hl,h1=>trivial
    |11,hi,hl,h1=>trivial
    |i+12,hi,hl,h1=>trivial
  case done =>intro b w2 hsz aO hf ab hw;obtain⟨q,gA,gB,gq⟩:∃q,b 7 V=σ (Y ⟨q,0,Z⟩)/\BxV w2 q (p) (nId A d) (m) (q0v (q04 U d) (q04 A d) Bd)/\W<=q:=hf 10 _ _ rfl rfl;refine aQ _ _ (Met.intro (hJ _ _ ⟨b 7 V,b 10 V,b 11 V,b 12 V,b 13 V,b 14 V,b 15 V,b 16 V,b 17 V,b 18 V,b 19 V,⟨q,gA,(lhd ⟨gB,gq,hw⟩)⟩,(q8z hsz aO ab).trans ?_⟩));kernel_rfl
 case rest =>
  obtain⟨s7,rfl,H1⟩:=hcut;refine cD _ _ ?_;obtain⟨ya,yn,yk,g0,g1,g2,g3,hg,LU⟩:=H1.out.1
  replace AK:=J H1.b2 AK
  replace Fl:=J H1.b2 Fl
  replace LS:=J H1.b2 LS
  obtain⟨w1,fC⟩:=x4 wc;subst fC;have Fm:Below w w w1:=(btr HW.out.1 H1.b2);have ID:=yh Fm hg LU;obtain⟨na,LV⟩:=x4 (nId A d);rw[<-LV]at g1 LU;have LW:=lhd LV;clear Fm hg LU Qi AD Co AE Cp sT LV;have cp:=(vm HH.a5).1;have kJ:∀w',Below w1 w1 w'->Calls Tryz.prog 37 #[I #[O aa an ac],d] w' fun e w2=>∃s,e=.returned (I #[(nId A (d-1):Nat),na,s])/\Sl w2 2 s (wvs (qbi A d))/\Below w' w' w2:=fun w' hb=>by rw[LW.out];exact q6x (HH.out.1.keep ((btr ID.out.1 hb))) d (by omega) (gd (HH.a6 _) (by decide)) (gd (HH.a6 _) (by decide))
  have hMod:∀(w':δ) (s:ε),Sl w' 2 s (wvs (qbi A d))->Calls Tryz.prog 36 #[p,I #[(nId A (d-1):Nat),na,s]] w' fun e w2=>∃x,e=.returned x/\FmV w2 x p (nId A (d-1)) na (bdP p A d)/\Below w' w' w2:=fun w' s hs=>by rw[LW.out];refine qfo hs (qav cp A d) (q6y p A d) (fun x hx=>?_) HH.a5 (gd (HH.a6 _) (by decide)) (gd (HH.a6 _) (by decide));obtain⟨t,_,rfl⟩:=gj.1 hx;have h1:=qdv HH.out.1.q1v ((q04 A d).getD (t%nId A d) 0) ((q04 A (d-1)).getD (t / nId A d) 0);have h2:=(vm HH.a5).2.1;unfold qac;omega
  have hMul:∀(w':δ) (y:ε),Below w1 w1 w'->FmV w' y p (nId A (d-1)) na (bdP p A d)->Calls Tryz.prog 16 #[y,I #[p,na,m,O ya yn yk]] w' fun e w2=>∃z,e=.returned (ψ #[z,τ true])/\FmV w2 z p (nId A (d-1)) m (mulM p m (bdP p A d) (q0v (q04 U d) (q04 A d) Bd))/\Below w' w' w2/\∃q,bkT (ψ #[z,τ true])=Y q/\w'<=q/\q<w2:=fun w' y hb hy=>by rw[LW.out]at hy ⊢;obtain⟨s,rfl,hs,hF⟩:=hy;refine(qom p _ _ m s _ _ _ w' hs (ID.a1.keep hb) HH.a5 hF ID.b2 (gd (HH.a6 _) (by decide)) (gd (HH.a6 _) (by decide)) (by omega)).mono ?_;rintro e w2 ⟨E,rfl,h1,h2,h3,h4⟩;exact⟨_,rfl,qbh h3 (q4t cp hF) (gd (HH.a6 _) (by decide)) (by omega),h4,E,rfl,h1,h2⟩
  go_upto_region 2 with fail
  go_cut [8,9]from 20 to 31 (fun x y wx=>∃q:Nat,x=σ q/\y=τ true/\Hid (BxV wx q (p) (nId A (d-1)) (m) (mulM p m (bdP p A d) (q0v (q04 U d) (q04 A d) Bd))/\w1<=q/\Below w1 w1 wx))
  case first =>
   rename_i At K2 hJ aQ;refine vf rfl (fun b i v w'=>match b,i with
    |false,0=>v=σ (Y ⟨s3,4,Z⟩)
    |false,1=>v=p
    |false,2=>v=σ s3
    |false,3=>v=I #[O aa an ac]
    |false,4=>v=d
    |false,5=>∃s,v=I #[(nId A (d-1):Nat),na,s]/\Sl w' 2 s (wvs (qbi A d))
    |false,6=>FmV w' v p (nId A (d-1)) na (bdP p A d)
    |false,7=>v=I #[p,na,m,O ya yn yk]
    |false,8=>∃y,v=ψ #[y,τ true]/\FmV w' y (p) (nId A (d-1)) (m) (mulM p m (bdP p A d) (q0v (q04 U d) (q04 A d) Bd))
    |false,9=>∃y,v=ψ #[y,τ true]/\FmV w' y (p) (nId A (d-1)) (m) (mulM p m (bdP p A d) (q0v (q04 U d) (q04 A d) Bd))
    |false,10=>FmV w' v (p) (nId A (d-1)) (m) (mulM p m (bdP p A d) (q0v (q04 U d) (q04 A d) Bd))
    |false,11=>v=τ true
    |false,12=>q6r v w'/\∃q,v=σ (Y ⟨q,0,Z⟩)/\w1<=q
    |true,9=>∃y,v=ψ #[y,τ true]
    |true,11=>v=τ true
    |true,12=>∃q,v=σ (Y ⟨q,0,Z⟩)/\BxV w' q (p) (nId A (d-1)) (m) (mulM p m (bdP p A d) (q0v (q04 U d) (q04 A d) Bd))/\w1<=q
    |true,14=>v=τ true
    |_,_=>True) (fun i=>i == 8 || i == 12) bkT [(9,8),(10,9)] (gTk 10) (by kernel_rfl) 13 44 rfl (by kernel_rfl) (by kernel_rfl) (by decide) rfl ?keep ?step ?store ?done
   case keep =>
    intro b i v w1 w2 h hb
    match b,i,h with
    |false,0,h=>exact h
    |false,1,h=>exact h
    |false,2,h=>exact h
    |false,3,h=>exact h
    |false,4,h=>exact h
    |false,5,⟨s,h1,h2⟩=>exact⟨s,h1,h2.keep hb⟩
    |false,6,h=>exact h.keep hb
    |false,7,h=>exact h
    |false,8,⟨y,h1,h2⟩=>exact⟨y,h1,h2.keep hb⟩
    |false,9,⟨y,h1,h2⟩=>exact⟨y,h1,h2.keep hb⟩
    |false,10,h=>exact h.keep hb
    |false,11,h=>exact h
    |false,12,⟨h1,h2⟩=>exact⟨h1.keep hb,h2⟩
    |false,i+13,h=>trivial
    |true,0,h=>trivial
    |true,1,h=>trivial
    |true,2,h=>trivial
    |true,3,h=>trivial
    |true,4,h=>trivial
    |true,5,h=>trivial
    |true,6,h=>trivial
    |true,7,h=>trivial
    |true,8,h=>trivial
    |true,9,h=>exact h
    |true,10,h=>trivial
    |true,11,h=>exact h
    |true,12,⟨q,h1,h2,h3⟩=>exact⟨q,h1,h2.keep hb,h3⟩
    |true,13,h=>trivial
    |true,14,h=>exact h
    |true,i+15,h=>trivial
   case step =>
    intro i o ho aD ph b w' bU hbf hw hd ab hsz
    match i,ho,aD,bU,hbf,hd with
    |0,rfl,_,_,hbf,_ =>obtain rfl:=jb hbf;exact yb rfl (zr qu ab 3) (kj w' _ 4 (by decide)) ⟨_,rfl,rfl,j7 q9 rfl rfl⟩
    |1,rfl,_,_,hbf,hd =>obtain rfl:=jb hbf;exact jm rfl (zf hd 0) (qe0 _ _ _ (J hw LS)) ⟨_,rfl,rfl,j7 q9 rfl rfl⟩
    |2,rfl,_,_,hbf,_ =>obtain rfl:=jb hbf;exact yb rfl (zr qu ab 3) (kj w' _ 0 (by decide)) ⟨_,rfl,rfl,j7 q9 rfl rfl⟩
    |3,rfl,_,_,hbf,hd =>obtain rfl:=jb hbf;exact jm rfl (zf hd 2) (vq (J hw AK)) ⟨_,rfl,rfl,j7 q9 rfl rfl⟩
    |4,rfl,_,_,hbf,_ =>obtain rfl:=jb hbf;exact jo (.inl rfl) ⟨_,rfl,(zr qu ab 1),j7 q9 rfl rfl⟩
    |5,rfl,_,_,hbf,hd =>
     obtain rfl:=jb hbf;have g24:b 24 V=I #[O aa an ac]:=(zf hd 3)
     have UW:b 25 V=d:=(zf hd 4)
     exact q0e rfl #[I #[O aa an ac],d] (by rw[<-g24,<-UW];simp[Act.eval]) ((kJ w' hw).mono fun e w2 ⟨s,h1,h2,h3⟩=>⟨_,h1,_,rfl,⟨s,rfl,h2⟩,j7 h3 rfl rfl⟩)
    |6,rfl,_,_,hbf,hd =>
     obtain rfl:=jb hbf;obtain⟨s4,LX,UX⟩:∃s,b 26 V=I #[(nId A (d-1):Nat),na,s]/\Sl w' 2 s (wvs (qbi A d)):=zf hd 5;have g22:b 22 V=p:=(zf hd 1)
     have LC:b 26 V=I #[(nId A (d-1):Nat),na,s4]:=LX;exact q0e rfl #[p,I #[(nId A (d-1):Nat),na,s4]] (by rw[<-g22,<-LC];simp[Act.eval]) ((hMod w' s4 UX).mono fun e w2 ⟨x,h1,h2,h3⟩=>⟨_,h1,_,rfl,h2,j7 h3 rfl rfl⟩)
    |7,rfl,_,_,hbf,_ =>obtain rfl:=jb hbf;exact jm rfl (zr qu ab 7) (qah (J hw g0) (J hw g1) (J hw g2) (J hw g3)) ⟨_,rfl,rfl,j7 q9 rfl rfl⟩
    |8,rfl,_,_,hbf,hd =>
     obtain rfl:=jb hbf;have f27:FmV w' (b 27 V) p (nId A (d-1)) na (bdP p A d):=zf hd 6;have LD:b 28 V=I #[p,na,m,O ya yn yk]:=(zf hd 7)
     exact q0e rfl #[b 27 V,I #[p,na,m,O ya yn yk]] (by rw[<-LD];simp[Act.eval]) ((hMul w' _ hw f27).mono fun e w2 ⟨y,h1,h2,h3,h4⟩=>⟨_,h1,_,rfl,⟨y,rfl,h2⟩,h3,fun _=>h4,fun c hc h=>absurd h ((by decide:∀c∈([(9,8),(10,9)] : List (Nat×Nat)),c.1≠8) c hc)⟩)
    |9,rfl,_,_,hbf,hd =>obtain rfl:=jb hbf;exact jo (.inl rfl) ⟨_,rfl,(zf hd 8),q9,fun h=>absurd h (by decide),fun c hc h=>by obtain rfl:c=(9,8):=(by decide:∀c∈([(9,8),(10,9)] : List (Nat×Nat)),c.1=9->c=(9,8)) c hc h;intro o' d' ik eT;obtain rfl:=osi ik;obtain rfl:=osi eT;rfl⟩
    |10,rfl,_,_,hbf,hd =>obtain rfl:=jb hbf;obtain⟨y,fM,fy⟩:∃y,b 20 V=ψ #[y,τ true]/\FmV w' y (p) (nId A (d-1)) (m) (mulM p m (bdP p A d) (q0v (q04 U d) (q04 A d) Bd)):=zf hd 9;exact q85 rfl fM rfl ⟨_,rfl,fy,q9,fun h=>absurd h (by decide),fun c hc h=>by obtain rfl:c=(10,9):=(by decide:∀c∈([(9,8),(10,9)] : List (Nat×Nat)),c.1=10->c=(10,9)) c hc h;intro o' d' ik eT;obtain rfl:=osi ik;obtain rfl:=osi eT;(show _=gTk 10 10 (b 20 V));rw[fM];rfl⟩
    |11,rfl,_,_,_,hd =>
     have fM:∃y,b 20 V=ψ #[y,τ true]:=by
      cases ph with
      |false=>obtain⟨y,h1,h2⟩:∃y,b 20 V=ψ #[y,τ true]/\FmV w' y (p) (nId A (d-1)) (m) (mulM p m (bdP p A d) (q0v (q04 U d) (q04 A d) Bd)):=zf hd 9;exact⟨y,h1⟩
      |true=>exact zf hd 9
     obtain⟨y,fM⟩:=fM;exact q85 rfl fM rfl ⟨_,rfl,(by cases ph <;> rfl),q9,(by simp),fun c hc h=>absurd h ((by decide:∀c∈([(9,8),(10,9)] : List (Nat×Nat)),c.1≠11) c hc)⟩
    |12,rfl,_,_,hbf,_ =>obtain rfl:=jb hbf;exact⟨rfl,gu _,vt _ rfl _ _ (q07 _) ⟨_,rfl,⟨q4h _,_,rfl,hw.size⟩,(q9).alloc (nlr _) _,(fun _=>⟨_,rfl,nlr _,by simp⟩),fun c hc h=>absurd h ((by decide:∀c∈([(9,8),(10,9)] : List (Nat×Nat)),c.1≠12) c hc)⟩⟩
    |13,ho,aD,bU,hbf,hd=>exact absurd rfl aD
    |14,rfl,_,bU,_,hd =>obtain rfl:=jb bU;have fL:b 31 V=τ true:=zf hd 11;exact jo (.inr rfl) ⟨_,rfl,fL,q9,(by simp),fun c hc h=>absurd h ((by decide:∀c∈([(9,8),(10,9)] : List (Nat×Nat)),c.1≠14) c hc)⟩
    |i+15,ho,aD,bU,hbf,hd =>have:i+15<15:=(gh.1 ho).1;omega
   case store =>
    intro o ho l b w' aP bW ag;obtain rfl:=osi ho;have fA:q6r (b 8 V) w'/\∃q,b 8 V=σ (Y ⟨q,0,Z⟩)/\w1<=q:=by have h1:=ag.fact 12 _ _ rfl rfl (aP 12 (by kernel_rfl));rw[bW]at h1;exact h1
    have f0:FmV w' (b 30 V) (p) (nId A (d-1)) (m) (mulM p m (bdP p A d) (q0v (q04 U d) (q04 A d) Bd)):=by have h1:=ag.fact 10 _ _ rfl rfl (aP 10 (by kernel_rfl));rw[bW]at h1;exact h1
    have fM:∃y,b 20 V=ψ #[y,τ true]/\FmV w' y (p) (nId A (d-1)) (m) (mulM p m (bdP p A d) (q0v (q04 U d) (q04 A d) Bd)):=by have h1:=ag.fact 9 _ _ rfl rfl (aP 9 (by kernel_rfl));rw[bW]at h1;exact h1
    have fD:=ag.apart 8 _ 29 12 _ 8 rfl rfl rfl rfl (aP 8 (by kernel_rfl)) (aP 12 (by kernel_rfl)) rfl rfl (by decide);have fx:b 20 V=gTk 10 9 (b 29 V):=ag.copy (9,8) (by simp) (aP 9 (by kernel_rfl)) _ _ _ _ rfl rfl rfl rfl;have fO:b 30 V=gTk 10 10 (b 20 V):=ag.copy (10,9) (by simp) (aP 10 (by kernel_rfl)) _ _ _ _ rfl rfl rfl rfl;obtain⟨y,fM,_⟩:=fM;have eC:b 29 V=ψ #[y,τ true]:=fx.symm.trans fM;have e0:b 30 V=y:=by rw[fO,fM];rfl
    rw[e0]at f0;obtain⟨s,rfl,hs,hF⟩:=f0;obtain⟨so,sn,sc,rfl⟩:=qg hs;obtain⟨⟨q,eA,hq,q0,q1,q2,q3,hz⟩,q',iC,dA⟩:=fA;have iW:q'=q:=by rw[eA]at iC;injection iC with e;injection e with e;injection e with e;exact e.symm
    rw[iW]at dA;rw[eC,eA]at fD;have ah:∀ad n c,O so sn sc=O (Y ad) n c->ad.block≠q:=fun ad n c e h=>by
     injection e with e;subst e
     exact fD (by show Y ad.block=Y q;rw[h])
    have z0:=hz 0;have z1:=hz 1;have z2:=hz 2;have z3:=hz 3;obtain⟨t0,t1,t2,t3⟩:=q1f q0 q1 q2 q3;refine⟨rfl,ju _ _ _ rfl _ _ eA e0 (vx q0 q1 q2 q3 hz) ⟨rfl,?_,by simp,fun i oi di hi eI hl=>?_⟩⟩
    ·exact jj ag.below dA _ _ _ _
    ·have h1:=ag.fact i oi di hi eI hl;rw[bW]at h1
     match i,hi,hl,h1 with
     |9,hi,hl,⟨y,h1,_⟩=>exact⟨y,h1⟩
     |11,hi,hl,h1=>exact h1
     |12,hi,hl,h1 =>obtain rfl:=osi hi;obtain rfl:=osi eI;rw[eA];refine⟨q,rfl,⟨_,_,_,t0 _ _ _ _,t1 _ _ _ _,t2 _ _ _ _,t3 _ _ _ _,?_,hF⟩,dA⟩;exact y8 (y8 (y8 (y8 hs _ _ ah) _ _ ah) _ _ ah) _ _ ah
     |14,hi,hl,h1=>have h2:=ag.cl 14 hl 13 (by kernel_rfl);rw[bW]at h2;cases h2
     |0,hi,hl,h1=>trivial
     |1,hi,hl,h1=>trivial
     |2,hi,hl,h1=>trivial
     |3,hi,hl,h1=>trivial
     |4,hi,hl,h1=>trivial
     |5,hi,hl,h1=>trivial
     |6,hi,hl,h1=>trivial
     |7,hi,hl,h1=>trivial
     |8,hi,hl,h1=>trivial
     |10,hi,hl,h1=>trivial
     |13,hi,hl,h1=>trivial
     |i+15,hi,hl,h1=>trivial
   case done =>intro b w2 hsz aO hf ab hw;obtain⟨q,gA,gB,gq⟩:∃q,b 8 V=σ (Y ⟨q,0,Z⟩)/\BxV w2 q (p) (nId A (d-1)) (m) (mulM p m (bdP p A d) (q0v (q04 U d) (q04 A d) Bd))/\w1<=q:=hf 12 _ _ rfl rfl;have gL:b 9 V=τ true:=hf 14 _ _ rfl rfl;refine aQ _ _ (Met.intro (hJ _ _ ⟨b 8 V,b 9 V,b 20 V,b 21 V,b 22 V,b 23 V,b 24 V,b 25 V,b 26 V,b 27 V,b 28 V,b 29 V,b 30 V,b 31 V,⟨q,gA,gL,(lhd ⟨gB,gq,hw⟩)⟩,(q8z hsz aO ab).trans ?_⟩));kernel_rfl
  case rest =>
   obtain⟨q,rfl,rfl,H2⟩:=hcut;obtain⟨za,zn,zk,g0,g1,g2,g3,hz,lH⟩:=H2.out.1;have fV:Below W W wc:=(btr H1.b2 H2.b2);have Qj:Below w w wc:=(btr HW.out.1 fV)
   replace AK:=J H2.b2 AK
   replace Fl:=J H2.b2 Fl
   have cW:s6<W:=by rw[HW.a1,HW.a4];omega
   have h6:wc.heap[s6]? =Y (.cells #[H φ 0,H φ 0,H φ 0,O Z 0 0] 30 (0,0)):=(fV.block s6 cW).trans HW.b5;have Fo:w<=s6/\s6<wc:=by have:=fV.size;have:=HW.a4;omega
   obtain⟨IE,AM⟩:=x4 (nId A (d-1));rw[<-AM]at g1 lH;have H3:=kp Qj hz lH h6 Fo AM;have AN:∀(w':δ) (y z:ε),Below wc wc w'->Sl w' 1 y (ints (q04 A (d-1)))->Sl w' 1 z (ints (q04 M (d-1)))->Calls Tryz.prog 59 #[I #[p,IE,m,O za zn zk],y,z] w' fun e w2=>∃x,e=.returned x/\FmO wc w2 x p (nId M (d-1)) m (q9i p A M U d m Bd)/\Below w' w' w2:=fun w' y z hb hy hz =>(qqb ⟨_,rfl,H3.a1.keep hb,H3.a2⟩ hy hz (qh6 HH.out.1.q1v (d-1)) H3.b5.symm HH.a9 (gd (HH.a7 (d-1)) (by decide)) (by rw[H3.b5];exact gd (HH.a6 (d-1)) (by decide)) (by omega)).mono fun e w2 ⟨x,h1,h2,h3⟩=>⟨x,h1,by obtain⟨s,k1,k2,k3⟩:=h2;exact⟨s,k1,qf k2 hb.size,k3⟩,h3⟩
   clear hz lH fV Qj cW h6 Fo AM;go_wp2_with fail;refine qp4 fun KO cD=>?_
   go_cut []from 32 to 43 (fun wx=>∃(w2:δ) (ya:Option Addr) (yc:Nat),Hid (w2.ownsRow wc 3 1 (O ya (nId M (d-1)*m) yc) (nId M (d-1)*m) (ints (q9i p A M U d m Bd).flatten)/\FM p (nId M (d-1)) m (q9i p A M U d m Bd)/\Below wc wc w2)/\wx=(((w2.setCell s6 p).setCell ⟨s6,1,Z⟩ (nId M (d-1):Nat)).setCell ⟨s6,2,Z⟩ m).setCell ⟨s6,3,Z⟩ (O ya (nId M (d-1)*m) yc))
   case first =>
    rename_i At K2 hJ aQ;refine q01 rfl (fun i v w'=>match i with
     |0=>v=I #[p,IE,m,O za zn zk]
     |1=>v=σ s3
     |2=>v=I #[O aa an ac]
     |3=>v=d
     |4=>v=(d-1:Int)
     |5=>Sl w' 1 v (ints (q04 A (d-1)))
     |6=>v=σ (Y ⟨s3,2,Z⟩)
     |7=>v=I #[O ma mn mc]
     |8=>v=d
     |9=>v=(d-1:Int)
     |10=>Sl w' 1 v (ints (q04 M (d-1)))
     |11=>FmO wc w' v p (nId M (d-1)) m (q9i p A M U d m Bd)
     |_=>True) (fun _=>false) bkT [] (fun _ v=>v) (by kernel_rfl) 12 20 44 rfl (by kernel_rfl) (by kernel_rfl) (by kernel_rfl) ?keep ?step ?mid
    case keep =>
     intro i v w1 w2 h hb
     match i,h with
     |0,h=>exact h
     |1,h=>exact h
     |2,h=>exact h
     |3,h=>exact h
     |4,h=>exact h
     |5,h=>exact h.keep hb
     |6,h=>exact h
     |7,h=>exact h
     |8,h=>exact h
     |9,h=>exact h
     |10,h=>exact h.keep hb
     |11,h=>exact h.keep hb
     |i+12,h=>trivial
    case step =>
     intro i o ho aD b w' hw hd ab hsz
     match i,ho,hd with
     |0,rfl,_ =>exact jm rfl (zr je ab 8) (qah (J hw g0) (J hw g1) (J hw g2) (J hw g3)) ⟨_,rfl,rfl,j7 q9 rfl rfl⟩
     |1,rfl,_ =>exact yb rfl (zr je ab 3) (kj w' _ 0 (by decide)) ⟨_,rfl,rfl,j7 q9 rfl rfl⟩
     |2,rfl,hd =>exact jm rfl (zf hd 1) (vq (J hw AK)) ⟨_,rfl,rfl,j7 q9 rfl rfl⟩
     |3,rfl,_ =>exact jo (.inl rfl) ⟨_,rfl,(zr je ab 1),j7 q9 rfl rfl⟩
     |4,rfl,hd =>exact q0n rfl (zf hd 3) rfl rfl (q91 wd _) ⟨_,rfl,rfl,j7 q9 rfl rfl⟩
     |5,rfl,hd =>
      have sU:Below W W wc:=(btr H1.b2 H2.b2);have UY:b 34 V=I #[O aa an ac]:=(zf hd 2)
      have EM:b 36 V=(d-1:Int):=(zf hd 4)
      exact q0e rfl #[I #[O aa an ac],(d-1:Int)] (by rw[<-UY,<-EM];simp[Act.eval]) ((vM w' _ _ _ _ _ ((btr sU hw)) HH.out.1).mono fun e w2 ⟨x,h1,h2,h3⟩=>⟨_,h1,_,rfl,h2,j7 h3 rfl rfl⟩)
     |6,rfl,_ =>exact yb rfl (zr je ab 3) (kj w' _ 2 (by decide)) ⟨_,rfl,rfl,j7 q9 rfl rfl⟩
     |7,rfl,hd =>exact jm rfl (zf hd 6) (vq (J hw Fl)) ⟨_,rfl,rfl,j7 q9 rfl rfl⟩
     |8,rfl,_ =>exact jo (.inl rfl) ⟨_,rfl,(zr je ab 1),j7 q9 rfl rfl⟩
     |9,rfl,hd =>exact q0n rfl (zf hd 8) rfl rfl (q91 wd _) ⟨_,rfl,rfl,j7 q9 rfl rfl⟩
     |10,rfl,hd =>
      have sU:Below W W wc:=(btr H1.b2 H2.b2);have LO:b 39 V=I #[O ma mn mc]:=(zf hd 7)
      have LM:b 41 V=(d-1:Int):=(zf hd 9)
      exact q0e rfl #[I #[O ma mn mc],(d-1:Int)] (by rw[<-LO,<-LM];simp[Act.eval]) ((vM w' _ _ _ _ _ ((btr sU hw)) HH.a1).mono fun e w2 ⟨x,h1,h2,h3⟩=>⟨_,h1,_,rfl,h2,j7 h3 rfl rfl⟩)
     |11,rfl,hd =>
      have f37:Sl w' 1 (b 37 V) (ints (q04 A (d-1))):=zf hd 5;have f42:Sl w' 1 (b 42 V) (ints (q04 M (d-1))):=zf hd 10;have UZ:b 32 V=I #[p,IE,m,O za zn zk]:=(zf hd 0)
      exact q0e rfl #[I #[p,IE,m,O za zn zk],b 37 V,b 42 V] (by rw[<-UZ];simp[Act.eval]) ((AN w' _ _ hw f37 f42).mono fun e w2 ⟨x,h1,h2,h3⟩=>⟨_,h1,_,rfl,h2,j7 h3 rfl rfl⟩)
     |i+12,ho,hd =>omega
    case mid =>
     intro b9 w2 hsz aO hf ab hw fD _;obtain⟨s4,Va,lp,LY⟩ : FmO wc w2 (b9 43 V) p (nId M (d-1)) m (q9i p A M U d m Bd):=hf 11 _ _ rfl rfl (by decide);obtain⟨ya,yc,rfl⟩:=qj lp;have e6:b9 6 V=σ s6:=ab 6 (je (by kernel_rfl));have Vb:w2.heap[s6]? =Y (.cells #[H φ 0,H φ 0,H φ 0,O Z 0 0] 30 (0,0)):=(hw.block s6 H3.a4.2).trans H3.a3;obtain⟨q0,q1,q2,q3,hz⟩:=q68 Vb;refine⟨fun k a1 u1=>match k with|0=>a1=b9/\u1=w2|_=>a1=b9/\u1=(((w2.setCell s6 p).setCell ⟨s6,1,Z⟩ (nId M (d-1):Nat)).setCell ⟨s6,2,Z⟩ m).setCell ⟨s6,3,Z⟩ (O ya (nId M (d-1)*m) yc),⟨rfl,rfl⟩,fun k o ho a1 u1 h1=>?_,fun a1 u1 h1=>?_⟩
     ·match k,ho,h1 with
      |0,ho,⟨h1,h2⟩ =>subst h1 h2;obtain rfl:=osi ho;exact⟨rfl,ju _ _ _ rfl _ _ e6 Va (vx q0 q1 q2 q3 hz) ⟨rfl,rfl⟩⟩
      |k+1,ho,h1 =>have:12+(k+1)<13:=(gh.1 ho).1;omega
     ·obtain⟨rfl,rfl⟩ : a1=b9/\u1=(((w2.setCell s6 p).setCell ⟨s6,1,Z⟩ (nId M (d-1):Nat)).setCell ⟨s6,2,Z⟩ m).setCell ⟨s6,3,Z⟩ (O ya (nId M (d-1)*m) yc):=h1;refine aQ _ _ (Met.intro (hJ _ _ ⟨a1 32 V,a1 33 V,a1 34 V,a1 35 V,a1 36 V,a1 37 V,a1 38 V,a1 39 V,a1 40 V,a1 41 V,a1 42 V,a1 43 V,⟨w2,ya,yc,(lhd ⟨lp,LY,hw⟩),rfl⟩,(q8z hsz aO fun s hs=>ab s fun i o _ ho=>hs i o ho).trans ?_⟩));kernel_rfl
   case rest =>obtain⟨w2,ya,yc,H4,rfl⟩:=hcut;refine cD _ _ ?_;have h6:w2.heap[s6]? =Y (.cells #[H φ 0,H φ 0,H φ 0,O Z 0 0] 30 (0,0)):=(H4.b2.block s6 H3.a4.2).trans H3.a3;obtain⟨q0,q1,q2,q3,_⟩:=q68 h6;obtain⟨t0,t1,t2,t3⟩:=q1f q0 q1 q2 q3;clear h6;go_wp2_with fail;refine bodyPost_ret (v:=I #[p,(nId M (d-1):Nat),m,O ya (nId M (d-1)*m) yc]) (by simp[results,Tryz.results31,go_sem,t0,t1,t2,t3]) rfl ⟨_,rfl,⟨_,rfl,vl (qf H4.out.1 (by have:=H3.out.1.size;omega)) (fun b hb=>?_) _ _ _ _,H4.a1⟩,jj ((btr H3.out.1 H4.b2)) H3.a4.1 _ _ _ _⟩;have:=(H4.out.1.lt b hb).1;have:=H3.a4.2;omega
end Go.Proofs.YtmkpbhaoalbhjaaGreatDoor
namespace Go.Cx
open Go.RowKit Go.Proofs.YtmkpbhaoalbhjaaGreatDoor
def ngL (p:Int)(F:List Int)(k:Nat):List Int:=F.mapIdx fun i n=>if i<k then (p-n)%p else n
theorem qqc (p:Int)(F:List Int):ngL p F 0=F:=by
 refine List.ext_getElem? fun i=>?_
 simp[ngL,List.getElem?_mapIdx]
theorem qqd (p:Int)(F:List Int):ngL p F F.length=F.map fun n=>(p-n)%p:=by
 refine List.ext_getElem? fun i=>?_
 unfold ngL;rw[List.getElem?_mapIdx,List.getElem?_map];by_cases h:i<F.length
 ·simp only [if_pos h]
 ·rw[List.getElem?_eq_none_iff.2 (by omega)];rfl
theorem qty {p:Int}{F:List Int}{k:Nat}{n:Int}(h:F[k]? =Y n):(ngL p F k)[k]? =Y n:=by unfold ngL;rw[List.getElem?_mapIdx,h];simp
theorem qs9 {p:Int}{F:List Int}{k:Nat}{n:Int}(h:F[k]? =Y n):(ngL p F k).set k ((p-n)%p)=ngL p F (k+1):=by
 have hk:=(gk.1 h).1;refine List.ext_getElem? fun i=>?_
 unfold ngL;rw[List.getElem?_set,List.length_mapIdx,List.getElem?_mapIdx,List.getElem?_mapIdx];by_cases hi:k=i
 ·subst hi;rw[if_pos rfl,if_pos hk,h];simp
 ·rw[if_neg hi];have:(i<k+1)=(i<k):=by apply propext;omega
  simp only [this]
end Go.Cx
namespace Go.Proofs.YtmkpbhaoalbhjaaGreatDoor
open Go.RowKit Go.Cx
attribute [local go_sem ↓] Go.wp_at_zero Go.wp_at_succ
theorem qsa {w:δ}{x:ε}{p:Int}{r m:Nat}{X:List (List Int)}(h:FmV w x p r m X)(hp:prI p=true)(hr:r<=400)(hm:m<=400) :
  Calls Tryz.prog 29 #[x] w fun e w'=>∃y,e=.returned y/\FmO w w' y p r m (q4d p X)/\Below w w w':=by
 obtain⟨s,rfl,hE,hF⟩:=h;obtain⟨ea,en,ec,rfl⟩:=qg hE;obtain⟨jL,iR,eP⟩:=q3r hp;obtain⟨F,xH⟩:=x4 X.flatten;have uk:F.length=r*m:=by rw[xH];exact hF.q1d
 have Ql:∀(k:Nat) (n:Int),F[k]? =Y n->0<=n/\n<p:=fun k n hk=>by rw[xH]at hk;obtain⟨y,hy,hn⟩:=List.mem_flatten.1 (gi hk);exact hF.res y hy n hn
 have LY:F.length<=160000:=by rw[uk];exact gd (Nat.mul_le_mul hr hm) (by decide)
 rw[<-xH]at hE;have HH:=kp hE hF hp xH uk Ql;clear hE hF hp xH uk Ql eP;go_enter Tryz.func29,Tryz.ntmps29;go_wp2_with fail;obtain⟨W,hW⟩:=x4 ((w.alloc (.cells #[p,r,m,O ea en ec] 30)).alloc (.cells #[H φ 0,H φ 0,H φ 0,O Z 0 0] 30));rw[<-hW];have hw:Below w w W:=by rw[hW];exact((q9).alloc (nlr _) _).alloc (by simp) _
 have aG:W.heap.size=w+2:=by rw[hW];simp
 have p0:W w=p:=by rw[hW];exact qk (xz w _ _ 0 rfl) _
 have p1:W ⟨w,1,Z⟩=r:=by rw[hW];exact qk (xz w _ _ 1 rfl) _
 have p2:W ⟨w,2,Z⟩=m:=by rw[hW];exact qk (xz w _ _ 2 rfl) _
 have p3:W ⟨w,3,Z⟩=O ea en ec:=by rw[hW];exact qk (xz w _ _ 3 rfl) _
 have pz:W.frozen? ⟨w,3,Z⟩=false:=by rw[hW];exact q27 (by simp) (q6w w _ _ 3) _
 have s0:W (w+1:Nat)=H φ 0:=by rw[hW];exact zx w _ _ _ 0 rfl
 have s1:W ⟨w+1,1,Z⟩=H φ 0:=by rw[hW];exact zx w _ _ _ 1 rfl
 have s2:W ⟨w+1,2,Z⟩=H φ 0:=by rw[hW];exact zx w _ _ _ 2 rfl
 have s3:W ⟨w+1,3,Z⟩=O Z 0 0:=by rw[hW];exact zx w _ _ _ 3 rfl
 have sz:∀i,W.frozen? ⟨w+1,i,Z⟩=false:=fun i=>by rw[hW];exact vo w _ _ _ i
 have HC:=q93 p0 p1 p2 s0 s1 s2 s3 sz hw aG;clear hW hw aG p0 p1 p2 s0 s1 s2 s3 sz;refine(qdl (O ea en ec) F W (HH.out.1.keep HC.a8) (by omega)).mono ?_;rintro e w1 ⟨rv,rfl,al,ae⟩;obtain⟨fl,fh⟩:=x4 F.length;rw[<-fh]at al LY;obtain⟨ra,rc,iI⟩:=qj al;subst iI
 replace p3:=J ae p3
 replace pz:=xf ae (by have:=HC.b9;show w.heap.size<_;omega) pz
 obtain⟨W1,kV⟩:=x4 (w1.setCell ⟨w.heap.size,3,Z⟩ (O ra fl rc));have xW:∀(q i:Nat) (x:ε),W.cell? ⟨q,i,Z⟩=Y x->(q,i)≠(w.heap.size,3)->W1.cell? ⟨q,i,Z⟩=Y x:=fun q i x hx ah=>by rw[kV];exact x8 (J ae hx) (fun e=>ah (by injection e with e1 e2;rw[e1,e2]))
 have k3:W1 ⟨w,3,Z⟩=O ra fl rc:=by rw[kV];exact World.cell?_setCell_same' _ _ _ (by rw[p3];rfl)
 have dx:Below w w W1:=by rw[kV];exact((btr HC.a8 ae)).setCell (nlr _) _
 have Qm:W1.ownsRow W 3 1 (O ra fl rc) fl (ints F):=by rw[kV];refine qji al (fun b hb=>?_) _;have:=(al.lt b hb).1;have:=HC.b9;show b≠w;omega
 have Qn:W.heap.size<=W1:=by rw[kV,World.size_setCell];exact ae.size
 have cL:∀i,W1.frozen? ⟨w+1,i,Z⟩=false:=fun i=>by rw[kV,World.frozen?_setCell];exact xf ae (by have:=HC.b9;show w.heap.size+1<_;omega) (HC.a7 i)
 have H1:=qhs (xW _ 0 _ HC.out.1 (by simp)) (xW _ 1 _ HC.a1 (by simp)) (xW _ 2 _ HC.a2 (by simp)) k3 (xW _ 0 _ HC.a3 (by simp)) (xW _ 1 _ HC.a4 (by simp)) (xW _ 2 _ HC.a5 (by simp)) (xW _ 3 _ HC.a6 (by simp)) cL dx Qm Qn fh kV;clear xW k3 dx Qm Qn cL kV al ae fh;go_wp2_with fail;rw[<-H1.b13];go_loopw [3,4,12] (fun _ _ x wr=>∃k:Nat,x=k/\k<=fl/\Hid (wr.ownsRow W 3 1 (O ra fl rc) fl (ints (ngL p F k)))/\Hid (Below W W1 wr)) (fun _ _ x _=>fl-(vI x).toNat)
 case atStart=>exact⟨0,rfl,gm _,(lhd (by rw[qqc];exact H1.a10)),(lhd q9)⟩
 case round =>
  obtain⟨k,rfl,hk,HR,HB⟩:=hrel;have hq:∀(q i:Nat) (x:ε),q<w+2->W1 ⟨q,i,Z⟩=Y x->wr ⟨q,i,Z⟩=Y x:=fun q i x hq hx=>(HB.out.cell (by have:=HC.b9;show q<_;omega)).trans hx
  have c0:=hq _ 0 _ (by omega) H1.out.1;have c3:=hq _ 3 _ (by omega) H1.a3;by_cases BO:k<fl
  ·have cV:(k:Int)<fl:=by omega
   obtain⟨n,hn⟩:∃n,F[k]? =Y n:=⟨_,gg (by rw[<-H1.a12];exact BO)⟩
   obtain⟨E,c,hv,dr,dN,Ca,LZ,l8⟩:=qgm HR.out (by omega);have sL:ra=E:=by injection hv
   obtain⟨ud,sV⟩:=x4 (E:Addr);rw[<-sV]at sL;have eX:ud.add k=⟨E,k,Z⟩:=by rw[sV,Addr.add_lit,Nat.zero_add]
   obtain⟨d0,dz⟩:=l8 k n (qty hn);rw[<-eX]at d0 dz;obtain⟨cY,Vc⟩:=HH.b5 k n hn;have Ma:IntKind.i64.wrap (p-n)=p-n:=IntWalk.i64_in _ (by omega);obtain⟨z1,dB⟩:=x4 (p-n);rw[<-dB]at Ma;have cp:p≠0:=by omega
   have Qo:z1.tmod p=z1%p:=Int.tmod_eq_emod_of_nonneg (by omega);obtain⟨z2,de⟩:=x4 (z1%p);rw[<-de]at Qo;subst sL;have HX:=kp hn dB de eX dr sV;have Mb:IntKind.i64.wrap (p-n)=z1:=by rw[<-dB] ;exact Ma
   clear hn dB de eX dr dN Ca LZ l8 hv sV hq cY Vc Ma;go_wp2_with fail;refine qp4 fun KO cD=>?_
   go_cut []from 17 to 27 (fun wx=>wx=wr.drew.setCell (ud.add k) z2)
   case first =>
    rename_i At K2 hJ aQ;refine yg (by kernel_rfl) (VF [Y (σ (Y ⟨w,3,Z⟩)),Y (O (Y ud) fl rc),Y (k:Int),Y (σ w),Y p,Y n,Y z1,Y (σ w),Y p,Y z2,Y (σ (Y (ud.add k))),Z]) [] (fun _ w2=>w2=wr.drew) 11 20 30 rfl (by kernel_rfl) (by kernel_rfl) (by decide) (by kernel_rfl) (by kernel_rfl) (by kernel_rfl) (by decide) (by decide) (fun a w2=>K2 a w2) ?start ?pure ?eff ?last ?done
    case start=>exact rfl
    case pure =>
     intro i o ho hL hE a w' vs hT ai hd ab hsz;obtain rfl:w'=wr.drew:=hT
     match i,ho,hL,hE,ai,hd with
     |0,rfl,_,_,_,_ =>exact yb rfl (zr qu ab 1) (jv _ _ _ (by decide)) (gone rfl)
     |1,rfl,_,_,_,hd =>exact jm rfl (j8 hd 0) (yy _ _ _ _ _ (c3)) (gone rfl)
     |2,rfl,_,_,_,_ =>exact jo (.inl rfl) ⟨_,rfl,fun _ h=>(zr qu ab 3).trans (osi h),rfl⟩
     |3,rfl,_,_,_,_ =>exact yb rfl (zr qu ab 1) (jv _ _ _ (by decide)) (gone rfl)
     |4,rfl,_,_,_,hd =>exact jm rfl (j8 hd 3) (qe0 _ _ _ (c0)) (gone rfl)
     |5,rfl,_,_,_,_ =>exact jo (.inl rfl) ⟨_,rfl,fun _ h=>(zr qu ab 4).trans (osi h),rfl⟩
     |6,rfl,_,_,_,hd =>exact q0n rfl (j8 hd 4) (j8 hd 5) rfl (q91 Mb _) (gone rfl)
     |7,rfl,_,_,_,_ =>exact yb rfl (zr qu ab 1) (jv _ _ _ (by decide)) (gone rfl)
     |8,rfl,_,_,_,hd =>exact jm rfl (j8 hd 7) (qe0 _ _ _ (c0)) (gone rfl)
     |9,rfl,_,_,_,hd =>exact q0n rfl (j8 hd 6) (j8 hd 8) rfl (qjl cp Qo _) (gone rfl)
     |10,rfl,_,_,_,hd =>exact q4r rfl (j8 hd 1) (j8 hd 2) (q0w _ _ _ _ _ BO) (gone rfl)
     |11,ho,hL,hE,ai,hd =>exact absurd rfl hL
     |i+12,ho,hL,hE,ai,hd =>have:i+12<12:=(gh.1 ho).1;omega
    case eff =>
     intro s i o hs ho a w' vs hl hT hd hr ab hsz
     match s,hs,hr,hl with
     |s+0,hs,hr,hl=>cases hs
    case last =>intro o ho a w' vs hsz aO hl hT hf hr ab;obtain rfl:=osi ho;obtain rfl:=gl hl;obtain rfl:w'=wr.drew:=hT;have g0:a 27 V=σ (Y (ud.add k)):=hf 10 _ _ rfl rfl (by kernel_rfl) (by decide) _ rfl;have g1:a 26 V=z2:=hf 9 _ _ rfl rfl (by kernel_rfl) (by decide) _ rfl;refine⟨rfl,ju _ _ _ rfl _ _ g0 g1 (q6j _ _ _ _ d0 dz) ?_⟩;refine aQ _ _ (Met.intro (hJ _ _ ⟨a 17 V,a 18 V,a 19 V,a 20 V,a 21 V,a 22 V,a 23 V,a 24 V,a 25 V,a 26 V,a 27 V,rfl,(q8z hsz aO ab).trans ?_⟩));kernel_rfl
    case done=>exact fun _ _ h=>h
   case rest =>
    subst hcut;refine cD _ _ ?_;go_wp2;go_roundw
    case measure=>simp[vI];omega
    case rel =>
     refine⟨k+1,qh (by omega),by omega,(show Hid _ from ?_),(lhd ((HB.out.trans ((qb (Below.refl _ wr) 1).mono (gd H1.a11 HB.out.size))).setCell ?_ _))⟩
     ·rw[HX.a3];have h4:=HR.out.drew;rw[HX.b5]at h4 ⊢;have h5:=(h4.stored k z2).1;rw[show (ints (ngL p F k)).set k z2=ints (ngL p F (k+1)) by rw[<-qs9 HX.out.1,<-HX.a1,<-HX.a2];simp[ints,List.map_set]]at h5;exact h5
     ·rw[HX.a3];exact HX.a4
  ·have hie:k=fl:=by omega
   have c1:=hq _ 1 _ (by omega) H1.a1;have c2:=hq _ 2 _ (by omega) H1.a2;have r0:=hq _ 0 _ (by omega) H1.a4;have r1:=hq _ 1 _ (by omega) H1.a5;have r2:=hq _ 2 _ (by omega) H1.a6;have r3:=hq _ 3 _ (by omega) H1.a7;have hz:∀i,wr.frozen? ⟨w.heap.size+1,i,Z⟩=false:=fun i=>(HB.out.frozen (p:=⟨w.heap.size+1,i,Z⟩) (by have:=HC.b9;show w.heap.size+1<_;omega)).trans (H1.a8 i)
   have z0:=hz 0;have z1:=hz 1;have z2:=hz 2;have z3:=hz 3;have aT:Below w w wr:=H1.a9.trans (HB.out.mono (by have:=HC.b9;omega));have HQ:=jg aT hie;clear hq hz aT hie;go_wp2_with fail;obtain⟨e0,e1,e2,e3⟩:=q1f r0 r1 r2 r3;have al:=HR.out;have h9:=HC.b9;rw[HQ.out.2,H1.a12,qqd,HH.a3,<-qmj,<-HH.a3]at al;have ak:∀b,(O ra F.length rc).ownBlock=Y b->b≠w+1:=fun b hb=>by have:=(al.lt b hb).1;omega
   refine bodyPost_ret (v:=I #[p,r,m,O ra fl rc]) (by simp[results,Tryz.results29,go_sem,e0,e1,e2,e3]) rfl ⟨_,rfl,⟨_,rfl,?_,qrg (vm HH.a2).1 HH.a1⟩,jj HQ.out.1 (by omega) _ _ _ _⟩;rw[H1.a12];rw[HH.a4]at al ak ⊢;exact vl (qf al (by omega)) ak _ _ _ _
end Go.Proofs.YtmkpbhaoalbhjaaGreatDoor
namespace Go.Cx
open Go.RowKit
structure Fc where
 p:Int
 r:Int
 c:Int
 a:Option Addr
 n:Nat
 k:Nat
 E:List Int
def Fc.enc (x:Fc):List Value:=[x.p,x.r,x.c,O x.a x.n x.k]
def Fc.v (x:Fc):Value:=I #[x.p,x.r,x.c,O x.a x.n x.k]
def Fc.q (x:Fc):Fq:=⟨x.p,x.r,x.c,x.E⟩
theorem Fc.qp (x:Fc):x.enc.length=4:=rfl
def SlF (w:δ)(v:ε)(l:List Fc):Prop:=Sl w 4 v (cat Fc.enc l)/\∀x∈l,Sl w 1 (O x.a x.n x.k) (ints x.E)
theorem SlF.keep {w w':δ}{v:ε}{l:List Fc}(h:SlF w v l)(hb:Below w w w'):SlF w' v l:=⟨h.1.keep hb,fun x hx=>(h.2 x hx).keep hb⟩
theorem qhl {w:δ}{a:Option Addr}{n c:Nat}{l:List Fc}(h:Sl w 4 (O a n c) (cat Fc.enc l)){k:Nat}(hk:k<l.length):∃ad x,a=Y ad/\l[k]? =Y x/\w (ad.add (k*4))=x.p ∧
  w ⟨(ad.add (k*4)).block,(ad.add (k*4)).off+1,Z⟩=x.r/\w ⟨(ad.add (k*4)).block,(ad.add (k*4)).off+2,Z⟩=x.c/\w ⟨(ad.add (k*4)).block,(ad.add (k*4)).off+3,Z⟩=O x.a x.n x.k:=by
 obtain⟨h1,h2,h3,h4,h5⟩:=h.open;rw[qt Fc.qp]at h3;obtain⟨x,hx⟩:∃x,l[k]? =Y x:=⟨_,gg hk⟩
 obtain⟨ad,rfl⟩:=sadq h4 (by omega)
 refine⟨ad,x,rfl,hx,h5 ad rfl _ _ (q2l Fc.qp l k 0 x hx (by omega)),?_,?_,?_⟩
 ·rw[qi _ _ _ (by omega)];exact h5 ad rfl _ _ (q2l Fc.qp l k 1 x hx (by omega))
 ·rw[qi _ _ _ (by omega)];exact h5 ad rfl _ _ (q2l Fc.qp l k 2 x hx (by omega))
 ·rw[qi _ _ _ (by omega)];exact h5 ad rfl _ _ (q2l Fc.qp l k 3 x hx (by omega))
theorem q7y {w:δ}{a:Option Addr}{n c:Nat}{l:List Fc}(h:Sl w 4 (O a n c) (cat Fc.enc l)):n=l.length:=by have:=h.open.2.2.1;rw[qt Fc.qp]at this;omega
def SqV (w:δ)(v:ε)(P:Int)(D:List Int)(L:List Fc):Prop:=∃sd sm,v=I #[P,sd,sm]/\Sl w 1 sd (ints D)/\SlF w sm L
theorem SqV.keep {w w':δ}{v:ε}{P:Int}{D:List Int}{L:List Fc}(h:SqV w v P D L)(hb:Below w w w'):SqV w' v P D L:=by obtain⟨sd,sm,h1,h2,h3⟩:=h;exact⟨sd,sm,h1,h2.keep hb,h3.keep hb⟩
end Go.Cx
namespace Go.Cx
open Go.RowKit
variable {P:Program}{ops:Array Oper}{Q:Exit->Act->δ->Prop}
theorem qno {o:Oper}{a:Act}(j d:Nat)(hg:o.guard=Y (j,false))(hj:(ops[j]?).bind (·.dst)=Y d)(hs:d<a.tmps.size)(h:a d V=τ true):Region.wanted o (yielded ops a.tmps)=false:=by
 have h1:a.tmps[d]? =τ true:=by rw[Array.getD_eq_getD_getElem?,Array.getElem?_eq_getElem hs]at h;rw[Array.getElem?_eq_getElem hs];exact congrArg Y h
 unfold Region.wanted;rw[hg];show (yielded ops a.tmps j == Y false)=false;unfold yielded;rw[hj];show ((match a.tmps[d]? with|some (τ b)=>Y b|_=>Z) == Y false)=false;rw[h1];rfl
theorem gaw {ops:Array Oper}{o:Oper}{a:Act}{S T:Prop}(q:Bool)(j d:Nat)(h:a d V=τ q)(k:q=false->S)(hs:d<a.tmps.size:=by rw[hsz];decide)(hg:o.guard=Y (j,false):=by exact rfl)(hj:(ops[j]?).bind (·.dst)=Y d:=by exact rfl):(Region.wanted o (yielded ops a.tmps)=true/\S)\/Region.wanted o (yielded ops a.tmps)=false/\(q=false->T):=by
 cases q with
 |true=>exact .inr ⟨qno j d hg hj hs h,fun h=>by cases h⟩
 |false=>exact .inl ⟨Go.Proofs.YtmkpbhaoalbhjaaGreatDoor.qek j d hg hj hs h,k rfl⟩
theorem q8t {id:Nat}{a0:Act}{w:δ}(hm:P.follows .mixedOrders=true)(F:Nat->ε->δ->Prop)(n:Nat)(hn:a0.tmps.size=n)(hd:qbx ops n=true)(lP:qmk .any ops=true)
  (hF:∀i v w w',F i v w->Below w w w'->F i v w')
  (dq:∀(i:Nat) (o:Oper),ops[i]? =Y o->∀(a:Act) (w':δ),Below w w w'->(∀(j:Nat) (oj:Oper) (dj:Nat),ops[j]? =Y oj->oj.dst=Y dj->dep .any ops i j=true->F j (a dj V) w') →
   (∀s,(∀(i:Nat) (o:Oper),ops[i]? =Y o->o.dst≠Y s)->a s V=a0 s V)->a.tmps.size=n →
   (Region.wanted o (yielded ops a.tmps)=true/\Oper.wp P o a w' (fun a' w''=>∃v,a'=a.put o.dst v/\F i v w''/\Below w' w' w'') Q)\/(Region.wanted o (yielded ops a.tmps)=false/\F i V w'))
  (cZ:∀(a:Act) (w':δ),a.tmps.size=n->a.defers=a0.defers->(∀(i:Nat) (o:Oper) (d:Nat),ops[i]? =Y o->o.dst=Y d->F i (a d V) w') →
   (∀s,(∀(i:Nat) (o:Oper),ops[i]? =Y o->o.dst≠Y s)->a s V=a0 s V)->Below w w w'->Q .normal a w') :
  (Code.region id ops true).wp P Q a0 w:=by
 have lQ:=q4m hd;have main:∀(fuel:Nat) (listed:Array Bool) (a:Act) (w':δ),listed.size=ops.size->unl ops listed<=fuel->St ops F a0 w listed a w'->wpAny P .any ops Q fuel listed a w':=by
  intro fuel;have fin:∀(listed:Array Bool) (a:Act) (w':δ),listed.size=ops.size->St ops F a0 w listed a w'->(∀i:Nat,i<ops.size->listed.getD i false=true)->Q .normal a w':=fun listed a w' _ h ao =>cZ a w' (h.sz.trans hn) h.df (fun i o d ho eT=>h.fact i o d ho eT (ao i (gh.1 ho).1)) h.base h.below
  have mE:∀(listed:Array Bool),unl ops listed=0->∀i:Nat,i<ops.size->listed.getD i false=true:=fun listed h0 i hi=>by
   cases hc:listed.getD i false with
   |true=>rfl
   |false =>
    have:i∈(List.range ops.size).filter fun i=>!listed.getD i false:=gS.2 ⟨gF.2 hi,by rw[hc];rfl⟩
    rw[gl h0]at this;cases this
  induction fuel with
  |zero =>intro listed a w' hl hu h;have ao:=mE listed (by omega);refine⟨?_,fin listed a w' hl h ao⟩;rw[List.eq_nil_iff_forall_not_mem];intro j hj;obtain⟨h1,o,ho,_⟩:=mem_ready.1 hj;have eV:=(gh.1 ho).1;have h2:=ao j eV;simp[hl,eV]at h1 h2;rw[h1]at h2;cases h2
  |succ fuel ih =>
   intro listed a w' hl hu h;refine⟨fun jS=>?_,fun i hi=>?_⟩
   ·refine fin listed a w' hl h fun i hi=>?_
    induction i using Nat.strongRecOn with
    |_ i Dg =>
     cases hc:listed.getD i false with
     |true=>rfl
     |false =>
      exfalso
      obtain⟨o,ho⟩:∃o,ops[i]? =Y o:=⟨_,Array.getElem?_eq_getElem hi⟩
      have cG:i∈Region.ready .any ops listed:=mem_ready.2 ⟨by simpa [hl,hi]using hc,o,ho,fun e he hb=>by
       have h1:=gE.1 lP i (gF.2 hi);rw[ho]at h1;simp only [Option.map_some,Option.getD_some,Array.all_eq_true]at h1;obtain⟨k,hk,rfl⟩:=Array.getElem_of_mem he;have h2:=h1 k hk;rw[hb]at h2;have h3:(o.after[k]).on<i:=by simpa using h2
       exact Dg _ h3 (by omega)⟩
      rw[jS]at cG;cases cG
   ·obtain⟨h1,o,ho,ao⟩:=mem_ready.1 hi;have dT:=(gh.1 ho).1;have B4:listed.getD i false=false:=by simpa [hl,dT]using h1
    obtain⟨d,eD,iZ,nN⟩:=lQ i o ho;have ag:=dq i o ho a w' h.below (fun j oj dj hj ar aK=>h.fact j oj dj hj ar (by
     unfold dep at aK;rw[ho]at aK;simp only [Option.map_some,Option.getD_some,Array.any_eq_true]at aK;obtain⟨k,hk,hb⟩:=aK;simp only [Bool.and_eq_true,beq_iff_eq]at hb;have:=ao _ (Array.getElem_mem hk) hb.1
     rwa [hb.2]at this)) h.base (h.sz.trans hn)
    have IF:∀(v:ε) (w'':δ),F i v w''->Below w' w' w''->wpAny P .any ops Q fuel (listed.setIfInBounds i true) (a.put o.dst v) w'':=fun v w'' hv hb=>by
     have ak:=qdi hl dT B4;refine ih _ _ _ (by simpa using hl) (by omega) ⟨?_,?_,fun j oj dj hj ar cy=>?_,fun s hs=>?_,(btr h.below hb)⟩
     ·rw[eD];show (a.tmps.setIfInBounds d v).size=_;simpa using h.sz
     ·rw[eD];exact h.df
     ·rw[eD,q3s];by_cases aH:j=i
      ·subst aH;rw[ho]at hj;injection hj with hj;subst hj
       rw[eD]at ar;injection ar with ar;subst ar
       rw[if_pos ⟨rfl,by rw[h.sz,hn];exact iZ⟩];exact hv
      ·rw[if_neg (fun e=>nN j oj hj aH (by rw[ar,e.1]))];refine hF _ _ _ _ (h.fact j oj dj hj ar ?_) hb;simp only [Array.getD_eq_getD_getElem?,Array.getElem?_setIfInBounds,Ne.symm aH,if_false]at cy;simpa using cy
     ·rw[eD,q3s,if_neg (fun e=>hs i o ho (by rw[eD,e.1]))];exact h.base s hs
    unfold wpOp;rw[ho];dsimp only;rcases ag with ⟨hw,fB⟩|⟨hw,hv⟩
    ·rw[if_pos hw];refine .inl (Oper.wp_mono (fun a' w'' hx=>?_) fB);obtain⟨v,rfl,hv,hb⟩:=hx;exact IF v w'' hv hb
    ·rw[if_neg (by rw[hw];decide)];exact IF V w' hv q9
 refine wp_region_any hm (main _ _ _ _ (by simp) ?_ ⟨rfl,rfl,fun i o d _ _ cy=>?_,fun _ _=>rfl,(qb (Below.refl _ w) 1)⟩)
 ·unfold unl;exact gd (gY _ _) (by simp)
 ·exfalso
  simp only [Array.getD_eq_getD_getElem?,Array.getElem?_replicate]at cy;split at cy <;> simp at cy
