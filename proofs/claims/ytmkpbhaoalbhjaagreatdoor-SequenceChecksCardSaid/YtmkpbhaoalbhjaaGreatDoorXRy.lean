/- Steps towards SequenceChecks. Conditions: none. -/
import Derived.Deep.Upon
import Derived.Test.YtmkpbhaoalbhjaaGreatDoorXRx
set_option maxRecDepth 1000000
set_option maxHeartbeats 0
open Go.Value renaming slice→O,agg→I,pointer→σ,bool→τ,int→H,tuple→ψ
open Option renaming none→Z,some→Y
open Go renaming undef→V,World→δ,Value→ε
open Go.IntKind renaming i64→φ
open Go.Cx renaming keep→J
namespace Go.Cx
open Go.RowKit Go.Proofs.YtmkpbhaoalbhjaaGreatDoor
def q3e (z:List Int):List (List Int):=z.map fun n=>[n]
theorem qfw:∀z:List Int,(q3e z).flatten=z
 |[]=>rfl
 |n :: z=>by show [n]++(q3e z).flatten=n :: z;rw[qfw z];rfl
theorem qly {p:Int}{z:List Int}(h:∀n∈z,0<=n/\n<p):FM p z.length 1 (q3e z) :=
 ⟨by simp[q3e],fun x hx=>(by obtain⟨n,_,rfl⟩:=gj.1 hx;rfl),fun x hx n hn=>(by obtain⟨k,hk,rfl⟩:=gj.1 hx;rw[List.mem_singleton]at hn;rw[hn];exact h k hk)⟩
end Go.Cx
namespace Go.Proofs.YtmkpbhaoalbhjaaGreatDoor
open Go.RowKit Go.Cx
attribute [local go_sem ↓] Go.wp_at_zero Go.wp_at_succ
theorem qu0 (p r c:Int)(a:Option Addr)(n k:Nat)(w:δ):(Instr.field 30 (I #[p,r,c,O a n k]) 3).run Tryz.prog w=.ok (O a n k) w:=by
 have key:∀u:ε,(Instr.field 30 (I #[p,r,c,u]) 3).run Tryz.prog w=.ok u w:=fun u=>by kernel_rfl
 exact key _
theorem qnq {w:δ}{v u x:ε}{A B M U:List Cl}{p d:Int}{z:List Int}(h:Kx w v A)(k:Kx w u B)(Eq:Ops A B M U)(C:Cov A B M U)(hp:prI p=true)(hd : -900<=d/\d<=900)(hx:Sl w 1 x (ints z))(hl:z.length=nId U d)(hz:∀n∈z,0<=n/\n<p)(hc:(mulM p 1 (bdP p U d) (q3e z)).flatten.all (fun n=>n == 0)=true) :
  Calls Tryz.prog 12 #[v,u,d,p,x] w fun e w'=>∃s,e=.returned (ψ #[s,τ true])/\Sl w' 1 s (ints (q9i p A M U d 1 (q3e z)).flatten)/\Below w w w':=by
 obtain⟨a0,n0,k0,rfl⟩:=h.shape;obtain⟨a1,n1,k1,rfl⟩:=k.shape;obtain⟨xa,xn,xc,rfl⟩:=qg hx;have dO:xn=z.length:=by have:=hx.open.2.2.1;rw[xl]at this;omega
 have lG:=Eq.few;have kF:∀d,nId A d<=100:=fun d=>gd (qeb C.a C.u C.au d) (lG d)
 have oe:∀d,nId M d<=100:=fun d=>gd (qeb C.m C.a C.ma d) (kF d)
 have eZ:xn<=100:=by rw[dO,hl];exact lG d
 have hF:FM p xn 1 (q3e z):=by rw[dO];exact qly hz
 have mM:FM p (nId U d) 1 (q3e z):=by rw[<-hl];exact qly hz
 have HH:=qan h k Eq C hp hx (dO.trans hl) hF mM;have HN:=kg lG kF oe hc dO;clear h k Eq C hp hx hl hz hc lG kF oe hF mM dO;go_enter Tryz.func12,Tryz.ntmps12;go_wp2_with fail;obtain⟨W,hW⟩:=x4 ((w.alloc (.cells #[O a0 n0 k0] 36)).alloc (.cells #[O a1 n1 k1] 36));rw[<-hW];have hw:Below w w W:=by rw[hW];exact((q9).alloc (nlr _) _).alloc (by simp) _
 have HC:=lhd hw;clear hW hw;refine(qqa (HH.out.1.keep HC.out) (HH.a1.keep HC.out) HH.a2 HH.a4).mono ?_;rintro e w1 ⟨y,rfl,hy,ae⟩;obtain⟨aa,an,ac,ba,bn,bc,ma,mn,mc,ua,un,uc,rfl,kA,kB,kM,kU⟩:=hy;obtain⟨q8,fU⟩:=x4 w1.heap.size;obtain⟨C1,hV⟩:=x4 (w1.alloc (.cells #[O aa an ac,O ba bn bc,O ma mn mc,O ua un uc,p] 57));have fu:Below w1 w1 C1:=by rw[hV];exact(q9).alloc (nlr _) _
 have v0:C1 q8=O aa an ac:=by rw[hV,fU];exact xz w1 _ _ 0 rfl
 have v1:C1 ⟨q8,1,Z⟩=O ba bn bc:=by rw[hV,fU];exact xz w1 _ _ 1 rfl
 have v2:C1 ⟨q8,2,Z⟩=O ma mn mc:=by rw[hV,fU];exact xz w1 _ _ 2 rfl
 have v3:C1 ⟨q8,3,Z⟩=O ua un uc:=by rw[hV,fU];exact xz w1 _ _ 3 rfl
 have v4:C1 ⟨q8,4,Z⟩=p:=by rw[hV,fU];exact xz w1 _ _ 4 rfl
 have Q6:Below w w C1:=HC.out.trans (((btr ae fu)).mono HC.out.size);have HV:=q4q (kA.keep fu) (kB.keep fu) (kM.keep fu) (kU.keep fu) Q6 hV fU;have ti:=kg v0 v1 v2 v3 v4;clear kA kB kM kU Q6 v0 v1 v2 v3 v4 fu hV fU ae;go_wp2_with fail;rw[<-HV.a5,<-HV.b6];refine(qbb HV.a3 d).mono ?_;rintro e w2 ⟨iv,rfl,hi,aj⟩;obtain⟨ia,ic,rfl⟩:=qj hi;have wR:nId U d=xn:=HH.a6.symm;rw[wR];have ah:((xn:Int) != (xn:Int))=false:=by simp
 have H2:=lhd aj;clear hi aj wR;go_wp2_with fail;refine(qdl _ z w2 (HH.a5.keep ((btr HV.a4 H2.out))) (by have:=HN.b4;omega)).mono ?_;rintro e w3 ⟨cv,rfl,dF,aw⟩;obtain⟨ca,cc,rfl⟩:=qj dF;have xD:z.length=xn:=HN.b4.symm;rw[xD]at dF ⊢;obtain⟨FL,pV⟩:=x4 w3.heap.size;obtain⟨W3,cH⟩:=x4 (w3.alloc (.cells #[p,xn,H φ 1,O ca xn cc] 30));have aA:Below w3 w3 W3:=by rw[cH];exact(q9).alloc (nlr _) _
 have g0:W3 FL=p:=by rw[cH,pV];exact xz w3 _ _ 0 rfl
 have g1:W3 ⟨FL,1,Z⟩=xn:=by rw[cH,pV];exact xz w3 _ _ 1 rfl
 have g2:W3 ⟨FL,2,Z⟩=H φ 1:=by rw[cH,pV];exact xz w3 _ _ 2 rfl
 have g3:W3 ⟨FL,3,Z⟩=O ca xn cc:=by rw[cH,pV];exact xz w3 _ _ 3 rfl
 have aV:Sl W3 1 (O ca xn cc) (ints (q3e z).flatten):=by rw[qfw];exact(Sl.qc dF).keep aA
 have F3:Below C1.heap.size C1 W3:=H2.out.trans (((btr aw aA)).mono H2.out.size);have H3:=kg aV F3 cH pV xD;have IM:=yt g0 g1 g2 g3;clear dF aw aA aV F3 cH pV xD g0 g1 g2 g3;go_wp2_with fail;rw[<-H3.a2,<-H3.a3];refine(q8x p xn 1 _ (q3e z).flatten W3 H3.out.1).mono ?_;rintro e w4 ⟨rfl,aN⟩;rw[show okM p xn 1 (q3e z).flatten=true from q3d HH.a4 HH.a7 (by omega) (by decide)];have sq:Below C1.heap.size C1 w4:=(btr H3.a1 aN);have FW:=J sq ti.out.1;have FX:=J sq ti.a1;have FY:=J sq ti.a2;have C0:=J sq ti.a3;have FZ:=J sq ti.b4;have g0:=J aN IM.out.1;have g1:=J aN IM.a1;have g2:=J aN IM.a2;have g3:=J aN IM.b3;have M7:=HV.a3.keep sq;have cp:=(vm HH.a4).1;have IP:nId U d=xn:=HH.a6.symm;have tG:Sl w4 1 (O ca xn cc) (ints (q3e z).flatten):=H3.out.1.keep aN;have kJ:∀w',Below w4 w4 w'->Calls Tryz.prog 37 #[I #[O ua un uc],d] w' fun e w2=>∃s,e=.returned (I #[(nId U (d-1):Nat),xn,s])/\Sl w2 2 s (wvs (qbi U d))/\Below w' w' w2:=fun w' hb=>by rw[<-IP];exact q6x (M7.keep hb) d (by omega) (gd (HN.out.1 _) (by decide)) (gd (HN.out.1 _) (by decide))
 have hMod:∀(w':δ) (s:ε),Sl w' 2 s (wvs (qbi U d))->Calls Tryz.prog 36 #[p,I #[(nId U (d-1):Nat),xn,s]] w' fun e w2=>∃x,e=.returned x/\FmV w2 x p (nId U (d-1)) xn (bdP p U d)/\Below w' w' w2:=fun w' s hs=>by rw[<-IP];refine qfo hs (qav cp U d) (q6y p U d) (fun x hx=>?_) HH.a4 (gd (HN.out.1 _) (by decide)) (gd (HN.out.1 _) (by decide));obtain⟨t,_,rfl⟩:=gj.1 hx;have h1:=qdv HH.a3.u ((q04 U d).getD (t%nId U d) 0) ((q04 U (d-1)).getD (t / nId U d) 0);have h2:=(vm HH.a4).2.1;unfold qac;omega
 have hMul:∀(w':δ) (y:ε),Below w4 w4 w'->FmV w' y p (nId U (d-1)) xn (bdP p U d)->Calls Tryz.prog 16 #[y,I #[p,xn,H φ 1,O ca xn cc]] w' fun e w2=>∃z',e=.returned (ψ #[z',τ true])/\FmV w2 z' p (nId U (d-1)) 1 (mulM p 1 (bdP p U d) (q3e z))/\Below w' w' w2/\∃q,bkT (ψ #[z',τ true])=Y q/\w'<=q/\q<w2:=fun w' y hb hy=>by obtain⟨s,rfl,hs,hF⟩:=hy;refine(qom p _ _ 1 s _ _ _ w' hs (tG.keep hb) HH.a4 hF HH.a7 (gd (HN.out.1 _) (by decide)) (by omega) (by omega)).mono ?_;rintro e w2 ⟨E,rfl,h1,h2,h3,h4⟩;exact⟨_,rfl,qbh h3 (q4t cp hF) (gd (HN.out.1 _) (by decide)) (by omega),h4,E,rfl,h1,h2⟩
 have H4:=yt sq M7 tG IP;have HM:=yh kJ hMod hMul;clear sq M7 tG cp IP kJ hMod hMul aN;go_wp2_with fail;obtain⟨kJ,hMod,hMul⟩:=HM.out
 go_cut [15,16]from 45 to 55 (fun x y wx=>∃q:Nat,x=σ q/\y=τ true/\Hid (BxV wx q (p) (nId U (d-1)) (1) (mulM p 1 (bdP p U d) (q3e z))/\w4<=q/\Below w4 w4 wx))
 case first =>
  rename_i At K2 hJ aQ;refine vf rfl (fun b i v w'=>match b,i with
   |false,0=>v=p
   |false,1=>v=σ (Y ⟨q8,3,Z⟩)
   |false,2=>v=I #[O ua un uc]
   |false,3=>v=d
   |false,4=>∃s,v=I #[(nId U (d-1):Nat),xn,s]/\Sl w' 2 s (wvs (qbi U d))
   |false,5=>FmV w' v p (nId U (d-1)) xn (bdP p U d)
   |false,6=>v=I #[p,xn,H φ 1,O ca xn cc]
   |false,7=>∃y,v=ψ #[y,τ true]/\FmV w' y (p) (nId U (d-1)) (1) (mulM p 1 (bdP p U d) (q3e z))
   |false,8=>∃y,v=ψ #[y,τ true]/\FmV w' y (p) (nId U (d-1)) (1) (mulM p 1 (bdP p U d) (q3e z))
   |false,9=>FmV w' v (p) (nId U (d-1)) (1) (mulM p 1 (bdP p U d) (q3e z))
   |false,10=>v=τ true
   |false,11=>q6r v w'/\∃q,v=σ (Y ⟨q,0,Z⟩)/\w4<=q
   |true,8=>∃y,v=ψ #[y,τ true]
   |true,10=>v=τ true
   |true,11=>∃q,v=σ (Y ⟨q,0,Z⟩)/\BxV w' q (p) (nId U (d-1)) (1) (mulM p 1 (bdP p U d) (q3e z))/\w4<=q
   |true,13=>v=τ true
   |_,_=>True) (fun i=>i == 7 || i == 11) bkT [(8,7),(9,8)] (gTk 9) (by kernel_rfl) 12 64 rfl (by kernel_rfl) (by kernel_rfl) (by decide) rfl ?keep ?step ?store ?done
  case keep =>
   intro b i v w1 w2 h hb
   match b,i,h with
   |false,0,h=>exact h
   |false,1,h=>exact h
   |false,2,h=>exact h
   |false,3,h=>exact h
   |false,4,⟨s,h1,h2⟩=>exact⟨s,h1,h2.keep hb⟩
   |false,5,h=>exact h.keep hb
   |false,6,h=>exact h
   |false,7,⟨y,h1,h2⟩=>exact⟨y,h1,h2.keep hb⟩
   |false,8,⟨y,h1,h2⟩=>exact⟨y,h1,h2.keep hb⟩
   |false,9,h=>exact h.keep hb
   |false,10,h=>exact h
   |false,11,⟨h1,h2⟩=>exact⟨h1.keep hb,h2⟩
   |false,i+12,h=>trivial
   |true,0,h=>trivial
   |true,1,h=>trivial
   |true,2,h=>trivial
   |true,3,h=>trivial
   |true,4,h=>trivial
   |true,5,h=>trivial
   |true,6,h=>trivial
   |true,7,h=>trivial
   |true,8,h=>exact h
   |true,9,h=>trivial
   |true,10,h=>exact h
   |true,11,⟨q,h1,h2,h3⟩=>exact⟨q,h1,h2.keep hb,h3⟩
   |true,12,h=>trivial
   |true,13,h=>exact h
   |true,i+14,h=>trivial
  case step =>
   intro i o ho aD ph b w' bU hbf hw hd ab hsz
   match i,ho,aD,bU,hbf,hd with
   |0,rfl,_,_,hbf,_ =>obtain rfl:=jb hbf;exact jo (.inl rfl) ⟨_,rfl,(zr qu ab 3),j7 q9 rfl rfl⟩
   |1,rfl,_,_,hbf,_ =>obtain rfl:=jb hbf;exact yb rfl (zr qu ab 12) (kj w' _ 3 (by decide)) ⟨_,rfl,rfl,j7 q9 rfl rfl⟩
   |2,rfl,_,_,hbf,hd =>obtain rfl:=jb hbf;exact jm rfl (zf hd 1) (vq (J hw C0)) ⟨_,rfl,rfl,j7 q9 rfl rfl⟩
   |3,rfl,_,_,hbf,_ =>obtain rfl:=jb hbf;exact jo (.inl rfl) ⟨_,rfl,(zr qu ab 2),j7 q9 rfl rfl⟩
   |4,rfl,_,_,hbf,hd =>
    obtain rfl:=jb hbf;have LP:b 48 V=I #[O ua un uc]:=(zf hd 2)
    have Fy:b 49 V=d:=(zf hd 3)
    exact q0e rfl #[I #[O ua un uc],d] (by rw[<-LP,<-Fy];simp[Act.eval]) ((kJ w' hw).mono fun e w2 ⟨s,h1,h2,h3⟩=>⟨_,h1,_,rfl,⟨s,rfl,h2⟩,j7 h3 rfl rfl⟩)
   |5,rfl,_,_,hbf,hd =>
    obtain rfl:=jb hbf;obtain⟨s4,M8,VH⟩:∃s,b 50 V=I #[(nId U (d-1):Nat),xn,s]/\Sl w' 2 s (wvs (qbi U d)):=zf hd 4;have EI:b 46 V=p:=(zf hd 0)
    have VI:b 50 V=I #[(nId U (d-1):Nat),xn,s4]:=M8;exact q0e rfl #[p,I #[(nId U (d-1):Nat),xn,s4]] (by rw[<-EI,<-VI];simp[Act.eval]) ((hMod w' s4 VH).mono fun e w2 ⟨x,h1,h2,h3⟩=>⟨_,h1,_,rfl,h2,j7 h3 rfl rfl⟩)
   |6,rfl,_,_,hbf,_ =>obtain rfl:=jb hbf;exact jm rfl (zr qu ab 14) (qah (J hw g0) (J hw g1) (J hw g2) (J hw g3)) ⟨_,rfl,rfl,j7 q9 rfl rfl⟩
   |7,rfl,_,_,hbf,hd =>
    obtain rfl:=jb hbf;have f51:FmV w' (b 51 V) p (nId U (d-1)) xn (bdP p U d):=zf hd 5;have Mm:b 52 V=I #[p,xn,H φ 1,O ca xn cc]:=(zf hd 6)
    exact q0e rfl #[b 51 V,I #[p,xn,H φ 1,O ca xn cc]] (by rw[<-Mm];simp[Act.eval]) ((hMul w' _ hw f51).mono fun e w2 ⟨y,h1,h2,h3,h4⟩=>⟨_,h1,_,rfl,⟨y,rfl,h2⟩,h3,fun _=>h4,fun c hc h=>absurd h ((by decide:∀c∈([(8,7),(9,8)] : List (Nat×Nat)),c.1≠7) c hc)⟩)
   |8,rfl,_,_,hbf,hd =>obtain rfl:=jb hbf;exact jo (.inl rfl) ⟨_,rfl,(zf hd 7),q9,fun h=>absurd h (by decide),fun c hc h=>by obtain rfl:c=(8,7):=(by decide:∀c∈([(8,7),(9,8)] : List (Nat×Nat)),c.1=8->c=(8,7)) c hc h;intro o' d' ik eT;obtain rfl:=osi ik;obtain rfl:=osi eT;rfl⟩
   |9,rfl,_,_,hbf,hd =>obtain rfl:=jb hbf;obtain⟨y,fM,fy⟩:∃y,b 45 V=ψ #[y,τ true]/\FmV w' y (p) (nId U (d-1)) (1) (mulM p 1 (bdP p U d) (q3e z)):=zf hd 8;exact q85 rfl fM rfl ⟨_,rfl,fy,q9,fun h=>absurd h (by decide),fun c hc h=>by obtain rfl:c=(9,8):=(by decide:∀c∈([(8,7),(9,8)] : List (Nat×Nat)),c.1=9->c=(9,8)) c hc h;intro o' d' ik eT;obtain rfl:=osi ik;obtain rfl:=osi eT;(show _=gTk 9 9 (b 45 V));rw[fM];rfl⟩
   |10,rfl,_,_,_,hd =>
    have fM:∃y,b 45 V=ψ #[y,τ true]:=by
     cases ph with
     |false=>obtain⟨y,h1,h2⟩:∃y,b 45 V=ψ #[y,τ true]/\FmV w' y (p) (nId U (d-1)) (1) (mulM p 1 (bdP p U d) (q3e z)):=zf hd 8;exact⟨y,h1⟩
     |true=>exact zf hd 8
    obtain⟨y,fM⟩:=fM;exact q85 rfl fM rfl ⟨_,rfl,(by cases ph <;> rfl),q9,(by simp),fun c hc h=>absurd h ((by decide:∀c∈([(8,7),(9,8)] : List (Nat×Nat)),c.1≠10) c hc)⟩
   |11,rfl,_,_,hbf,_ =>obtain rfl:=jb hbf;exact⟨rfl,gu _,vt _ rfl _ _ (q07 _) ⟨_,rfl,⟨q4h _,_,rfl,hw.size⟩,(q9).alloc (nlr _) _,(fun _=>⟨_,rfl,nlr _,by simp⟩),fun c hc h=>absurd h ((by decide:∀c∈([(8,7),(9,8)] : List (Nat×Nat)),c.1≠11) c hc)⟩⟩
   |12,ho,aD,bU,hbf,hd=>exact absurd rfl aD
   |13,rfl,_,bU,_,hd =>obtain rfl:=jb bU;have fL:b 55 V=τ true:=zf hd 10;exact jo (.inr rfl) ⟨_,rfl,fL,q9,(by simp),fun c hc h=>absurd h ((by decide:∀c∈([(8,7),(9,8)] : List (Nat×Nat)),c.1≠13) c hc)⟩
   |i+14,ho,aD,bU,hbf,hd =>have:i+14<14:=(gh.1 ho).1;omega
  case store =>
   intro o ho l b w' aP bW ag;obtain rfl:=osi ho;have fA:q6r (b 15 V) w'/\∃q,b 15 V=σ (Y ⟨q,0,Z⟩)/\w4<=q:=by have h1:=ag.fact 11 _ _ rfl rfl (aP 11 (by kernel_rfl));rw[bW]at h1;exact h1
   have f0:FmV w' (b 54 V) (p) (nId U (d-1)) (1) (mulM p 1 (bdP p U d) (q3e z)):=by have h1:=ag.fact 9 _ _ rfl rfl (aP 9 (by kernel_rfl));rw[bW]at h1;exact h1
   have fM:∃y,b 45 V=ψ #[y,τ true]/\FmV w' y (p) (nId U (d-1)) (1) (mulM p 1 (bdP p U d) (q3e z)):=by have h1:=ag.fact 8 _ _ rfl rfl (aP 8 (by kernel_rfl));rw[bW]at h1;exact h1
   have fD:=ag.apart 7 _ 53 11 _ 15 rfl rfl rfl rfl (aP 7 (by kernel_rfl)) (aP 11 (by kernel_rfl)) rfl rfl (by decide);have fx:b 45 V=gTk 9 8 (b 53 V):=ag.copy (8,7) (by simp) (aP 8 (by kernel_rfl)) _ _ _ _ rfl rfl rfl rfl;have fO:b 54 V=gTk 9 9 (b 45 V):=ag.copy (9,8) (by simp) (aP 9 (by kernel_rfl)) _ _ _ _ rfl rfl rfl rfl;obtain⟨y,fM,_⟩:=fM;have eC:b 53 V=ψ #[y,τ true]:=fx.symm.trans fM;have e0:b 54 V=y:=by rw[fO,fM];rfl
   rw[e0]at f0;obtain⟨s,rfl,hs,hF⟩:=f0;obtain⟨so,sn,sc,rfl⟩:=qg hs;obtain⟨⟨q,eA,hq,q0,q1,q2,q3,hz⟩,q',iC,dA⟩:=fA;have iW:q'=q:=by rw[eA]at iC;injection iC with e;injection e with e;injection e with e;exact e.symm
   rw[iW]at dA;rw[eC,eA]at fD;have ah:∀ad n c,O so sn sc=O (Y ad) n c->ad.block≠q:=fun ad n c e h=>by
    injection e with e;subst e
    exact fD (by show Y ad.block=Y q;rw[h])
   have z0:=hz 0;have z1:=hz 1;have z2:=hz 2;have z3:=hz 3;obtain⟨t0,t1,t2,t3⟩:=q1f q0 q1 q2 q3;refine⟨rfl,ju _ _ _ rfl _ _ eA e0 (vx q0 q1 q2 q3 hz) ⟨rfl,?_,by simp,fun i oi di hi eI hl=>?_⟩⟩
   ·exact jj ag.below dA _ _ _ _
   ·have h1:=ag.fact i oi di hi eI hl;rw[bW]at h1
    match i,hi,hl,h1 with
    |8,hi,hl,⟨y,h1,_⟩=>exact⟨y,h1⟩
    |10,hi,hl,h1=>exact h1
    |11,hi,hl,h1 =>obtain rfl:=osi hi;obtain rfl:=osi eI;rw[eA];refine⟨q,rfl,⟨_,_,_,t0 _ _ _ _,t1 _ _ _ _,t2 _ _ _ _,t3 _ _ _ _,?_,hF⟩,dA⟩;exact y8 (y8 (y8 (y8 hs _ _ ah) _ _ ah) _ _ ah) _ _ ah
    |13,hi,hl,h1=>have h2:=ag.cl 13 hl 12 (by kernel_rfl);rw[bW]at h2;cases h2
    |0,hi,hl,h1=>trivial
    |1,hi,hl,h1=>trivial
    |2,hi,hl,h1=>trivial
    |3,hi,hl,h1=>trivial
    |4,hi,hl,h1=>trivial
    |5,hi,hl,h1=>trivial
    |6,hi,hl,h1=>trivial
    |7,hi,hl,h1=>trivial
    |9,hi,hl,h1=>trivial
    |12,hi,hl,h1=>trivial
    |i+14,hi,hl,h1=>trivial
  case done =>intro b w2 hsz aO hf ab hw;obtain⟨q,gA,gB,gq⟩:∃q,b 15 V=σ (Y ⟨q,0,Z⟩)/\BxV w2 q (p) (nId U (d-1)) (1) (mulM p 1 (bdP p U d) (q3e z))/\w4<=q:=hf 11 _ _ rfl rfl;have gL:b 16 V=τ true:=hf 13 _ _ rfl rfl;refine aQ _ _ (Met.intro (hJ _ _ ⟨b 15 V,b 16 V,b 45 V,b 46 V,b 47 V,b 48 V,b 49 V,b 50 V,b 51 V,b 52 V,b 53 V,b 54 V,b 55 V,⟨q,gA,gL,(lhd ⟨gB,gq,hw⟩)⟩,(q8z hsz aO ab).trans ?_⟩));kernel_rfl
 case rest =>
  obtain⟨XW,rfl,rfl,H5⟩:=hcut;obtain⟨w5,nw⟩:=x4 wc;subst nw;obtain⟨za,zn,zk,y0,y1,y2,y3,hz,lH⟩:=H5.out.1
  replace FW:=J H5.b2 FW
  replace FX:=J H5.b2 FX
  replace FY:=J H5.b2 FY
  replace C0:=J H5.b2 C0
  replace FZ:=J H5.b2 FZ
  replace g0:=J H5.b2 g0
  replace g1:=J H5.b2 g1
  replace g2:=J H5.b2 g2
  replace g3:=J H5.b2 g3
  have HZ:=jg hz lH;clear hz lH kJ hMod hMul;obtain⟨nm,oy⟩:=x4 (nId U (d-1));rw[<-oy]at y1;have Q7:=lhd oy;clear oy;go_wp2_with fail;refine(qpd (r:=nm) ⟨_,rfl,HZ.out.1,by rw[Q7.out];exact HZ.out.2⟩ HH.a4 (by rw[Q7.out];exact gd (HN.out.1 _) (by decide)) (by decide)).mono ?_;rintro e w6 ⟨rfl,cQ⟩;rw[show q2r p 1 (mulM p 1 (bdP p U d) (q3e z))=0 from(qap HZ.out.2).2 fun n hn=>by simpa using gE.1 HN.a3 n hn]
  replace FW:=J cQ FW
  replace FX:=J cQ FX
  replace FY:=J cQ FY
  replace C0:=J cQ C0
  replace FZ:=J cQ FZ
  replace g0:=J cQ g0
  replace g1:=J cQ g1
  replace g2:=J cQ g2
  replace g3:=J cQ g3
  have It:Below C1.heap.size C1 w6:=H4.out.1.trans (((btr H5.b2 cQ)).mono H4.out.1.size);have BT:Below w4 w4 w6:=(btr H5.b2 cQ);have H6:=jg It BT;clear It BT cQ y0 y1 y2 y3;go_wp2_with fail;refine(qt1 (U:=U) (Bd:=q3e z) (m:=1) ⟨_,_,_,_,_,_,_,_,_,_,_,_,rfl,HV.out.1.keep H6.out.1,HV.a1.keep H6.out.1,HV.a2.keep H6.out.1,HV.a3.keep H6.out.1⟩ ⟨_,by rw[H4.b3];rfl,H4.a2.keep H6.out.2,HH.b8⟩ HH.a4 hd HN.a1 HN.a2 HN.out.1 (by omega) (HH.a3.au.ids HH.a3.a HH.a3.u _) (HH.a3.ma.ids HH.a3.m HH.a3.a _)).mono ?_;rintro e w7 ⟨y,rfl,hy,cq⟩;obtain⟨s7,rfl,lD,_⟩:=hy;obtain⟨ya,yc,rfl⟩:=qj lD;obtain⟨nl,mI⟩:=x4 (nId M (d-1)*1);rw[<-mI]at lD ⊢;obtain⟨nr,Hk⟩:=x4 (nId M (d-1));rw[<-Hk];have hf:=qu0 p nr 1 ya nl yc;have H7:=jg lD cq;clear lD cq FW FX FY C0 FZ g0 g1 g2 g3 mI Hk;go_wp2_with fail;go_ret2;exact⟨_,rfl,Sl.qc H7.out.1,HV.a4.trans (((btr H6.out.1 H7.out.2)).mono HV.a4.size)⟩
theorem qqj (id:Int)(hid:id=3\/id=4)(w:δ) :
  Calls Tryz.prog 20 #[id] w fun e w'=>∃v,e=.returned v/\Kx w' v (eg2 id)/\Below w w w':=by
 have HI:=lhd hid;clear hid;go_enter Tryz.func20,Tryz.ntmps20;go_wp2_with fail;have hs:=q8p (w.alloc (.cells #[O (w+1+1:Nat) 3 3] 36)) 54 2 [H φ 1,H φ (-1),H φ 2,H φ 1] 2 rfl (by unfold maxLen;omega);have hc:=q8p ((w.alloc (.cells #[O (w+1+1:Nat) 3 3] 36)).alloc (.cells #[H φ 1,H φ (-1),H φ 2,H φ 1] 54)) 52 3 [H φ 1,H φ 0,O Z 0 0,H φ 2,H φ 0,O Z 0 0,id,H φ 1,O (w+1:Nat) 2 2] 3 rfl (by unfold maxLen;omega);simp only [World.size_alloc]at hs hc;have l0:=qk (qk (xz w #[O (w+1+1:Nat) 3 3] 36 0 rfl) (.cells #[H φ 1,H φ (-1),H φ 2,H φ 1] 54)) (.cells #[H φ 1,H φ 0,O Z 0 0,H φ 2,H φ 0,O Z 0 0,id,H φ 1,O (w+1:Nat) 2 2] 52);obtain⟨l,hl⟩:∃l:List Ce,l=[⟨1,0,Z,0,0,[]⟩,⟨2,0,Z,0,0,[]⟩,⟨id,1,Y ⟨w+1,0,Z⟩,2,2,[⟨1,-1⟩,⟨2,1⟩]⟩]:=⟨_,rfl⟩
 have dF:l.map Ce.cl=eg2 id:=by rw[hl];rfl
 refine bodyPost_ret (v:=I #[O (w+1+1:Nat) 3 3]) (by simp[results,Tryz.results20,go_sem,l0]) rfl ⟨_,rfl,⟨l,_,rfl,⟨by rw[hl];exact hc,fun x hx=>?_⟩,by rw[hl];show 3<=8;omega,fun x hx=>?_,by rw[dF];exact qcz id HI.out,by rw[dF];exact qcy id HI.out⟩,(((q9).alloc (nlr _) _).alloc (by simp) _).alloc (by simp;omega) _⟩
 ·rw[hl]at hx;simp only [List.mem_cons,List.not_mem_nil,or_false]at hx;rcases hx with rfl|rfl|rfl
  ·exact Sl.nil _ _
  ·exact Sl.nil _ _
  ·exact hs.alloc _
 ·rw[hl]at hx;simp only [List.mem_cons,List.not_mem_nil,or_false]at hx;have h9:=HI.out;rcases hx with rfl|rfl|rfl
  ·exact⟨⟨(show I64 1 from by unfold I64;decide),(show I64 0 from by unfold I64;decide)⟩,gm _,fun s hs=>by cases hs⟩
  ·exact⟨⟨(show I64 2 from by unfold I64;decide),(show I64 0 from by unfold I64;decide)⟩,gm _,fun s hs=>by cases hs⟩
  ·refine⟨⟨?_,(show I64 1 from by unfold I64;decide)⟩,(show 2<=19 by omega),fun s hs=>?_⟩
   ·rcases h9 with h9|h9
    ·show I64 id;rw[h9];unfold I64;decide
    ·show I64 id;rw[h9];unfold I64;decide
   ·have hs:s∈([⟨1,-1⟩,⟨2,1⟩] : List Sd):=hs;simp only [List.mem_cons,List.not_mem_nil,or_false]at hs;rcases hs with rfl|rfl
    ·exact⟨(show I64 1 from by unfold I64;decide),(show I64 (-1)from by unfold I64;decide)⟩
    ·exact⟨(show I64 2 from by unfold I64;decide),(show I64 1 from by unfold I64;decide)⟩
theorem qqk (w:δ) :
  Calls Tryz.prog 9 #[] w fun e w'=>∃v u,e=.returned (ψ #[v,u])/\Kx w' v (eg2 3)/\Kx w' u (eg2 4)/\Below w.heap.size w w':=by
 go_enter Tryz.func9,Tryz.ntmps9;go_wp2_with fail;refine(qqj 3 (.inl rfl) _).mono ?_;rintro e w1 ⟨v,rfl,hv,ae⟩;obtain⟨a0,n0,k0,rfl⟩:=hv.shape;have HV:=jg hv ae;clear hv ae;go_wp2_with fail;refine(qqj 4 (.inr rfl) _).mono ?_;rintro e w2 ⟨v,rfl,hv,aj⟩;obtain⟨a1,n1,k1,rfl⟩:=hv.shape;have h1:=HV.out.1.keep aj;have dB:=HV.out.2.size;simp only [World.size_alloc]at dB;have Ga:Below w.heap.size w w1:=(((q9).alloc (nlr _) _).alloc (by simp) _).trans (HV.out.2.mono (by simp;omega));have Ic:=heap_alloc_new w (.cells #[O Z 0 0] 36);have Gb:((w.alloc (.cells #[O Z 0 0] 36)).alloc (.cells #[O Z 0 0] 36)).heap[w.heap.size]? =Y (.cells #[O Z 0 0] 36 (0,0)):=by have h2:Below (w.heap.size+1) (w.alloc (.cells #[O Z 0 0] 36)) ((w.alloc (.cells #[O Z 0 0] 36)).alloc (.cells #[O Z 0 0] 36)):=(q9).alloc (by simp) _;exact(h2.block w.heap.size (by omega)).trans Ic
 have Q8:((w.alloc (.cells #[O Z 0 0] 36)).alloc (.cells #[O Z 0 0] 36)).heap[w.heap.size+1]? =Y (.cells #[O Z 0 0] 36 (0,0)):=by have h2:=heap_alloc_new (w.alloc (.cells #[O Z 0 0] 36)) (.cells #[O Z 0 0] 36);simp only [World.size_alloc]at h2;exact h2
 have g0:w2.heap[w.heap.size]? =Y (.cells #[O Z 0 0] 36 (0,0)):=(aj.block _ (by omega)).trans ((HV.out.2.block _ (by simp;omega)).trans Gb);have g1:w2.heap[w.heap.size+1]? =Y (.cells #[O Z 0 0] 36 (0,0)):=(aj.block _ (by omega)).trans ((HV.out.2.block _ (by simp)).trans Q8);have x0:w2.cell? w.heap.size=Y (O Z 0 0):=by simp[World.cell?,g0]
 have x1:w2.cell? (w.heap.size+1:Nat)=Y (O Z 0 0):=by simp[World.cell?,g1]
 have z0:w2.frozen? w.heap.size=false:=jz g0 0;have z1:w2.frozen? (w.heap.size+1:Nat)=false:=jz g1 0;have M9:∀(u:δ) (q:Nat),u.heap[q]? =Y (.cells #[O Z 0 0] 36 (0,0))->∀p x,p.block=q->u.cell? p=Y x->Zl x:=fun u q hq p x e h=>by
  obtain⟨b,o,s⟩:=p;have e:b=q:=e;subst e;unfold World.cell? at h;simp only [hq]at h;cases s with
  |some s=>simp at h
  |none =>
   match o,h with
   |0,h=>simp at h;exact .inl h.symm
   |n+1,h=>simp at h
 have ag:∀(u:δ) (q:Nat) (x:ε) {y:ε} {K:List Cl},u.heap[q]? =Y (.cells #[O Z 0 0] 36 (0,0))->Kx u y K->Kx (u.setCell q x) y K:=fun u q x y K hq hk=>hk.zero (M9 u q hq) fun p v hp hv=>xe hv hp
 have uP:(w2.setCell w.heap.size (O a0 n0 k0)).heap[w.heap.size+1]? =Y (.cells #[O Z 0 0] 36 (0,0)):=by rw[Below.heap_setCell _ _ _ _ (by show w.heap.size+1≠w.heap.size;omega)];exact g1
 have Q9:=ag _ _ (O a1 n1 k1) uP (ag w2 _ (O a0 n0 k0) g0 h1);have mM:=ag _ _ (O a1 n1 k1) uP (ag w2 _ (O a0 n0 k0) g0 hv);have hB:Below w.heap.size w w2:=Ga.trans (aj.mono (by omega));have HF:=yh Q9 mM hB;clear h1 dB Ga Ic Gb Q8 g0 g1 M9 ag uP Q9 mM hB hv aj;go_wp2_with fail;have t0:((w2.setCell w.heap.size (O a0 n0 k0)).setCell (w.heap.size+1:Nat) (O a1 n1 k1)).cell? w.heap.size=Y (O a0 n0 k0):=x8 (World.cell?_setCell_same' _ _ _ (by rw[x0];rfl)) (by simp);have t1:((w2.setCell w.heap.size (O a0 n0 k0)).setCell (w.heap.size+1:Nat) (O a1 n1 k1)).cell? (w.heap.size+1:Nat)=Y (O a1 n1 k1):=World.cell?_setCell_same' _ _ _ (by rw[x8 x1 (by simp)];rfl);refine bodyPost_ret (v:=ψ #[I #[O a0 n0 k0],I #[O a1 n1 k1]]) (by simp[results,Tryz.results9,go_sem,t0,t1]) rfl ⟨_,_,rfl,HF.out.1,HF.a1,(HF.b2.setCell (p:=w.heap.size) (nlr _) _).setCell (p:=(w.heap.size+1:Nat)) (by show w.heap.size<=w.heap.size+1;omega) _⟩
theorem qvb {P:Nat}(n:Nat)(w:δ)(hp:prN P=true)(h0:n≠0)(hn:n<P) :
  Calls Tryz.prog 98 #[n,P] w fun e w'=>e=.returned (ovN P n:Nat)/\Below w w w':=by
 obtain⟨o1,o2,o3,_⟩:=q6t hp h0 hn;have iR:P<=997:=(yi.1 hp).2.1;have jL:2<=P:=(yi.1 hp).1;obtain⟨y,hy⟩:=x4 (ovN P n);rw[<-hy]at o1 o2 o3 ⊢;have hu:∀k,k<P->n*k%P=1->k=y:=fun k hk h=>qhz hk o2 h o3
 have HU:=jg hu o3;clear hu o3 hp hy;go_enter Tryz.func98,Tryz.ntmps98;go_wp2;go_loopw [5] (fun x wr=>∃k:Nat,x=k/\1<=k/\k<=y/\Below w w wr) (fun x _=>998-(vI x).toNat)
 case atStart=>exact⟨1,rfl,nlr _,o1,q9⟩
 case round =>
  obtain⟨k,rfl,cJ,rp,hB⟩:=hrel;have JR:(k:Int)<P:=by omega
  have Cd:n*k<=997*997:=Nat.mul_le_mul (by omega) (by omega);have PW:IntKind.i64.wrap ((n:Int)*(k:Int))=((n*k:Nat):Int):=kd (by omega) (by omega);have hm:=qd0 (n*k) P;have Km:¬((P:Int)=0):=by omega
  have SF:((P:Int) == 0)=false:=by simpa using Km
  have XX:IntKind.i64.wrap ((k:Int)+1)=((k+1:Nat):Int):=IntWalk.i64_in _ (by omega);obtain⟨q,hq⟩:=x4 (n*k);rw[<-hq]at PW hm;obtain⟨t,ht⟩:=x4 (q%P);rw[<-ht]at hm;have XY:t<P:=by rw[ht];exact Nat.mod_lt _ (by omega)
  by_cases pW:k=y
  ·have C2:t=1:=by rw[ht,hq,pW];exact HU.out.2
   subst C2;clear hq ht
   replace hm:(q:Int).tmod (P:Int)=1:=hm
   have HK:=lhd pW;clear pW;go_wp2;go_ret;exact⟨by rw[HK.out];rfl,hB⟩
  ·have C2:¬t=1:=fun e=>pW (HU.out.1 k (by omega) (by rw[<-hq,<-ht];exact e))
   have fP:((t:Int) == 1)=false:=by simp;omega
   have dE:¬((t:Int)=1):=by omega
   have HK:=lhd pW;clear hq ht pW;go_wp2;go_roundw
   case measure=>simp[vI];omega
   case rel=>exact⟨k+1,rfl,by omega,by have:=HK.out;omega,hB⟩
theorem qnr (w:δ)(ty:TypeId)(q:Nat)(ad:Addr)(n c:Nat)(l:List Int)(hn:n=l.length)(h0:0<n)(hl:n<=1000000)(hc:∀j u,(ints l)[j]? =Y u->w (ad.add j)=Y u) :
  (Builtin.append_ #[23,23] ty #[O q 0 0,O (Y ad) n c]).run Tryz.prog w=(Builtin.append_ #[23,23] ty #[O Z 0 0,O (Y ad) n c]).run Tryz.prog w:=by
 obtain⟨i,hi,dv,dB,de⟩:=info_parts Tryz.xg;rw[run_append_grow (P:=Tryz.prog) (w:=w) 23 ty 3 i _ Tryz.underlying23 hi dv q 0 0 [] (by simp) (fun j v h=>by simp at h) ad n c (ints l) (by rw[xl,dB];omega) hc (by omega) (by omega) (by rw[Nat.zero_add,nextslicecap_zero h0,de];omega),
  run_append_nil (P:=Tryz.prog) (w:=w) 23 ty 3 i _ Tryz.underlying23 hi dv ad n c (ints l) (by rw[xl,dB];omega) hc h0 (by omega) (by rw[de];omega)]
 simp
theorem qsg {Q:Exit->Act->δ->Prop}{o:Oper}{a:Act}{w:δ}{K:Act->δ->Prop}(s x:Operand)(aX:o.op=.call { callee:=.builtin .append,args:=#[s,x],argTypes:=#[23,23] })(q:Nat)(hs:a.eval s=O q 0 0)(u:ε)(l:List Int)(hx:a.eval x=u)(hu:Sl w 1 u (ints l))(hl:l.length<=1000000)
  (h:∀v' w',Below w.heap.size w w'->(l=[]/\v'=O (Y ⟨q,0,Z⟩) 0 0/\w'=w\/∃E c,v'=O (Y ⟨E,0,Z⟩) l.length c/\w.heap.size<=E/\E<w'.heap.size/\0<l.length/\l.length<=c/\c<=maxLen/\IL w' E l)->K (a.put o.dst v') w'):Oper.wp Tryz.prog o a w K Q:=by
 obtain⟨i,hi,dv,dB,de⟩:=info_parts Tryz.xg;obtain⟨ad,n,c,rfl,h2,h3,h4,h5,h6⟩:=hu;rw[xl,gK]at h4;have hn:n=l.length:=by omega
 rcases Nat.eq_zero_or_pos n with h0|h0
 ·subst h0;have iV:l=[]:=gl hn.symm;have bP:(Builtin.append_ #[23,23] o.type #[O q 0 0,O ad 0 c]).run Tryz.prog w=.ok (O q 0 0) w:=by
   refine run_append_nothing w _ _ _ _ i Tryz.underlying23 hi _ 0 0 (nlr _) _ ?_;cases ad with
   |none=>exact Src.ofNil w Tryz.underlying23 c
   |some ad=>exact Src.ofSlice w Tryz.underlying23 ad 0 c [] (by simp) (fun j u h=>by simp at h) (fun u h=>by cases h)
  unfold Oper.wp;simp[execOp,aX,resolve,invoke,builtin,hs,hx,bP,Result.andThen];exact h _ _ q9 (.inl ⟨iV,rfl,rfl⟩)
 ·obtain⟨ad,rfl⟩:=sadq h5 (by omega)
  have hc:∀j u,(ints l)[j]? =Y u->w (ad.add j)=Y u:=fun j u hj=>h6 ad rfl j u hj
  obtain⟨v',w',bP,af,hg,_⟩:=run_append_own (P:=Tryz.prog) w w 23 o.type 3 i _ 1 8 Tryz.underlying23 hi dv dB de rfl (by decide) (O Z 0 0) 0 [] (World.ownsRow_nil _ _ _ _) ad n c (ints l) (by rw[xl];omega) hc (q65 _) (by unfold maxLen;omega) (by omega) (nlr _);have hb:Below w w w':=(Below.refl _ w).grown hg (nlr _) (fun k e=>by cases e);have o8:=(qnr w o.type q ad n c l hn h0 (by omega) hc).trans bP;unfold Oper.wp;simp[execOp,aX,resolve,invoke,builtin,hs,hx,o8,Result.andThen];rw[Nat.zero_add,List.nil_append]at af;obtain⟨E,c2,e1,e2,e3,e4,e5,e6⟩:=qgm af h0;exact h _ _ hb (.inr ⟨E,c2,by rw[<-hn];exact e1,e2,e3,by omega,by omega,e5,e6⟩)
theorem qql {w w':δ}{base q:Nat}{v':ε}{l:List Int}(hq:base<=q/\q<w)(bQ:base<=w)(h:l=[]/\v'=O q 0 0/\w'=w\/∃E c,v'=O (Y ⟨E,0,Z⟩) l.length c/\w<=E/\E<w'/\0<l.length/\l.length<=c/\c<=maxLen/\IL w' E l):RwI w' base l.length v' l:=by
 rcases h with ⟨rfl,rfl,rfl⟩|⟨E,c,rfl,h1,h2,_,h4,h5,h6⟩
 ·exact .inr ⟨q,0,rfl,hq.1,hq.2,nlr _,by unfold maxLen;omega,rfl,fun i n hi=>by simp at hi⟩
 ·exact .inr ⟨E,c,rfl,by omega,h2,h4,h5,rfl,h6⟩
end Go.Proofs.YtmkpbhaoalbhjaaGreatDoor
namespace Go.Cx
def SN (p:Int)(j:Nat)(M:List (List Int))(a i k:Nat):List (List Int):=(M.set i (kt (zm M a) (zm M i) k)).set a (kt (ye p j (zm M i)) (zm M a) k)
theorem qsh {l:List Int}{k:Nat}(h:k<l.length):l.set k (j6 l k)=l:=by
 refine List.ext_getElem? fun j=>?_
 rw[List.getElem?_set];by_cases hj:k=j
 ·subst hj;rw[if_pos rfl,if_pos h,q09 h]
 ·rw[if_neg hj]
section
variable {p:Int}{r m:Nat}{M:List (List Int)}{j a i:Nat}
theorem qsi (ha:a<M.length)(hi:i<M.length):SN p j M a i 0=M:=by unfold SN;rw[q17,q17,q23 hi,q23 ha]
theorem qlz (hp:0<p)(h:FM p r m M)(ha:a<r)(hi:i<r)(k:Nat):FM p r m (SN p j M a i k):=by obtain⟨a1,a2,_⟩:=h.row ha;obtain⟨b1,b2,_⟩:=h.row hi;obtain⟨n1,n2⟩:=q2k hp j (zm M i);exact(h.set i (by rw[q1p (by omega)];exact b1) (q6d a2 b2 k)).set a (by rw[q1p (by omega)];exact a1) (q6d n2 a2 k)
theorem qm0 (h:FM p r m M)(ha:a<r)(hi:i<r)(k:Nat):zm (SN p j M a i k) a=kt (ye p j (zm M i)) (zm M a) k/\(a≠i->zm (SN p j M a i k) i=kt (zm M a) (zm M i) k):=by unfold SN;refine⟨yl (by rw[List.length_set,h.len];exact ha),fun ah=>?_⟩;rw[q11 ah,yl (by rw[h.len];exact hi)]
theorem qvc (hp:0<p)(h:FM p r m M)(ha:a<r)(hi:i<r){k:Nat}(hk:k<m):(SN p j M a i k).flatten[a*m+k]? =Y (j6 (zm M a) k)/\(SN p j M a i k).flatten[i*m+k]? =Y (j6 (zm M i) k):=by
 have hF:=qlz (j:=j) hp h ha hi k;obtain⟨ir,cE⟩:=qm0 (j:=j) h ha hi k;have la:=(h.row ha).1;have li:=(h.row hi).1;have ln:=(q2k hp j (zm M i)).1;have e1:(SN p j M a i k).flatten[a*m+k]? =Y (j6 (zm M a) k):=by rw[flat_get hF.wid (by rw[hF.len];exact ha) hk,ir,q3h (by omega) (by omega)]
 refine⟨e1,?_⟩;by_cases jO:a=i
 ·subst jO;exact e1
 ·rw[flat_get hF.wid (by rw[hF.len];exact hi) hk,cE jO,q3h (by omega) (by omega)]
theorem qu1 (hp:0<p)(h:FM p r m M)(ha:a<r)(hi:i<r){k:Nat}(hk:k<m):((SN p j M a i k).flatten.set (i*m+k) (j6 (zm M a) k)).set (a*m+k) (j6 (ye p j (zm M i)) k)=(SN p j M a i (k+1)).flatten:=by
 have hF:=qlz (j:=j) hp h ha hi k;obtain⟨ir,cE⟩:=qm0 (j:=j) h ha hi k;have la:=(h.row ha).1;have li:=(h.row hi).1;have ln:=(q2k hp j (zm M i)).1;by_cases jO:a=i
 ·subst jO;have e:(zm (SN p j M a a k) a).set k (j6 (zm M a) k)=zm (SN p j M a a k) a:=by have h1:=q3h (new:=ye p j (zm M a)) (old:=zm M a) (by omega) (j:=k) (by omega);rw[ir,<-h1];exact qsh (by rw[q1p (by omega)];omega)
  rw[q1r _ hF.wid (by rw[hF.len];exact ha) hk,e,q23 (by rw[hF.len];exact ha),q1r _ hF.wid (by rw[hF.len];exact ha) hk,ir,q2t (by omega) (by omega)]
  congr 1
  unfold SN;rw[List.set_set,List.set_set,List.set_set]
 ·rw[q1r _ hF.wid (by rw[hF.len];exact hi) hk,cE jO,q2t (by omega) (by omega)];have mM:=hF.set i (x:=kt (zm M a) (zm M i) (k+1)) (by rw[q1p (by omega)];exact li) (q6d (h.row ha).2.1 (h.row hi).2.1 _);rw[q1r _ mM.wid (by rw[mM.len];exact ha) hk,q11 (Ne.symm jO),ir,q2t (by omega) (by omega)]
  congr 1
  unfold SN;refine List.ext_getElem? fun t=>?_
  simp only [List.getElem?_set,List.length_set];by_cases h1:a=t
  ·subst h1;simp
  ·by_cases h2:i=t
   ·subst h2;simp[h1]
   ·simp[h1,h2]
theorem qsj (hp:0<p)(h:FM p r m M)(ha:a<r)(hi:i<r):SN p j M a i m=(q0f M a i).set a (ye p j (zm (q0f M a i) a)):=by
 have la:=(h.row ha).1;have li:=(h.row hi).1;have ln:=(q2k hp j (zm M i)).1;unfold SN;rw[q26 la li,q26 (by omega) la];have e:zm (q0f M a i) a=zm M i:=by
  unfold q0f;by_cases jO:a=i
  ·subst jO;rw[yl (by rw[List.length_set,h.len];exact ha)]
  ·rw[q11 (Ne.symm jO),yl (by rw[h.len];exact ha)]
 rw[e];unfold q0f;refine List.ext_getElem? fun t=>?_
 simp only [List.getElem?_set,List.length_set];by_cases h1:a=t
 ·subst h1;simp
 ·simp[h1]
end
