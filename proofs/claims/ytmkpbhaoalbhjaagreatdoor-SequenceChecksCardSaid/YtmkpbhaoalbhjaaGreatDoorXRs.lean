/- Steps towards SequenceChecks. Conditions: none. -/
import Derived.Test.YtmkpbhaoalbhjaaGreatDoorXRr
set_option maxRecDepth 1000000
set_option maxHeartbeats 0
open Go.Value renaming slice→O,agg→I,pointer→σ,bool→τ,int→H,tuple→ψ,string→ω
open Option renaming none→Z,some→Y
open Go renaming undef→V,World→δ,Value→ε
open Go.IntKind renaming i64→φ
open Go.Cx renaming keep→J
namespace Go.Cx
open Go.RowKit Go.Proofs.YtmkpbhaoalbhjaaGreatDoor
theorem qnj {A:List Cl}(G:Good A){c d:Int}(h:Relation.TransGen (q87 A) c d):∃y∈A,y.id=d:=by
 cases h with
 |single h=>obtain⟨_,_,y,hy,_,e,_⟩:=G.step h;exact⟨y,hy,e⟩
 |tail _ h=>obtain⟨_,_,y,hy,_,e,_⟩:=G.step h;exact⟨y,hy,e⟩
end Go.Cx
namespace Go.Proofs.YtmkpbhaoalbhjaaGreatDoor
open Go.RowKit Go.Cx Go.Maps
attribute [local go_sem ↓] Go.wp_at_zero Go.wp_at_succ
theorem qq5 {w:δ}{p q:Addr}(h:w p=σ (Y q)):(Instr.loadAt 91 (σ (Y p))).run Tryz.prog w=.ok (σ (Y q)) w:=by simp[go_sem,h]
structure MtB (w:δ)(S T p5 p6 BA BB nA nB:Nat)(mA mB:List Ce):Prop where
 c5:w p5=σ S
 c6:w p6=σ T
 a1:w S=Value.map (Y BA)
 e1:w T=Value.map (Y BB)
 a3:Mp Tryz.prog 3 w BA nA (gOf mA)
 e3:Mp Tryz.prog 3 w BB nB (gOf mB)
 a6:∀x∈mA,Sl w 2 x.sl (cat Sd.enc x.s)
 e6:∀x∈mB,Sl w 2 x.sl (cat Sd.enc x.s)
theorem MtB.keep {w w':δ}{S T p5 p6 BA BB nA nB:Nat}{mA mB:List Ce}(h:MtB w S T p5 p6 BA BB nA nB mA mB)(hb:Below w w w'):MtB w' S T p5 p6 BA BB nA nB mA mB :=
 ⟨J hb h.c5,J hb h.c6,J hb h.a1,J hb h.e1,h.a3.keep hb,h.e3.keep hb,fun x hx=>(h.a6 x hx).keep hb,fun x hx=>(h.e6 x hx).keep hb⟩
theorem qs6 {m:List Ce}(c:Int):(m.map Ce.cl).find? (fun y=>y.id == c)=(m.find? fun x=>x.id == c).map Ce.cl:=by
 induction m with
 |nil=>rfl
 |cons x m ih =>have e:(x.cl.id == c)=(x.id == c):=rfl;rw[bx,List.find?_cons,List.find?_cons,e,ih];cases x.id == c <;> rfl
theorem qiv {m:List Ce}(c:Int):(∃y,y∈m/\y.id=c/\gOf m c=Y y.v/\(m.map Ce.cl).find? (fun z=>z.id == c)=Y y.cl)\/(gOf m c=Z/\(m.map Ce.cl).find? (fun z=>z.id == c)=Z):=by
 unfold gOf;rw[qs6];cases hf:m.find? fun x=>x.id == c with
 |none=>exact .inr ⟨rfl,rfl⟩
 |some y=>exact .inl ⟨y,gR hf,by simpa using List.find?_some hf,rfl,rfl⟩
theorem qs7 {w:δ}{S T p5 p6 BA BB nA nB:Nat}{mA mB:List Ce}(h:MtB w S T p5 p6 BA BB nA nB mA mB)(GA:Cx.Good (mA.map Ce.cl))(DA:Cx.Dm (mA.map Ce.cl))(L2:∀x∈mA,I64 x.id)(x:Ce)(hx:x∈mA) :
  Calls Tryz.prog 77 #[x.v,σ p5,σ p6] w fun e w'=>e=.returned (τ ((q3x (mA.map Ce.cl) x.cl.dim.toNat x.id).all (agree (mA.map Ce.cl) (mB.map Ce.cl))))/\Below w w w':=by
 have fs:x.cl∈mA.map Ce.cl:=gj.2 ⟨x,hx,rfl⟩;have kE:=L2 x hx;have HH:=kp h GA DA L2 hx fs;have ee:x.id∈mA.map Ce.id:=gj.2 ⟨x,hx,rfl⟩;have c5:=fun o=>qk h.c5 o
 clear h GA DA L2 hx fs;rw[show x.v=I #[x.id,x.dim,O x.a x.n x.c]from rfl];have aA:Below w w ((w.alloc (.cells #[x.id,x.dim,O x.a x.n x.c] 52)).alloc (.cells #[x.id] 3)):=((q9).alloc (nlr _) _).alloc (by simp) _;have aV:Sl ((w.alloc (.cells #[x.id,x.dim,O x.a x.n x.c] 52)).alloc (.cells #[x.id] 3)) 1 (O (w+1:Nat) 1 1) (ints [x.id]):=by
  refine⟨_,_,_,rfl,nlr _,by unfold maxLen;omega,rfl,fun e=>(by cases e),fun ad bR j u hj=>?_⟩;cases bR
  match j,hj with
  |0,hj =>obtain rfl:=osi hj;have:=qd (w.alloc (.cells #[x.id,x.dim,O x.a x.n x.c] 52)) #[x.id] 3 (0,0) 0;simp only [World.size_alloc]at this;exact this
  |j+1,hj=>cases hj
 have dF:=qni (T:=S) (m:=mA) x.id _ _ HH.a1 (J aA HH.out.1.a1) (HH.out.1.a3.keep aA) (fun y hy=>(HH.out.1.a6 y hy).keep aA) HH.a3 ee aV;obtain⟨AL,I5⟩:=x4 (mA.map Ce.cl);obtain⟨BL,L3⟩:=x4 (mB.map Ce.cl);rw[<-I5,<-L3];rw[<-I5]at dF;have ob:=jg I5 L3;have Bo:=jg dF aA;clear dF aA aV ee I5 L3;go_enter Tryz.func77,Tryz.ntmps77;go_wp2_with fail;refine Bo.out.1.mono ?_;rintro e w1 ⟨SE,kS,s,rfl,dL,hs,cJ,ae⟩;have fC:Below w w w1:=(btr Bo.out.2 ae);obtain⟨D,af,hD⟩:=dL;have uq:=int_keyed (P:=Tryz.prog) (k:=3) Tryz.underlying3;have HX:=yh hD hs fC;clear hD hs cJ ae fC Bo c5;go_wp2_with (first
  |(at_range;refine wpList_range_own _ rfl _ 125 rfl 3 4 uq Tryz.underlying125 hld SE kS D rfl af ?_;intro wq jW kR dg)
  |fail)
 go_frame
 obtain⟨r,hr⟩:=x4 w1.heap.size;rw[<-hr]at jW ⊢;have Ap:Below w1 w1 wq:=⟨kR.os,kR.tape,kR.output,kR.size,fun b hb=>kR.block b hb (by simp)⟩
 have aT:Below w w wq:=(btr HX.b2 Ap);have rH:w<=r:=by rw[hr];exact HX.b2.size
 have lY:=lhd aT;clear af kR dg Ap aT hr;go_loopw [5,6,7] (fun _ _ _ wr=>∃(left:Lit->Bool) (cnt:Nat),wr.ranges Tryz.prog 3 hld SE r kS D left cnt/\Hid (∀d,s d=true->left (.int .i64 d)=false->agree AL BL d=true)/\Hid (Below w w wr)) (fun _ _ _ wr=>wr.rangeLeft SE r)
 case atStart =>
  refine⟨_,_,jW,(lhd (fun d hd hl=>?_)),lY⟩;have h1:=(HX.out.1 d).1;have h2:(sG s d).isSome=true:=by unfold sG;rw[if_pos hd];rfl
  rw[hl,h2]at h1;cases h1
 case round =>
  clear jW;obtain⟨left,cnt,lL,HF,HB⟩:=hrel;have yU:=lhd lL;go_wp2_with (first
   |(at_next;refine wpList_next_ranges _ rfl _ rfl 3 uq hld (H φ) (fun v:ε=>v) (fun key kl av=>by obtain⟨x,rfl,_⟩:=Maps.keyOf_int_inv Tryz.underlying3 av;exact⟨x,rfl⟩) (fun v y _=>⟨v,rfl⟩) SE r kS D left cnt rfl lL ?_ ?_)
   |fail)
  ·intro lO iV;have Lb:=lhd iV;clear lO iV lL;go_wp2_with fail;go_ret;refine⟨?_,HB.out⟩;have ao:(q3x AL x.cl.dim.toNat x.id).all (agree AL BL)=true:=gE.2 fun d hd=>by have eT:=(qcu (by rw[ob.out.1];exact HH.a1) (by rw[ob.out.1];exact HH.a2) (by rw[ob.out.1];exact HH.b5) d).1 hd;exact HF.out d ((HX.a1 d).2 eT) (Lb.out _)
   rw[ao];rfl
  ·intro nx cv kl y1 y2 w2 ur av eh hv bY mz ak fp cU ru;obtain⟨x',oU,rfl,yV⟩:=Maps.keyOf_int_inv Tryz.underlying3 av;have wR:nx=x':=by injection oU
   subst wR;have lv:y1=.held cv:=by have:hld cv=Y (.held cv,[]):=rfl;rw[this]at hv;injection hv with hv;injection hv with hv _;exact hv.symm
   subst lv;have fq:=(show Hg D (sG s)from HX.out.1).qh3 bY;have qB:s nx=true:=by
    unfold sG at fq;by_cases h:s nx=true
    ·exact h
    ·rw[if_neg h]at fq;cases fq
   have uH:I64 nx:=by simp[Lit.wf,IntKind.min,IntKind.max,IntKind.bits,IntKind.signed]at yV;unfold I64;omega
   have yX:(Instr.entry (σ r)).run Tryz.prog w2=.ok (ψ #[nx,cv]) w2:=ru;have aI:Below w w w2:=HB.out.grown fp HB.out.size (fun k e=>by cases e;omega);have HM:=lhd (HH.out.1.keep aI);have mC:=yh mz ak aI;have c5:=HM.out.c5;have c6:=HM.out.c6;have a1:=HM.out.a1;have e1:=HM.out.e1;have dC:∃y∈AL,y.id=nx:=by
    rcases (HX.a1 nx).1 qB with h|h
    ·exact⟨x.cl,by rw[ob.out.1];exact HH.b5,h.symm⟩
    ·exact qnj (by rw[ob.out.1];exact HH.a1) h
   obtain⟨z,hz,U3,PD,PE⟩:∃z,z∈mA/\z.id=nx/\gOf mA nx=Y z.v/\AL.find? (fun y=>y.id == nx)=Y z.cl:=by
    rcases qiv (m:=mA) nx with h|⟨_,h⟩
    ·rw[<-ob.out.1]at h;exact h
    ·exfalso
     obtain⟨y,hy,vJ⟩:=dC;rw[<-ob.out.1]at h;have:=List.find?_eq_none.1 h y hy;simp[vJ]at this
   have qO:∀w',Below w2 w2 w'->(Instr.lookup 88 (.map (Y BA)) nx false).run Tryz.prog w'=.ok (I #[z.id,z.dim,O z.a z.n z.c]) w':=fun w' hb=>by have:=(HM.out.a3.keep hb).look (e:=52) Tryz.underlying3 Tryz.underlying88 (zeroCell w') (yx uH);rw[this,PD];rfl
   have lq:=(HM.out.e3.qgy (e:=52) Tryz.underlying3 Tryz.underlying88 (zeroCell w2) (yx uH))
   have HZ:=kg qO hz PE qB uH;clear av eh hv bY mz ak fq oU yV ru lL fp cU aI dC hz U3 PD PE qO qB uH;rcases qiv (m:=mB) nx with ⟨y,hy,vJ,hg,A8⟩|⟨hg,A8⟩
   ·rw[<-ob.out.2]at A8;rw[hg]at lq
    replace lq:(Instr.lookup 88 (.map (Y BB)) nx true).run Tryz.prog w2=.ok (ψ #[I #[y.id,y.dim,O y.a y.n y.c],τ true]) w2:=lq
    have EL:agree AL BL nx=clB z.cl y.cl:=by unfold agree;rw[HZ.a2,A8]
    have HY:=jg hy EL;clear hg hy vJ A8 EL;go_wp2_with fail;obtain⟨wy,pL⟩:=x4 (w2.alloc (.cells #[y.id,y.dim,O y.a y.n y.c] 52));obtain⟨p7,uX⟩:=x4 w2.heap.size;have iO:Below w2 w2 wy:=by rw[pL];exact(q9).alloc (nlr _) _
    have d0:wy p7=y.id:=by rw[pL,uX];exact xz w2 _ _ 0 rfl
    have d1:wy ⟨p7,1,Z⟩=y.dim:=by rw[pL,uX];exact xz w2 _ _ 1 rfl
    have d2:wy ⟨p7,2,Z⟩=O y.a y.n y.c:=by rw[pL,uX];exact xz w2 _ _ 2 rfl
    rw[<-pL,<-uX];clear pL uX;have qO:=fun w' (hb:Below wy wy w')=>HZ.out.1 w' ((btr iO hb))
    replace c5:=J iO c5
    replace a1:=J iO a1
    obtain⟨zz,BK⟩:=x4 (clB z.cl y.cl);have qP:=jg iO BK;clear iO BK;refine qp4 fun KO cD=>?_
    go_cut [39]from 27 to 38 (fun x wx=>x=τ (!zz)/\Hid (Below wy wy wx))
    case first =>
     rename_i At K2 hJ aQ;refine q0m rfl (fun i v w'=>match i with
      |0=>v=τ true
      |1=>v=τ false
      |2=>v=τ false
      |3=>v=σ S
      |4=>v=σ S
      |5=>v=σ S
      |6=>v=.map (Y BA)
      |7=>v=nx
      |8=>v=I #[z.id,z.dim,O z.a z.n z.c]
      |9=>v=I #[y.id,y.dim,O y.a y.n y.c]
      |10=>v=τ zz
      |11=>v=τ (!zz)
      |12=>v=τ (!zz)
      |_=>True) 40 rfl (by kernel_rfl) (by kernel_rfl) ?keep ?step ?done
     case keep =>
      intro i v w1 w2 h hb
      match i,h with
      |0,h=>exact h
      |1,h=>exact h
      |2,h=>exact h
      |3,h=>exact h
      |4,h=>exact h
      |5,h=>exact h
      |6,h=>exact h
      |7,h=>exact h
      |8,h=>exact h
      |9,h=>exact h
      |10,h=>exact h
      |11,h=>exact h
      |12,h=>exact h
      |i+13,h=>trivial
     case step =>
      intro i o ho b w' hw hd ab hsz
      match i,ho,hd with
      |0,rfl,hd =>exact⟨rfl,q1b _ (.inl rfl) ⟨_,rfl,(zr qu ab 7),q9⟩⟩
      |1,rfl,hd =>exact⟨rfl,q3g _ _ _ rfl _ (zf hd 0) _ rfl ⟨_,rfl,rfl,q9⟩⟩
      |2,rfl,hd =>exact⟨rfl,q1b _ (.inl rfl) ⟨_,rfl,(zf hd 1),q9⟩⟩
      |3,rfl,hd =>exact⟨gwf 2 29 (zf hd 2),q8o _ _ rfl _ (zr qu ab 1) _ (qq5 (J hw c5)) ⟨_,rfl,rfl,q9⟩⟩
      |4,rfl,hd =>exact⟨gwf 2 29 (zf hd 2),q4j _ rfl _ (zf hd 3) ⟨_,rfl,rfl,q9⟩⟩
      |5,rfl,hd =>exact⟨gwf 2 29 (zf hd 2),q8b _ _ _ rfl _ (zf hd 4) _ (qag w' _ 0 (by decide)) ⟨_,rfl,rfl,q9⟩⟩
      |6,rfl,hd =>exact⟨gwf 2 29 (zf hd 2),q8o _ _ rfl _ (zf hd 5) _ (q6z _ _ _ (J hw a1)) ⟨_,rfl,rfl,q9⟩⟩
      |7,rfl,hd =>exact⟨gwf 2 29 (zf hd 2),q1b _ (.inl rfl) ⟨_,rfl,(zr qu ab 5),q9⟩⟩
      |8,rfl,hd =>exact⟨gwf 2 29 (zf hd 2),qiu _ _ _ _ rfl _ _ _ (zf hd 6) (zf hd 7) (qO w' hw) ⟨_,rfl,rfl,q9⟩⟩
      |9,rfl,hd =>exact⟨gwf 2 29 (zf hd 2),q8o _ _ rfl _ (zr qu ab 6) _ (qit (x:=y) (J hw d0) (J hw d1) (J hw d2)) ⟨_,rfl,rfl,q9⟩⟩
      |10,rfl,hd =>
       have L4:b 35 V=I #[z.id,z.dim,O z.a z.n z.c]:=(zf hd 8)
       have EM:b 36 V=I #[y.id,y.dim,O y.a y.n y.c]:=(zf hd 9)
       exact⟨gwf 2 29 (zf hd 2),qdj _ _ _ rfl (fun _ _=>rfl) #[I #[z.id,z.dim,O z.a z.n z.c],I #[y.id,y.dim,O y.a y.n y.c]] (by rw[<-L4,<-EM];simp[Act.eval]) ((qpf z y w' (((HM.out.a6 z HZ.a1).keep qP.out.1).keep hw) (((HM.out.e6 y HY.out.1).keep qP.out.1).keep hw)).mono fun e w2 ⟨h1,h2⟩=>⟨τ zz,by rw[h1,qP.out.2],_,rfl,rfl,h2⟩)⟩
      |11,rfl,hd =>exact⟨gwf 2 29 (zf hd 2),q3g _ _ _ rfl _ (zf hd 10) _ rfl ⟨_,rfl,rfl,q9⟩⟩
      |12,rfl,hd =>exact⟨rfl,q29 _ _ _ rfl (zf hd 2) ⟨_,rfl,(zf hd 11),q9⟩⟩
      |i+13,ho,hd =>have:i+13<13:=(gh.1 ho).1;omega
     case done =>intro b w2 hsz aO hf ab hw;have U4:b 39 V=τ (!zz):=hf 12 _ _ rfl rfl;refine aQ _ _ (Met.intro (hJ _ _ ⟨b 27 V,b 28 V,b 29 V,b 30 V,b 31 V,b 32 V,b 33 V,b 34 V,b 35 V,b 36 V,b 37 V,b 38 V,b 39 V,⟨U4,(lhd hw)⟩,(q8z hsz aO ab).trans ?_⟩));kernel_rfl
    case rest =>
     obtain⟨rfl,H7⟩:=hcut;refine cD _ _ ?_;have kI:Below w2 w2 wc:=(btr qP.out.1 H7.out);have dh:=jg kI ((btr mC.b2 kI));have EN:wc.ranges Tryz.prog 3 hld SE r kS D (fun z=>left z && !z.sameKey (.int .i64 nx)) ur:=mC.out.1.kept (q1y kI none) (by simp) (by simp);have tM:=lhd EN;clear kI EN;cases hz:zz with
     |true =>
      have HT:=lhd hz;clear hz;go_wp2_with fail;go_roundw
      case measure=>rw[tM.out.left_eq,yU.out.left_eq];exact mC.a1
      case rel =>
       refine⟨_,_,tM.out,(lhd (fun d hd hl=>?_)),(lhd dh.out.2)⟩;by_cases kD:d=nx
       ·rw[kD,HY.out.2,<-qP.out.2];exact HT.out
       ·have:(Lit.int .i64 d).sameKey (.int .i64 nx)=false:=by simp[Lit.sameKey,kD]
        rw[this]at hl;exact HF.out d hd (by simpa using hl)
     |false =>
      have HT:=lhd hz;clear hz;go_wp2_with fail;go_ret;refine⟨?_,dh.out.2⟩;have ao:(q3x AL x.cl.dim.toNat x.id).all (agree AL BL)=false:=by rw[List.all_eq_false];exact⟨nx,(qcu (by rw[ob.out.1];exact HH.a1) (by rw[ob.out.1];exact HH.a2) (by rw[ob.out.1];exact HH.b5) nx).2 ((HX.a1 nx).1 HZ.a3),by rw[HY.out.2,<-qP.out.2,HT.out];exact Bool.false_ne_true⟩
      rw[ao];rfl
   ·rw[<-ob.out.2]at A8;rw[hg]at lq
    replace lq:(Instr.lookup 88 (.map (Y BB)) nx true).run Tryz.prog w2=.ok (ψ #[I #[H φ 0,H φ 0,O Z 0 0],τ false]) w2:=lq
    have EL:agree AL BL nx=false:=by unfold agree;rw[HZ.a2,A8]
    have HY:=lhd EL;have fw:Below w2 w2 ((w2.alloc (.cells #[H φ 0,H φ 0,O Z 0 0] 52))):=(q9).alloc (nlr _) _;clear hg A8 EL;go_wp2_with fail
    go_quiet (fail)
    go_wp2;go_ret;refine⟨?_,qb (mC.b2.alloc mC.b2.size _) nq⟩;have ao:(q3x AL x.cl.dim.toNat x.id).all (agree AL BL)=false:=by rw[List.all_eq_false];exact⟨nx,(qcu (by rw[ob.out.1];exact HH.a1) (by rw[ob.out.1];exact HH.a2) (by rw[ob.out.1];exact HH.b5) nx).2 ((HX.a1 nx).1 HZ.a3),by rw[HY.out];exact Bool.false_ne_true⟩
    rw[ao];rfl
def qbc (v:ε)(w:δ):Prop:=∃q,v=σ (Y ⟨q,0,Z⟩)/\w.heap[q]? =Y (.cells #[σ Z] 91 (0,0))
theorem qbc.keep {v:ε}{w w':δ}(h:qbc v w)(hb:Below w w w'):qbc v w':=by obtain⟨q,h0,h1⟩:=h;exact⟨q,h0,(hb.block q (gh.1 h1).1).trans h1⟩
theorem qbd (w:δ):(Instr.alloc 91 true (ψ #[])).run Tryz.prog w=.ok (σ w) (w.alloc (.cells #[σ Z] 91)):=by simp[go_sem]
theorem qfr (w:δ):qbc (σ w) (w.alloc (.cells #[σ Z] 91)):=⟨_,rfl,heap_alloc_new w _⟩
theorem qbe {w:δ}{q:Nat}{ad:Addr}{x0:ε}(q0:w q=Y x0)(hz:w.frozen? q=false):(Instr.storeAt 91 (σ q) (σ (Y ad))).run Tryz.prog w=.ok () (w.setCell q (σ (Y ad))):=by simp[go_sem,q0,hz]
theorem qlq {w:δ}{q:Nat}(hq:w.heap[q]? =Y (.cells #[σ Z] 91 (0,0))):w q=σ Z/\w.frozen? q=false:=⟨by simp[World.cell?,hq],jz hq 0⟩
theorem qq6 {w:δ}{q:Nat}(hq:w.heap[q]? =Y (.cells #[σ Z] 91 (0,0))){p:Addr}{u:ε}(h:w p=Y u)(hu:u≠σ Z):p.block≠q:=by
 intro e;obtain⟨b,o,s⟩:=p;subst e;unfold World.cell? at h;simp only [hq]at h;cases s with
 |some s=>simp at h
 |none =>
  cases o with
  |zero=>simp at h;exact hu h.symm
  |succ o=>simp at h
theorem q5e.tp {w:δ}{T q:Nat}{K:List Cl}(h:q5e w T K)(hq:w.heap[q]? =Y (.cells #[σ Z] 91 (0,0)))(x:ε):q5e (w.setCell q x) T K:=by
 obtain⟨B,nB,vv,m,h1,h2,h3,h4,h5,h6,h7⟩:=h;have key:∀ {st:Nat} {v:ε} {xs:List ε},(∀u∈xs,u≠σ Z)->Sl w st v xs->Sl (w.setCell q x) st v xs:=fun {st v xs} hx hs=>by obtain⟨a',n',c',rfl,e2,e3,e4,e5,e6⟩:=hs;exact⟨_,_,_,rfl,e2,e3,e4,e5,fun ad bR j u hj=>xe (e6 ad bR j u hj) (qq6 hq (e6 ad bR j u hj) (hx u (gi hj)))⟩
 obtain⟨va,vn,vc,rfl⟩:=qg h4;have hB:B≠q:=by obtain⟨D,⟨es,clock,hh,_⟩,_⟩:=h3;intro e;rw[e,hq]at hh;cases hh
 refine⟨B,nB,_,m,xe h1 (qq6 hq h1 (by simp)),xe h2 (qq6 hq h2 (by simp)),h3.setCell (a:=q) hB x,key (fun u hu=>?_) h4,h5,fun y hy=>key (fun u hu=>?_) (h6 y hy),h7⟩
 ·obtain⟨c,_,rfl⟩:=gj.1 hu;simp
 ·intro e;subst e;unfold cat at hu;obtain⟨z,_,hz⟩:=List.mem_flatMap.1 hu;simp[Sd.enc]at hz
theorem qnk {m:List Ce}(h:Asc (m.map Ce.cl)):xb Ce.id m=m:=by have e1:=q63 (key:=Ce.id) (key':=Cl.id) Ce.cl (fun _=>rfl) m;rw[q08 h]at e1;refine(q62 (key:=Ce.id) m).eq_of_length ?_;have:=congrArg List.length e1;simpa using this.symm
theorem qtw {w:δ}{v u:ε}{A B M:List Cl}(h:Kx w v A)(k:Kx w u B)(hM:qky A B=M)(hc:Cx.chk M=(0,0))(PF:canon M=M) :
  Calls Tryz.prog 48 #[v,u] w fun e w'=>∃y,e=.returned y/\Kx w' y M/\Below w w w':=by
 obtain⟨a,an,ac,rfl⟩:=h.shape;obtain⟨c,cn,cc,rfl⟩:=k.shape;have HH:=kg h k hM hc PF;clear h k hM hc PF;go_enter Tryz.func48,Tryz.ntmps48;go_wp2_with fail;obtain⟨W,hW⟩:=x4 (((w.alloc (.cells #[O a an ac] 36)).alloc (.cells #[O c cn cc] 36)).alloc (.cells #[O Z 0 0] 36));rw[<-hW];have hw:Below w w W:=by rw[hW];exact(((q9).alloc (nlr _) _).alloc (by simp) _).alloc (by simp;omega) _
 have b2:W w=O a an ac:=by rw[hW];exact qk (qk (xz w _ _ 0 rfl) _) _
 have b3:W (w+1:Nat)=O c cn cc:=by rw[hW];exact qk (zx w _ _ _ 0 rfl) _
 have b4:W (w+1+1:Nat)=O Z 0 0:=by rw[hW];exact jw w _ _ _ _ 0 rfl
 have z4:W.frozen? (w+1+1:Nat)=false:=by rw[hW];exact q1e w _ _ _ _ 0
 have aG:W.heap.size=w+3:=by rw[hW];simp
 have HW:=kp hw (HH.out.1.keep hw) (HH.a1.keep hw) b4 z4 aG;clear hW hw b4 z4 aG;refine qp4 fun KO cD=>?_
 go_cut [5,6]from 7 to 10 (fun x y wx=>∃q r S T:Nat,x=σ q/\y=σ r/\Hid (wx q=σ S/\wx r=σ T/\q5e wx S A/\q5e wx T B/\Below W W wx))
 case first =>
  rename_i At K2 hJ aQ;refine q01 rfl (fun i v w'=>match i with
   |0=>v=I #[O a an ac]
   |1=>∃T,v=σ (Y ⟨T,0,Z⟩)/\q5e w' T A
   |2=>v=I #[O c cn cc]
   |3=>∃T,v=σ (Y ⟨T,0,Z⟩)/\q5e w' T B
   |4=>qbc v w'/\∃q,v=σ (Y ⟨q,0,Z⟩)/\W<=q
   |5=>qbc v w'/\∃q,v=σ (Y ⟨q,0,Z⟩)/\W<=q
   |_=>True) (fun i=>i == 4 || i == 5) bkQ [] (fun _ v=>v) (by kernel_rfl) 6 20 14 rfl (by kernel_rfl) (by kernel_rfl) (by kernel_rfl) ?keep ?step ?mid
  case keep =>
   intro i v w1 w2 h hb
   match i,h with
   |0,h=>exact h
   |1,⟨T,h1,h2⟩=>exact⟨T,h1,h2.keep hb⟩
   |2,h=>exact h
   |3,⟨T,h1,h2⟩=>exact⟨T,h1,h2.keep hb⟩
   |4,⟨h1,h2⟩=>exact⟨h1.keep hb,h2⟩
   |5,⟨h1,h2⟩=>exact⟨h1.keep hb,h2⟩
   |i+6,h=>trivial
  case step =>
   intro i o ho aD b w' hw hd ab hsz
   match i,ho,hd with
   |0,rfl,_ =>exact jm rfl (zr je ab 2) (q10 (J hw b2)) ⟨_,rfl,rfl,j7 q9 rfl rfl⟩
   |1,rfl,hd =>
    have g7:b 7 V=I #[O a an ac]:=(zf hd 0)
    exact q0e rfl #[I #[O a an ac]] (by rw[<-g7];simp[Act.eval]) ((qng (HW.a1.keep hw)).mono fun e w2 ⟨T,h1,h2,_,h3⟩=>⟨_,h1,_,rfl,⟨T,rfl,h2⟩,j7 h3 rfl rfl⟩)
   |2,rfl,_ =>exact jm rfl (zr je ab 3) (q10 (J hw b3)) ⟨_,rfl,rfl,j7 q9 rfl rfl⟩
   |3,rfl,hd =>
    have g9:b 9 V=I #[O c cn cc]:=(zf hd 2)
    exact q0e rfl #[I #[O c cn cc]] (by rw[<-g9];simp[Act.eval]) ((qng (HW.a2.keep hw)).mono fun e w2 ⟨T,h1,h2,_,h3⟩=>⟨_,h1,_,rfl,⟨T,rfl,h2⟩,j7 h3 rfl rfl⟩)
   |4,rfl,_ =>exact⟨rfl,gu _,vt _ rfl _ _ (qbd _) ⟨_,rfl,⟨qfr _,_,rfl,hw.size⟩,(q9).alloc (nlr _) _,(fun _=>⟨_,rfl,nlr _,by simp⟩),fun c hc=>absurd hc gP⟩⟩
   |5,rfl,_ =>exact⟨rfl,gu _,vt _ rfl _ _ (qbd _) ⟨_,rfl,⟨qfr _,_,rfl,hw.size⟩,(q9).alloc (nlr _) _,(fun _=>⟨_,rfl,nlr _,by simp⟩),fun c hc=>absurd hc gP⟩⟩
   |i+6,ho,hd =>omega
  case mid =>
   intro b9 w2 hsz aO hf ab hw fD _;obtain⟨S,e8,k1⟩:∃T,b9 8 V=σ (Y ⟨T,0,Z⟩)/\q5e w2 T A:=hf 1 _ _ rfl rfl (by decide);obtain⟨T,U5,k2⟩:∃T,b9 10 V=σ (Y ⟨T,0,Z⟩)/\q5e w2 T B:=hf 3 _ _ rfl rfl (by decide);obtain⟨⟨q,e6,c6⟩,q',xP,tV⟩ : qbc (b9 5 V) w2/\∃q,b9 5 V=σ (Y ⟨q,0,Z⟩)/\W<=q:=hf 4 _ _ rfl rfl (by decide);obtain⟨⟨r,e7,c7⟩,r',E8,uM⟩ : qbc (b9 6 V) w2/\∃q,b9 6 V=σ (Y ⟨q,0,Z⟩)/\W<=q:=hf 5 _ _ rfl rfl (by decide);obtain rfl:q'=q:=by rw[e6]at xP;injection xP with e;injection e with e;injection e with e;exact e.symm
   obtain rfl:r'=r:=by rw[e7]at E8;injection E8 with e;injection e with e;injection e with e;exact e.symm
   have ah:=fD 4 _ 5 5 _ 6 rfl rfl rfl rfl (by decide) (by decide) rfl rfl (by decide);rw[e6,e7]at ah;have ah:q'≠r':=fun e=>ah (by rw[e])
   obtain⟨PG,z6⟩:=qlq c6;have xQ:(w2.setCell q' (σ S)).heap[r']? =Y (.cells #[σ Z] 91 (0,0)):=(Below.heap_setCell _ _ _ _ (by exact ah.symm)).trans c7;obtain⟨I6,z7⟩:=qlq xQ;refine⟨fun k a1 w1=>a1=b9/\w1=(match k with|0=>w2|1=>w2.setCell q' (σ S)|_=>(w2.setCell q' (σ S)).setCell r' (σ T)),⟨rfl,rfl⟩,fun k o ho a1 w1 h1=>?_,fun a1 w1 h1=>?_⟩
   ·match k,ho,h1 with
    |0,ho,⟨h1,h2⟩ =>subst h1 h2;obtain rfl:=osi ho;exact⟨rfl,ju _ _ _ rfl _ _ e6 e8 (qbe PG z6) ⟨rfl,rfl⟩⟩
    |1,ho,⟨h1,h2⟩ =>subst h1 h2;obtain rfl:=osi ho;exact⟨rfl,ju _ _ _ rfl _ _ e7 U5 (qbe I6 z7) ⟨rfl,rfl⟩⟩
    |k+2,ho,h1 =>have:6+(k+2)<8:=(gh.1 ho).1;omega
   ·obtain⟨rfl,h2⟩:=h1;obtain rfl:w1=(w2.setCell q' (σ S)).setCell r' (σ T):=h2;refine aQ _ _ (Met.intro (hJ _ _ ⟨a1 5 V,a1 6 V,a1 7 V,a1 8 V,a1 9 V,a1 10 V,⟨q',r',S,T,e6,e7,(lhd ⟨x8 (World.cell?_setCell_same' _ _ _ (by rw[PG];rfl)) (fun e=>ah (congrArg Addr.block e)),World.cell?_setCell_same' _ _ _ (by rw[I6];rfl),(k1.tp c6 _).tp xQ _,(k2.tp c6 _).tp xQ _,(hw.setCell tV _).setCell uM _⟩)⟩,(q8z hsz aO fun s hs=>ab s fun i o _ ho=>hs i o ho).trans ?_⟩));kernel_rfl
 case rest =>
  obtain⟨q,r,S,T,rfl,rfl,H1⟩:=hcut;refine cD _ _ ?_;obtain⟨BA,nA,vA,mA,a1,a2,a3,a4,a5,a6,a7⟩:=H1.a2;obtain⟨BB,nB,vB,mB,e1,e2,e3,e4,e5,e6,e7⟩:=H1.a3;have GA:Cx.Good (mA.map Ce.cl):=by rw[a5];exact HH.out.1.q1v
  have L6:xb Ce.id mA=mA:=qnk GA.asc;have eW:mA.length<=4000:=by have:=HH.out.1.q1v.len;rw[<-a5,gp]at this;exact this
  have L7:=qnd S BA nA vA mA 77 #[σ q,σ r] (fun x=>(q3x (mA.map Ce.cl) x.cl.dim.toNat x.id).all (agree (mA.map Ce.cl) (mB.map Ce.cl))) wc a1 a2 a3 (by rw[L6];exact a4) (by omega) (fun x hx=>(a7 x hx).1.1) (fun _ _=>rfl)
   (fun C1 hV x hx=>qs7 ((MtB.mk H1.out.1 H1.a1 a1 e1 a3 e3 a6 e6).keep hV) GA (by rw[a5];exact HH.out.1.dm) (fun y hy=>(a7 y hy).1.1) x hx)
  rw[L6]at L7;have q5:=H1.out.1;have HO:=kp L7 a5 e5 a6 a7 eW;clear L7 L6 GA a1 a2 a3 a4 a5 a6 a7 e1 e2 e3 e4 e5 e6 e7 eW b2 b3;go_wp2_with fail;refine HO.out.1.mono ?_;rintro e wf ⟨rr,rfl,cE,hbf⟩;obtain⟨l,hl⟩:=x4 (mA.filter fun x=>(q3x (mA.map Ce.cl) x.cl.dim.toNat x.id).all (agree (mA.map Ce.cl) (mB.map Ce.cl)));rw[<-hl]at cE;obtain⟨ra,rc,rfl⟩:=qj cE;have bW:∀x∈l,x∈mA:=fun x hx=>by rw[hl]at hx;exact(gS.1 hx).1
  have PH:l.map Ce.cl=M:=by have h1:=HH.a2;unfold qky at h1;rw[<-h1,hl,<-HO.a1,<-HO.a2,List.filter_map];rfl
  have vL:Below W W wf:=(btr H1.b4 hbf);have lp:w.heap.size+1+1<W:=by have:=HW.b5;omega
  have g4:=J vL HW.a3;have z4:=xf vL lp HW.a4;obtain⟨rn,mU⟩:=x4 l.length;rw[<-mU];have HR:=q4q cE bW PH vL lp mU hbf;clear cE bW PH vL lp mU hbf hl;go_wp2_with fail;have e4:(wf.setCell (w+1+1:Nat) (O ra rn rc)) (w+1+1:Nat)=O ra rn rc:=World.cell?_setCell_same' _ _ _ (by rw[g4];rfl);refine bodyPost_ret (v:=I #[O ra rn rc]) (by simp[results,Tryz.results48,go_sem,e4]) rfl ⟨_,rfl,?_,((btr HW.out.1 HR.a3)).setCell (by show w.heap.size<=w+1+1;omega) _⟩;have fF:wf (w+1+1:Nat)=O Z 0 0:=g4;have U6:l.length<=8:=by have h1:=(q4v.1 HH.a3).1;rw[<-HR.a2,gp]at h1;exact h1
  have PI:Kx wf (I #[O ra l.length rc]) M:=⟨l,_,rfl,⟨Sl.qc HR.out.1,fun x hx=>(HO.a3 x (HR.a1 x hx)).keep HR.b6⟩,U6,fun x hx=>HO.a4 x (HR.a1 x hx),by rw[HR.a2];exact HH.a3,by rw[HR.a2];exact HH.b4⟩
  rw[<-HR.a5]at PI;exact PI.box fF
end Go.Proofs.YtmkpbhaoalbhjaaGreatDoor
namespace Go.Proofs.YtmkpbhaoalbhjaaGreatDoor
open Go.RowKit Go.Cx
attribute [local go_sem ↓] Go.wp_at_zero Go.wp_at_succ
theorem VG.at {w:δ}{q b2 m oc k:Nat}{oa:Option Addr}{L:List Wr}(h:VG w q b2 (O oa m oc) L)(hk:k<L.length) :
  ∃ad x,oa=Y ad/\L[k]? =Y x/\w (ad.add k)=O x.a x.n x.k/\Sl w 2 (O x.a x.n x.k) (wvs x.l):=by
 obtain⟨_,_,h3,h4,h5⟩:=(Sl.qc h.own).open;rw[gp]at h3;obtain⟨x,hx⟩:∃x,L[k]? =Y x:=⟨_,gg hk⟩
 obtain⟨ad,rfl⟩:=sadq h4 (by omega)
 exact⟨ad,x,rfl,hx,h5 ad rfl k _ (by rw[List.getElem?_map,hx];rfl),(h.im x (gi hx)).1⟩
theorem qtx {w:δ}{a:Option Addr}{n c j:Nat}{l:List Int}(h:Sl w 2 (O a n c) (wvs l))(hj:j<l.length) :
  ∃rd v,a=Y rd/\l[j]? =Y v/\w (rd.add (j*2))=τ (decide (v<0))/\w ⟨(rd.add (j*2)).block,(rd.add (j*2)).off+1,Z⟩=ω (mg v):=by
 obtain⟨_,_,h3,h4,h5⟩:=h.open;rw[q2j]at h3;obtain⟨v,hv⟩:∃v,l[j]? =Y v:=⟨_,gg hj⟩
 obtain⟨rd,rfl⟩:=sadq h4 (by omega)
 obtain⟨e0,e1⟩:=q7p l j v hv;refine⟨rd,v,rfl,hv,h5 rd rfl _ _ e0,?_⟩;rw[qi _ _ _ (by omega)];exact h5 rd rfl _ _ e1
theorem qv7 {w:δ}{q b2:Nat}{o:ε}{L:List Wr}{n m:Nat}(h:VG w q b2 o L)(hm:L.length=m)(hn:∀x∈L,x.l.length=n)(bZ:n<=200)(dE:m<=200) :
  Calls Tryz.prog 121 #[σ q,n] w fun e w'=>∃E:Nat,e=.returned (I #[n,m,O E (n*m) (n*m)])/\w<=E/\EW w' E (n*m) (fun t=>((L.map Wr.l).getD (t%m) []).getD (t / m) 0)/\Below w w w':=by
 have af:=h.own;rw[hm]at af;obtain⟨oa,oc,ho⟩:=qj af;subst ho;have q0:=h.c0;have HX:=yh h hm hn;have xU:q<w:=World.block_lt_of_cell? w _ q0;clear h hm hn af;go_enter Tryz.func121,Tryz.ntmps121;go_wp2_with fail;obtain⟨W,hW⟩:=x4 (w.alloc (.cells #[H φ 0,H φ 0,O Z 0 0] 75));rw[<-hW];have c0:W w=H φ 0:=by rw[hW];exact qd w _ _ (0,0) 0
 have c1:W ⟨w,1,Z⟩=H φ 0:=by rw[hW];exact qd w _ _ (0,0) 1
 have c2:W ⟨w,2,Z⟩=O Z 0 0:=by rw[hW];exact qd w _ _ (0,0) 2
 have z0:W.frozen? w=false:=by rw[hW];exact jz (heap_alloc_new w _) 0
 have z1:W.frozen? ⟨w,1,Z⟩=false:=by rw[hW];exact jz (heap_alloc_new w _) 1
 have z2:W.frozen? ⟨w,2,Z⟩=false:=by rw[hW];exact jz (heap_alloc_new w _) 2
 have hw:Below w w W:=by rw[hW];exact(q9).alloc (nlr _) _
 have ak:w.heap.size<W:=by rw[hW];simp
 have HC:=q5h c0 c1 c2 z0 z1 z2 hw ak;clear hW c0 c1 c2 z0 z1 z2 hw ak;refine(qqn n m _ bZ dE).mono ?_;rintro e w1 ⟨E,rfl,dr,dN,nW,ae⟩;have HZ:=jg nW ae;clear nW ae;obtain⟨N,hN⟩:=x4 (n*m);have DY:N<=40000:=by rw[hN];exact gd (Nat.mul_le_mul bZ dE) (by decide)
 rw[<-hN]at HZ ⊢;have fb:=lhd hN;clear hN;by_cases sB:N=0
 ·have DY:((N:Int) == 0)=true:=by simpa using sB
  have iJ:=HC.b7;have aF:=HZ.out.2;have r0:∀o,(w1.alloc o) w=H φ 0:=fun o=>qk (J aF HC.out.1) o
  have r1:∀o,(w1.alloc o) ⟨w,1,Z⟩=H φ 0:=fun o=>qk (J aF HC.a1) o
  have r2:∀o,(w1.alloc o) ⟨w,2,Z⟩=O Z 0 0:=fun o=>qk (J aF HC.a2) o
  have f0:∀o,(w1.alloc o).frozen? w=false:=fun o=>xf (aF.alloc aF.size o) iJ HC.a3
  have f1:∀o,(w1.alloc o).frozen? ⟨w,1,Z⟩=false:=fun o=>xf (aF.alloc aF.size o) iJ HC.a4
  have f2:∀o,(w1.alloc o).frozen? ⟨w,2,Z⟩=false:=fun o=>xf (aF.alloc aF.size o) iJ HC.a5
  have sC:=yh sB aF iJ;clear sB aF iJ;go_wp2_with fail;obtain⟨e0,e1,e2⟩:=qds (r0 (.cells #[n,m,O E N N] 75)) (r1 _) (r2 _);have aT:Below w w (w1.alloc (.cells #[n,m,O E N N] 75)):=((btr HC.a6 sC.a1)).alloc (by have:=HC.a6.size;have:=sC.a1.size;omega) _;have TC:=HC.a6.size;refine bodyPost_ret (v:=I #[n,m,O E N N]) (by simp[results,Tryz.results121,go_sem,e0,e1,e2]) rfl ⟨E,by rw[fb.out],by omega,?_,q28 aT (nlr _) _ _ _⟩;rw[<-fb.out,sC.out.1];exact fun i hi=>absurd hi (Nat.not_lt_zero _)
 have DY:((N:Int) == 0)=false:=by simpa using sB
 clear sB;have q1:w1 q=O oa m oc:=J HZ.out.2 (J HC.a6 q0);have U7:∀o,(w1.alloc o) q=O oa m oc:=fun o=>qk q1 o
 go_wp2_with fail;clear U7;obtain⟨W5,dZ⟩:=x4 (w1.alloc (.cells #[n,m,O E N N] 75));rw[<-dZ];have b0:W5 w1=n:=by rw[dZ];exact qd w1 _ _ (0,0) 0
 have b1:W5 ⟨w1,1,Z⟩=m:=by rw[dZ];exact qd w1 _ _ (0,0) 1
 have EO:W5 ⟨w1,2,Z⟩=O E N N:=by rw[dZ];exact qd w1 _ _ (0,0) 2
 have mW:Below w1 w1 W5:=by rw[dZ];exact(q9).alloc (nlr _) _
 have bT:EW W5 E N (fun _=>0):=HZ.out.1.keep mW dN;have dG:Below W W W5:=(btr HZ.out.2 mW);have HB:=kp b0 b1 EO bT dG (J mW q1);have aL:w1≠E:=by omega
 have PJ:q≠E:=by have:=HC.b7;omega
 have jQ:W<=E:=dr;have Cj:Below w w W5:=(btr HC.a6 dG);have L8:=lhd Cj;clear b0 b1 EO bT dG mW dZ q1 Cj;obtain⟨F,hF⟩:∃F:Nat->Int,F=fun t=>((L.map Wr.l).getD (t%m) []).getD (t / m) 0:=⟨_,rfl⟩
 have HF:=lhd hF;clear hF q0;go_loopw [6,7,27] (fun _ _ y wr=>∃k:Nat,y=k/\k<=m/\Hid (EW wr E N (fun t=>if t%m<k then F t else 0))/\Hid (Kp E W5 wr)/\Hid (Below W W wr)) (fun _ _ y _=>m-(vI y).toNat)
 case atStart=>exact⟨0,rfl,gm _,(lhd (HB.a3.congr fun i _=>by simp)),(lhd (Kp.refl _ _)),(lhd HB.a4)⟩
 case round =>
  obtain⟨k,rfl,hk,HE,HK,lY⟩:=hrel;by_cases cd:k<m
  ·have cV:(k:Int)<m:=by omega
   obtain⟨ad,x,iH,hx,d0,hs⟩:=HX.out.1.at (k:=k) (by rw[HX.a1];exact cd);subst iH;have hlen:x.n=n:=by rw[qlo hs,HX.b2 x (gi hx)]
   have l6:=hs.open;have L9:=l6.1;have EP:=l6.2.1;unfold maxLen at EP;have PK:(ad.add k).block≠E:=by have:=World.block_lt_of_cell? w _ d0;have:=HC.b7;omega
   have d1:=HK.out.cell _ _ PK (J L8.out d0);have b0:=HK.out.cell _ _ aL HB.out.1;have fN:=HK.out.cell _ _ PJ HB.b5;obtain⟨xa,hxa⟩:=x4 x.a;obtain⟨xk,lV⟩:=x4 x.k;rw[hlen,<-hxa,<-lV]at hs d1;rw[hlen,<-lV]at L9;rw[<-lV]at EP;have aW:x.l.length=n:=HX.b2 x (gi hx);have HY:=yh hx hs aW;obtain⟨wo,eE⟩:=x4 wr;subst eE;clear hx hs hlen l6 hxa lV d0 PK aW;go_wp2_with fail;go_loopw [8,9,34] (fun _ _ y wr=>∃j:Nat,y=j/\j<=n/\Hid (EW wr E N (fun t=>if t%m<k\/(t%m=k/\t / m<j)then F t else 0))/\Hid (Kp E W5 wr)/\Hid (Below W W wr)) (fun _ _ y _=>n-(vI y).toNat)
   case atStart=>exact⟨0,rfl,gm _,(lhd (HE.out.congr fun i _=>by simp)),HK,lY⟩
   case round =>
    clear HE HK lY d1 b0 fN;obtain⟨j,rfl,hj,HE,HK,lY⟩:=hrel;by_cases ly:j<n
    ·have pk:(j:Int)<n:=by omega
     obtain⟨rd,v,iI,hv,e0,e1⟩:=qtx HY.a1 (j:=j) (by rw[HY.b2];exact ly);subst iI;have LA:(rd.add (j*2)).block≠E:=by have:=World.block_lt_of_cell? w _ e0;have:=HC.b7;omega
     replace e0:=HK.out.cell _ _ LA (J L8.out e0)
     replace e1:=HK.out.cell ⟨(rd.add (j*2)).block,(rd.add (j*2)).off+1,Z⟩ _ LA (J L8.out e1)
     have aA:Below wr wr (wr.alloc (.cells #[τ (decide (v<0)),ω (mg v)] 110)):=(q9).alloc (nlr _) _;have a0:(wr.alloc (.cells #[τ (decide (v<0)),ω (mg v)] 110)) wr=τ (decide (v<0)):=xz wr _ _ 0 rfl;have a1:(wr.alloc (.cells #[τ (decide (v<0)),ω (mg v)] 110)) ⟨wr,1,Z⟩=ω (mg v):=xz wr _ _ 1 rfl;have HV:=jg hv aA;clear hv aA LA;go_wp2_with fail;obtain⟨Wb,vG⟩:=x4 (wr.alloc (.cells #[τ (decide (v<0)),ω (mg v)] 110));obtain⟨p9,iR⟩:=x4 wr.heap.size;have dx:Below wr wr Wb:=by rw[vG];exact HV.out.2
     rw[<-vG,<-iR]at a0 a1;rw[<-vG,<-iR];have I7:=HK.out.below dx;have fN:=I7.cell _ _ PJ HB.b5;have EO:=I7.cell _ _ aL HB.a2;have fR:E<wr:=by have h3:=World.block_lt_of_cell? W5 _ (HB.a3 0 (by have:=fb.out;have:0<n*m:=Nat.mul_pos (by omega) (by omega);omega)).1;exact gz h3 HK.out.size
     have fS:=HE.out.keep dx fR;obtain⟨tq,Ck⟩:=x4 (j*m);have PL:tq+k<N:=by rw[Ck,fb.out];have:(j+1)*m<=n*m:=gI m ly;rw[Nat.add_mul,Nat.one_mul]at this;omega
     have KM:IntKind.i64.wrap ((j:Int)*(m:Int))=(tq:Int):=by rw[Ck,Int.natCast_mul];exact IntWalk.i64_in _ (by rw[<-Int.natCast_mul,<-Ck];omega)
     have BX:F (tq+k)=v:=by
      rw[HF.out];show ((L.map Wr.l).getD ((tq+k)%m) []).getD ((tq+k) / m) 0=v;have h1:(j*m+k) / m=j:=by rw[Nat.mul_comm,Nat.mul_add_div (by omega),Nat.div_eq_of_lt cd,Nat.add_zero]
      have h2:(j*m+k)%m=k:=by rw[Nat.mul_comm,Nat.mul_add_mod,Nat.mod_eq_of_lt cd]
      have h3:(L.map Wr.l).getD k []=x.l:=by rw[gb,List.getElem?_map,HY.out.1];rfl
      rw[Ck,h1,h2,h3,gb,HV.out.1];rfl
     obtain⟨t,ht⟩:=x4 (tq+k);have XD:IntKind.i64.wrap ((tq:Int)+(k:Int))=(t:Int):=by rw[ht,Int.natCast_add];exact IntWalk.i64_in _ (by omega)
     rw[<-ht]at PL BX;have XE:(t:Int)<N:=by omega
     have HT:=kp ht Ck BX fS dx I7;clear ht Ck BX fS dx I7 vG iR e0 e1;have eG:Below Wb Wb Wb.drew:=qb (Below.refl _ Wb) 1
     go_still_tail 12,(by kernel_rfl)
     change wpList _ _ _ _ _ Wb.drew;obtain⟨w8,fJ⟩:=x4 Wb.drew;rw[<-fJ]at eG ⊢;have fS:=HT.a3.keep eG (gz fR HT.a4.size);obtain⟨t0,t1,t2,t3⟩:=fS t PL;have HD:=jg eG fS;clear fJ eG fS fN EO a0 a1;go_wp2;go_roundw
     case measure=>simp[vI];omega
     case rel =>
      have iG:0<m:=by omega
      refine⟨j+1,qh (by omega),by omega,(lhd ((HD.out.2.put t v).congr fun i hi=>?_)),(lhd (((HT.b5.below HD.out.1).set _ _).set _ _)),(lhd (((lY.out.trans (((btr HT.a4 HD.out.1)).mono lY.out.size)).setCell jQ _).setCell jQ _))⟩;have e1:t=j*m+k:=by rw[HT.out.1,HT.a1]
      have e2:=Nat.div_add_mod i m;have e3:m*(i / m)=i / m*m:=Nat.mul_comm _ _;by_cases hit:i=t
      ·have h1:t%m=k:=by rw[e1,Nat.mul_comm,Nat.mul_add_mod,Nat.mod_eq_of_lt cd]
       have h2:t / m=j:=by rw[e1,Nat.mul_comm,Nat.mul_add_div iG,Nat.div_eq_of_lt cd,Nat.add_zero]
       rw[if_pos hit,hit,if_pos (.inr ⟨h1,by omega⟩),HT.a2]
      ·rw[if_neg hit];by_cases h2:i%m<k\/(i%m=k/\i / m<j)
       ·rw[if_pos h2,if_pos (by rcases h2 with h2|h2;exact .inl h2;exact .inr ⟨h2.1,by omega⟩)]
       ·rw[if_neg h2,if_neg fun h3=>?_];rcases h3 with h3|⟨h3,h4⟩
        ·exact h2 (.inl h3)
        ·by_cases h5:i / m<j
         ·exact h2 (.inr ⟨h3,h5⟩)
         ·have h6:i / m=j:=by omega
          rw[h6,h3]at e2;exact hit (by rw[e1,<-e2,Nat.mul_comm])
    ·have np:j=n:=by omega
     go_wp2;go_roundw
     case measure=>simp[vI];omega
     case rel =>
      refine⟨k+1,qh (by omega),by omega,(lhd (HE.out.congr fun i hi=>?_)),HK,lY⟩;have h5:i / m<j:=by rw[np,Nat.div_lt_iff_lt_mul (by omega),<-fb.out];exact hi
      by_cases h2:i%m<k
      ·rw[if_pos (.inl h2),if_pos (by omega)]
      ·by_cases h3:i%m=k
       ·rw[if_pos (.inr ⟨h3,h5⟩),if_pos (by omega)]
       ·rw[if_neg (fun h=>by rcases h with h|h;exact h2 h;exact h3 h.1),if_neg (by omega)]
  ·have aM:m=k:=by omega
   subst aM;have cV:¬(m:Int)<m:=by omega
   have b0:=HK.out.cell _ _ aL HB.out.1;have b1:=HK.out.cell _ _ aL HB.a1;have EO:=HK.out.cell _ _ aL HB.a2;have ah:∀k:Nat,(⟨w,k,Z⟩ : Addr).block≠E:=fun k=>by have:=HC.b7;show w≠E;omega
   have iJ:=HC.b7;have r0:=HK.out.cell _ _ (ah 0) (J HB.a4 HC.out.1);have r1:=HK.out.cell _ _ (ah 1) (J HB.a4 HC.a1);have r2:=HK.out.cell _ _ (ah 2) (J HB.a4 HC.a2);have f0:=HK.out.q5d _ (ah 0) (gz iJ HB.a4.size) (xf HB.a4 iJ HC.a3);have f1:=HK.out.q5d _ (ah 1) (gz iJ HB.a4.size) (xf HB.a4 iJ HC.a4);have f2:=HK.out.q5d _ (ah 2) (gz iJ HB.a4.size) (xf HB.a4 iJ HC.a5);go_wp2_with fail;obtain⟨e0,e1,e2⟩:=qds r0 r1 r2;refine bodyPost_ret (v:=I #[n,m,O E N N]) (by simp[results,Tryz.results121,go_sem,e0,e1,e2]) rfl ⟨E,by rw[fb.out],by omega,?_,?_⟩
   ·refine EW.congr (f:=F) (fun t ht=>?_) fun t _=>by rw[HF.out];simp
    have iG:0<m:=by
     rcases Nat.eq_zero_or_pos m with h|h
     ·rw[h,Nat.mul_zero]at ht;omega
     ·exact h
    have he:EW wr E N F:=HE.out.congr fun i _=>by rw[if_pos (Nat.mod_lt _ iG)]
    rw[<-fb.out]at ht;obtain⟨g1,g2,g3,g4⟩:=he t ht;have fS:E≠w:=fun e=>ah 0 e.symm
    exact⟨xe (xe (xe g1 fS) fS) fS,xe (xe (xe g2 fS) fS) fS,by simpa [World.frozen?_setCell]using g3,by simpa [World.frozen?_setCell]using g4⟩
   ·exact q28 ((btr HC.a6 lY.out)) (nlr _) _ _ _
theorem qfs {α β:Type}{f:α->β} : ∀ {l:List α},(l.map f).Nodup->∀ {x y:α},x∈l->y∈l->f x=f y->x=y
 |[],_,_,_,hx,_,_=>absurd hx gP
 |z :: l,h,x,y,hx,hy,e=>by
  rw[bx,List.nodup_cons]at h;rcases gH.1 hx with eZ|eZ <;> rcases gH.1 hy with fQ|fQ
  ·rw[eZ,fQ]
  ·exact absurd (by rw[<-eZ,e];exact gj.2 ⟨y,fQ,rfl⟩) h.1
  ·exact absurd (by rw[<-fQ,<-e];exact gj.2 ⟨x,eZ,rfl⟩) h.1
  ·exact qfs h.2 eZ fQ e
theorem qt0 {w w':δ}{st q b:Nat}{v:ε}{xs:List ε}(h:Sl w st v xs)(hk:Qk q b w w')(hb:w<=b)(ah:∀g,v.ownBlock=Y g->g≠q):Sl w' st v xs:=by
 obtain⟨a',n',c',rfl,e2,e3,e4,e5,e6⟩:=h;refine⟨_,_,_,rfl,e2,e3,e4,e5,fun ad bR j u hj=>?_⟩;have h1:=e6 ad bR j u hj;refine hk.cell (gz (World.block_lt_of_cell? w _ h1) hb) ?_ h1;have:(ad.add j).block=ad.block:=by unfold Addr.add;split <;> rfl
 rw[this];subst bR;exact ah ad.block rfl
theorem VG.new {w:δ}{q:Nat}(h:w.heap[q]? =Y (.cells #[O Z 0 0] 175 (0,0))):VG w q w (O Z 0 0) []:=by
 refine⟨?_,jz h 0,World.ownsRow_nil _ _ _ _,fun x hx=>absurd hx gP,?_,nlr _⟩
 ·simp[World.cell?,h]
 ·exact(gh.1 h).1
theorem VG.keep {w w':δ}{q b2:Nat}{o:ε}{L:List Wr}(h:VG w q b2 o L)(hb:Below w w w'):VG w' q b2 o L :=
 ⟨J hb h.c0,xf hb (World.block_lt_of_cell? w q h.c0) h.z0,qa h.own hb,fun x hx=>⟨(h.im x hx).1.keep hb,fun g hg=>⟨((h.im x hx).2 g hg).1,gz ((h.im x hx).2 g hg).2.1 hb.size,((h.im x hx).2 g hg).2.2⟩⟩,h.lt,gd h.le hb.size⟩
theorem SlV.one {w:δ}{a:Option Addr}{n c g:Nat}{l:List Int}(h:Sl w 2 (O a n c) (wvs l))(hg:∀j x,([O a n c] : List ε)[j]? =Y x->w (Addr.add g j)=Y x):SlV w (O g 1 1) [l]:=by
 refine⟨[O a n c],⟨_,_,_,rfl,nlr _,by unfold maxLen;omega,rfl,fun e=>(by cases e),fun ad bR j u hj=>?_⟩,rfl,fun i u l' hu hl=>?_⟩
 ·cases bR
  exact hg j u hj
 ·match i,hu,hl with
  |0,hu,hl =>obtain rfl:=osi hu;obtain rfl:=osi hl;exact h
  |i+1,hu,hl=>cases hu
def qiw (R:List Int)(c:Int):List Int:=(List.range R.length).map fun i=>qw c 1 (R.getD i 0)
theorem qq8 {w:δ}{v u m:ε}{A L:List Cl}{d:Int}(h:Kx w v A)(k:Kx w u L)(hs:q6v A L)(hm:qip w m (A.map Cl.id))(cY:nId A d<=200)(eR:nId L d<=200) :
  Calls Tryz.prog 84 #[v,u,m,d] w fun e w'=>∃x,e=.returned (I #[(nId L d:Int),(nId A d:Int),x]) ∧
   Sl w' 2 x (wvs ((List.range (nId L d*nId A d)).map fun t=>qw ((q04 A d).getD (t%nId A d) 0) 1 ((q04 L d).getD (t / nId A d) 0)))/\Below w w w':=by
 obtain⟨a,an,ac,rfl⟩:=h.shape;obtain⟨c,cn,cc,rfl⟩:=k.shape;have HM:=lhd hm;obtain⟨s,An,rfl,cU,mN,pK⟩:=hm;obtain⟨sa,sn,sc,rfl⟩:=qg cU;have HH:=q4q h k hs HM.out cU mN pK;clear h k hs cU mN pK HM;obtain⟨n,hn⟩:=x4 (nId L d);obtain⟨mm,dU⟩:=x4 (nId A d);rw[<-hn]at eR ⊢;rw[<-dU]at cY ⊢;have HN:=jg hn dU;clear hn dU;go_enter Tryz.func84,Tryz.ntmps84;go_wp2_with fail;obtain⟨W,hW⟩:=x4 ((((w.alloc (.cells #[O a an ac] 36)).alloc (.cells #[O c cn cc] 36)).alloc (.cells #[O sa sn sc] 95)).alloc (.cells #[H φ 0,H φ 0,O Z 0 0] 75));rw[<-hW];have hw:Below w w W:=by rw[hW];exact((((q9).alloc (nlr _) _).alloc (by simp) _).alloc (by simp;omega) _).alloc (by simp;omega) _
 have b4:W w=O a an ac:=by rw[hW];exact qk (qk (qk (xz w _ _ 0 rfl) _) _) _
 have b5:W (w+1:Nat)=O c cn cc:=by rw[hW];exact qk (qk (zx w _ _ _ 0 rfl) _) _
 have b6:W (w+1+1:Nat)=O sa sn sc:=by rw[hW];exact qk (jw w _ _ _ _ 0 rfl) _
 have b8:∀i,W ⟨w+1+1+1,i,Z⟩=(#[H φ 0,H φ 0,O Z 0 0] : Array ε)[i]?/\W.frozen? ⟨w+1+1+1,i,Z⟩=false:=fun i=>by rw[hW];have h1:=qd (((w.alloc (.cells #[O a an ac] 36)).alloc (.cells #[O c cn cc] 36)).alloc (.cells #[O sa sn sc] 95)) #[H φ 0,H φ 0,O Z 0 0] 75 (0,0) i;have h2:=heap_alloc_new (((w.alloc (.cells #[O a an ac] 36)).alloc (.cells #[O c cn cc] 36)).alloc (.cells #[O sa sn sc] 95)) (.cells #[H φ 0,H φ 0,O Z 0 0] 75);simp only [World.size_alloc]at h1 h2;exact⟨h1,jz h2 i⟩
 have aG:W.heap.size=w+4:=by rw[hW];simp
 have HW:=yh hw b8 aG;clear hW hw b8 aG;refine(qln (HH.out.1.keep HW.out.1) (HH.a1.keep HW.out.1) HH.a2 (HH.a3.keep HW.out.1)).mono ?_;rintro e w1 ⟨rfl,ae⟩
 replace b4:=J ae b4
 replace b5:=J ae b5
 replace b6:=J ae b6
 have H1:=jg ae ((btr HW.out.1 ae));clear ae;go_wp2_with fail;have jG:∀x∈An,∃X∈A,X.id=x.c:=fun x hx=>by
  have:x.c∈A.map Cl.id:=by rw[<-HH.a5];exact gj.2 ⟨x,hx,rfl⟩
  obtain⟨X,hX,e⟩:=gj.1 this;exact⟨X,hX,e⟩
 have jY:An.Pairwise fun x y=>x.c≠y.c:=by
  have:(An.map Im.c).Pairwise (·≠·):=by rw[HH.a5];exact HH.out.1.q1v.nodup
  exact List.pairwise_map.1 this
 have EC:An.length<=4000:=by have h1:=congrArg List.length HH.a5;have h2:=HH.out.1.q1v.len;simp at h1;omega
 refine(qlm (HH.a4.keep H1.out.2) (fun x hx=>by obtain⟨X,hX,e⟩:=jG x hx;rw[<-e];exact HH.out.1.qjs hX) jY EC).mono ?_;rintro e w2 ⟨B,rfl,dL,aj⟩;have aA:Below w2 w2 (w2.alloc (.cells #[O Z 0 0] 175)):=(q9).alloc (nlr _) _;have aI:Below w w w2:=(btr H1.out.2 aj);have aY:Below W W w2:=(btr H1.out.1 aj)
 replace b4:=qk (J aj b4) (.cells #[O Z 0 0] 175)
 replace b5:=qk (J aj b5) (.cells #[O Z 0 0] 175)
 have A9:=heap_alloc_new w2 (.cells #[O Z 0 0] 175);have AA:Below w w (w2.alloc (.cells #[O Z 0 0] 175)):=(btr aI aA);obtain⟨W2,pM⟩:=x4 (w2.alloc (.cells #[O Z 0 0] 175));obtain⟨q,hq⟩:=x4 w2.heap.size;have pI:W2=q+1:=by rw[pM,hq];simp
 have PM:W<=q:=by rw[hq];exact aY.size
 rw[<-pM,<-hq]at A9;rw[<-pM]at AA;rw[<-pM,<-hq]at aA;have H2:=qan dL aY aA A9 jG pI PM hq AA;have HE:=jg pM hq;clear dL aj jG jY EC aI aY aA A9 b6 pM hq pI PM AA;go_wp2_with fail;rw[<-HE.out.1]at b4;rw[<-HE.out.1,<-HE.out.2];clear HE;refine(qbb (HH.a1.keep H2.b8) d).mono ?_;rintro e w3 ⟨ri,rfl,lk,aw⟩;obtain⟨ra,rc,rfl⟩:=qj lk;rw[<-HN.out.1]at lk ⊢
 replace b4:=J aw b4
 have PN:Below w w w3:=(btr H2.b8 aw);have H3:=yh lk aw PN;clear lk aw PN;go_wp2_with fail;refine(qbb (HH.out.1.keep H3.b2) d).mono ?_;rintro e w4 ⟨ci,rfl,ER,aN⟩;obtain⟨ca,ck,rfl⟩:=qj ER;rw[<-HN.out.2]at ER ⊢;have Ac:Below W2 W2 w4:=(btr H3.a1 aN);have eQ:w4.heap[q]? =Y (.cells #[O Z 0 0] 175 (0,0)):=(Ac.block q (by rw[H2.a5];omega)).trans H2.a3;have ES:=VG.new eQ;have PO:Below q w2 w4:=H2.a2.trans (Ac.mono (by rw[H2.a5];omega));have nV:q+1<=w3:=by rw[<-H2.a5];exact H3.a1.size
 have sL:∀g,(O ra n rc).ownBlock=Y g->g≠q:=fun g hg=>by have:=(H3.out.1.lt g hg).1;have:=H2.a5;omega
 have xL:∀g,(O ca mm ck).ownBlock=Y g->g≠q:=fun g hg=>by have:=(ER.lt g hg).1;omega
 have H4:=q4q (Sl.qc (qa H3.out.1 aN)) (Sl.qc ER) ES PO ((btr H3.b2 aN)) sL xL;clear ER aN Ac eQ ES PO nV sL xL b4 b5;go_wp2_with fail;go_loopw [13,31] (fun _ y wr=>∃(k:Nat) (o:ε) (Lk:List Wr),y=k/\k<=mm/\Hid (VG wr q w4 o Lk/\Lk.map Wr.l=((q04 A d).take k).map (qiw (q04 L d)))/\Hid (Qk q w4 w4 wr)) (fun _ y _=>mm-(vI y).toNat)
 case atStart=>exact⟨0,_,[],rfl,gm _,(lhd ⟨H4.a2,rfl⟩),(lhd (Qk.refl _ _ _))⟩
 case round =>
  obtain⟨k,o,Lk,rfl,hk,HV,HK⟩:=hrel;by_cases cd:k<mm
  ·have cV:(k:Int)<mm:=by omega
   obtain⟨ad,c,iH,hc,d0⟩:=q00 (qt0 H4.a1 HK.out (nlr _) H4.b6) cd;subst iH;have I8:c∈A.map Cl.id:=by have ej:=gi hc;rw[HH.out.1.q1v.ids]at ej;obtain⟨X,hX,e⟩:=gj.1 ej;exact gj.2 ⟨X,(gS.1 hX).1,e⟩
   have xK:I64 c:=by obtain⟨X,hX,e⟩:=gj.1 I8;rw[<-e];exact HH.out.1.qjs hX
   obtain⟨x,hx,fs⟩:∃x∈An,x.c=c:=by rw[<-HH.a5]at I8;exact gj.1 I8
   have xU:Below q w2 wr:=HK.out.lower H4.a3 (nlr _) (by have:=H4.a2.lt;omega);have fq:gIm An c=Y x.sl:=by
    unfold gIm;cases hf:An.find? fun y=>y.c == c with
    |none=>have:=List.find?_eq_none.1 hf x hx;simp[fs]at this
    |some y =>
     have hy:=gR hf;have nz:y.c=c:=by simpa using List.find?_some hf
     have:y=x:=by
      have oR:(An.map Im.c).Nodup:=by rw[HH.a5];exact HH.out.1.q1v.nodup
      exact qfs oR hy hx (by rw[nz,fs])
     rw[this];rfl
   have eh:(Instr.lookup 163 (.map (Y B)) c false).run Tryz.prog wr=.ok (O x.a x.n x.k) wr:=by have:=(H2.out.1.below xU (by have:=H2.out.1.lt;rw[H2.a7];exact this)).look (e:=159) Tryz.underlying3 Tryz.underlying163 (qhb wr) (yx xK);rw[this,fq];rfl
   have Cj:Below w w wr:=HK.out.lower H4.a4 (by have:=H2.a6;have:=HW.b2;omega) (by have:=H4.a4.size;omega);have nP:(Fk.cf (qw c 1) 1 8).holds (O x.a x.n x.k) wr:=by have:=(HH.b6 x hx).keep Cj;rw[fs]at this;exact qjw this xK
   have xA:=qt0 H4.out.1 HK.out (nlr _) H4.a5;have HR:=yt hc Cj nP xA;clear I8 xK hx fs xU fq Cj nP xA hc;obtain⟨xa,hxa⟩:=x4 x.a;obtain⟨xn,dO⟩:=x4 x.n;obtain⟨xk,lV⟩:=x4 x.k;rw[<-hxa,<-dO,<-lV]at eh HR;clear hxa dO lV;have mI:(q04 L d).length=n:=HN.out.1.symm;go_wp2_with fail;have bY:=qvt (R:=q04 L d) HR.b3 HR.a2 (fun c hc=>by rw[HH.a1.q1v.ids]at hc;obtain⟨X,hX,e⟩:=gj.1 hc;rw[<-e];exact HH.a1.qjs (gS.1 hX).1) (by rw[mI];exact eR) (by decide) (by decide)
   rw[mI]at bY;refine bY.mono ?_;rintro e w5 ⟨E,rfl,dr,dN,nW,aC⟩;clear bY;have aV:=nW.sl (by omega);have xV:(List.range n).map (fun i=>qw c 1 ((q04 L d).getD i 0))=qiw (q04 L d) c:=by unfold qiw;rw[mI]
   rw[xV]at aV;have aA:Below w5 w5 (w5.alloc (.cells #[O E n n] 73)):=(q9).alloc (nlr _) _;have cQ:Below wr wr (w5.alloc (.cells #[O E n n] 73)):=(btr aC aA);have ET:=SlV.one (aV.keep aA) (q7l w5 73 [O E n n]);have ES:=HV.out.1.keep cQ;have EU:Lk.length=k:=by have:=congrArg List.length HV.out.2;rw[gp,gp,gD]at this;have h2:(q04 A d).length=mm:=HN.out.2.symm;omega
   have eX:=qv6 ES ET (by omega) (by simp) (by simp[qiw,mI];omega);have HS:=yh eX cQ EU;clear nW aC aV aA cQ ET ES EU dr dN xV eX;go_wp2_with fail;refine HS.out.1.mono ?_;rintro e w7 ⟨rfl,o',x',wQ,PQ,jT⟩;have HT:=yh wQ PQ (HK.out.below (HS.a1.mono (by have:=HK.out.size;omega)) |>.trans jT);clear wQ PQ jT;go_wp2;go_roundw
   case measure=>simp[vI];omega
   case rel =>refine⟨k+1,o',Lk++[x'],qh (by omega),by omega,(lhd ⟨HT.a1,?_⟩),(lhd HT.b2)⟩;rw[gW,HV.out.2,gC,HR.out.1];simp[HT.out.1]
  ·have aM:mm=k:=by omega
   subst aM;have cV:¬(mm:Int)<mm:=by omega
   have h2:(q04 A d).length=mm:=HN.out.2.symm;have LB:Lk.map Wr.l=(q04 A d).map (qiw (q04 L d)):=by rw[HV.out.2,gr (by omega)]
   have EU:Lk.length=mm:=by have:=congrArg List.length LB;rw[gp,gp]at this;omega
   have mI:(q04 L d).length=n:=HN.out.1.symm;have Cm:=yt LB EU mI h2;clear LB EU mI h2;go_wp2_with fail;refine(qv7 (n:=n) (m:=mm) HV.out.1 Cm.a1 (fun x hx=>by have:x.l∈Lk.map Wr.l:=gj.2 ⟨x,hx,rfl⟩;rw[Cm.out.1]at this;obtain⟨c,_,e⟩:=gj.1 this;rw[<-e];simp[qiw,Cm.a2]) eR cY).mono ?_
   rintro e w9 ⟨E,rfl,dr,nW,ei⟩;have xU:Below q w2 wr:=HK.out.lower H4.a3 (nlr _) (by have:=H4.a2.lt;omega);have fW:Below W W w9:=(H2.a1.trans (xU.mono H2.a6)).trans (ei.mono (by have:=H2.a1.size;have:=xU.size;omega));have EV:w.heap.size+1+1+1<W:=by have:=HW.b2;omega
   have r0:=J fW (HW.a1 0).1;have r1:=J fW (HW.a1 1).1;have r2:=J fW (HW.a1 2).1;have f0:=xf fW EV (HW.a1 0).2;have f1:=xf fW EV (HW.a1 1).2;have f2:=xf fW EV (HW.a1 2).2;obtain⟨K,hK⟩:=x4 (n*mm);rw[<-hK]at nW ⊢;have fS:W<=E:=gd (gd H2.a1.size xU.size) dr;have HF:=kg nW ((btr HW.out.1 fW)) hK EV fS;clear nW dr ei xU fW EV hK fS;go_wp2_with fail;obtain⟨e0,e1,e2⟩:=qds r0 r1 r2;refine bodyPost_ret (v:=I #[n,mm,O E K K]) (by simp[results,Tryz.results84,go_sem,e0,e1,e2]) rfl ⟨_,rfl,?_,q28 HF.a1 (by omega) _ _ _⟩;have aL:E≠w+1+1+1:=by have:=HF.b3;omega
   have uY:EW w9 E K (fun t=>qw ((q04 A d).getD (t%mm) 0) 1 ((q04 L d).getD (t / mm) 0)):=HF.out.1.congr fun t ht=>by
    rw[HF.a2]at ht;have iG:0<mm:=by
     rcases Nat.eq_zero_or_pos mm with h|h
     ·rw[h,Nat.mul_zero]at ht;omega
     ·exact h
    have h1:t / mm<n:=by rw[Nat.div_lt_iff_lt_mul iG];exact ht
    have h2:t%mm<mm:=Nat.mod_lt _ iG;obtain⟨c,hc⟩:∃c,(q04 A d)[t%mm]? =Y c:=⟨_,gg (by rw[Cm.b3];exact h2)⟩
    have e1:(Lk.map Wr.l).getD (t%mm) []=qiw (q04 L d) c:=by rw[Cm.out.1,gb,List.getElem?_map,hc];rfl
    have e2:(q04 A d).getD (t%mm) 0=c:=by rw[gb,hc];rfl
    show ((Lk.map Wr.l).getD (t%mm) []).getD (t / mm) 0=_;rw[e1,e2];unfold qiw;rw[gb,List.getElem?_map,List.getElem?_range (by rw[Cm.a2];exact h1)];rfl
   have Ao:EW (((w9.setCell (w+1+1+1:Nat) n).setCell ⟨w+1+1+1,1,Z⟩ mm).setCell ⟨w+1+1+1,2,Z⟩ (O E K K)) E K (fun t=>qw ((q04 A d).getD (t%mm) 0) 1 ((q04 L d).getD (t / mm) 0)):=fun t ht=>by obtain⟨g1,g2,g3,g4⟩:=uY t ht;exact⟨xe (xe (xe g1 aL) aL) aL,xe (xe (xe g2 aL) aL) aL,by simpa [World.frozen?_setCell]using g3,by simpa [World.frozen?_setCell]using g4⟩
   have sH:=Ao.sl (by rw[HF.a2];exact gd (Nat.mul_le_mul eR cY) (by decide));rw[HF.a2]at sH ⊢;exact sH
