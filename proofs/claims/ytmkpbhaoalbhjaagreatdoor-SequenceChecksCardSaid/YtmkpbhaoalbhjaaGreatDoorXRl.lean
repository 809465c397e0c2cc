/- Steps towards SequenceChecks. Conditions: none. -/
import Derived.Test.YtmkpbhaoalbhjaaGreatDoorXRk
set_option maxRecDepth 1000000
set_option maxHeartbeats 0
open Go.Value renaming slice→O,agg→I,pointer→σ,bool→τ,int→H,tuple→ψ,string→ω
open Option renaming none→Z,some→Y
open Go renaming undef→V,World→δ,Value→ε
open Go.IntKind renaming i64→φ
open Go.Cx renaming keep→J
namespace Go.Proofs.YtmkpbhaoalbhjaaGreatDoor
open Go.RowKit Go.Cx
attribute [local go_sem ↓] Go.wp_at_zero Go.wp_at_succ
def Rw (w:δ)(E:Nat)(l:List Int):Prop:=w.heap[E]? =Y (.cells (ints l).toArray 3 (0,0))
theorem Rw.il {w:δ}{E:Nat}{l:List Int}(h:Rw w E l):IL w E l:=fun i n hi=>by
 have hl:=(gk.1 hi).1;refine⟨?_,jz h i⟩;have e:(ints l)[i]? =n:=by rw[q9r _ _ hl,gb,hi];rfl
 unfold Rw at h;simp[World.cell?,h,e]
theorem Rw.made {w:δ}{E n:Nat}(h:w.heap[E]? =Y (.cells (madeCells #[H φ 0] n) 3 (0,0))):Rw w E (List.replicate n 0):=by
 unfold Rw;rw[h]
 congr 2
 refine Array.ext (by simp[madeCells,ints]) fun i h1 h2=>?_
 have h3:i<n:=by simpa [madeCells]using h1
 simp[madeCells,ints,show i%1=0 by omega]
theorem Rw.keep {w w':δ}{E B:Nat}{l:List Int}(h:Rw w E l)(hb:Below B w w')(hE:E<B):Rw w' E l:=(hb.block E hE).trans h
theorem Bk.row (E:Nat)(w:δ)(cs:Array ε):Bk E w (w.setRow E cs):=⟨rfl,rfl,rfl,by simp[World.setRow],fun k _ hk=>setRow_other w E k cs hk⟩
theorem Rw.set {w:δ}{E:Nat}{l:List Int}(h:Rw w E l)(a:Addr)(u:ε)(hn:a.block≠E):Rw (w.setCell a u) E l:=by unfold Rw;rw[Below.heap_setCell _ _ _ _ (fun e=>hn e.symm)];exact h
theorem qik (l:List Int)(off:Nat)(cs:List Int):splice (ints l) off (ints cs)=ints (splice l off cs):=by unfold splice ints;simp[List.map_take,List.map_drop]
theorem qpb {Q:Exit->Act->δ->Prop}{o:Oper}{a:Act}{w:δ}{K:Act->δ->Prop}(d s:Operand)(ho:o.op=.call { callee:=.builtin .copy,args:=#[d,s],argTypes:=#[23,23] })
  (dp sp:Option Addr) (uQ zZ uR Aa:Nat) (hd:a.eval d=O dp uQ zZ) (hs:a.eval s=O sp uR Aa)
  (E off:Nat) (l cs:List Int) (hg:Rw w E l) (hn:cs.length=Nat.min uR uQ)
  (jX:0<cs.length->dp=Y ⟨E,off,Z⟩/\∃ad,sp=Y ad/\∀j v,(ints cs)[j]? =Y v->w (ad.add j)=Y v)
  (ib:off+cs.length<=l.length) (h:∀w',Rw w' E (splice l off cs)->Bk E w w'->K (a.put o.dst (goInt cs.length)) w'):Oper.wp Tryz.prog o a w K Q:=by
 have hsz:(Tryz.prog.info? 3).map (·.size)=Y 1:=by kernel_rfl
 by_cases h0:cs.length=0
 ·obtain rfl:cs=[]:=gl h0;have bP:=run_copy_none (P:=Tryz.prog) w 23 23 o.type 3 dp sp uQ zZ uR Aa Tryz.underlying23 hsz (by simpa using hn.symm);unfold Oper.wp;simp[execOp,ho,resolve,invoke,builtin,hd,hs,bP,Result.andThen];exact h w (by simpa [splice]using hg) (Bk.refl _ _)
 ·obtain⟨rfl,ad,rfl,mo⟩:=jX (by omega);have bP:=run_copy_row (P:=Tryz.prog) w 23 23 o.type 3 E off uQ zZ ad uR Aa (ints l).toArray 3 (ints cs) Tryz.underlying23 hsz hg (by rw[xl];exact hn) mo (by simpa [xl]using ib) (q65 _);unfold Oper.wp;simp[execOp,ho,resolve,invoke,builtin,hd,hs,bP,Result.andThen];have e:(ints cs).length=cs.length:=xl _;rw[e];refine h _ ?_ (Bk.row _ _ _);unfold Rw;rw[<-qik];have:=setRow_heap w E (ints l).toArray ((ints l).toArray.toList.take off++(ints cs++(ints l).toArray.toList.drop (off+(ints cs).length))).toArray 3 (0,0) hg;simpa [splice,e]using this
theorem q9w {ops:Array Oper}{a a0:Act}{d:Nat}{v:ε}{i:Nat}{o:Oper}(ho:ops[i]? =Y o)(hd:o.dst=Y d)(hb:∀s,(∀(i:Nat) (o:Oper),ops[i]? =Y o->o.dst≠Y s)->a s V=a0 s V) :
  ∀s,(∀(i:Nat) (o:Oper),ops[i]? =Y o->o.dst≠Y s)->(a.put (Y d) v).tmps.getD s V=a0 s undef:=fun s hs=>by
 rw[q3s,if_neg (fun e=>hs i o ho (by rw[hd,e.1]))];exact hb s hs
theorem qtk {Q:Exit->Act->World->Prop}{o:Oper}{a:Act}{w:World}{K:Act->World->Prop}(t:Nat)(x y:Operand)(aX:o.op=.slice t x (some y) none none)(v1 v2:Value)(h1:a.eval x=v1)(h2:a.eval y=v2)(v:Value)(bP:(Instr.sliceAt t v1 (some v2) none none).run Tryz.prog w=.ok v w)(h:K (a.put o.dst v) w):Oper.wp Tryz.prog o a w K Q:=by subst h1 h2;unfold Oper.wp;simp[execOp,aX,bP,Result.andThen];exact h
theorem qtl {w:δ}{a:Option Addr}{n cap:Nat}{l:List Int}(h:Sl w 1 (O a n cap) (ints l)){x:Nat}(hx:x<=n) :
  ∃a' c',(∀W,(Instr.sliceAt 23 (O a n cap) (Y (x:Int)) Z Z).run Tryz.prog W=.ok (O a' (n-x) c') W)/\Sl w 1 (O a' (n-x) c') (ints (l.drop x)):=by
 obtain⟨h2,h3,h4,h5,h6⟩:=h.open;refine⟨if cap=x then a else a.map (·.add (x*1)),cap-x,fun W=>?_,?_⟩
 ·have h0:(0:Int)<=(x:Int):=by omega
  have h1:(x:Int)<=(n:Int):=by omega
  simp[go_sem,sliced,Tryz.underlying23,h0,h1]
 ·have hd:=h.drop (k:=x) hx;rw[gK]at hd;have e:(ints l).drop x=ints (l.drop x):=by unfold ints;rw[List.map_drop]
  rw[e]at hd;split
  ·rename_i hc;obtain⟨g2,g3,g4,g5,g6⟩:=hd.open;refine⟨a,n-x,cap-x,rfl,by omega,by omega,g4,fun e=>by have:=h5 e;omega,fun ad _ j u hj=>?_⟩;have eV:=(gk.1 hj).1;rw[g4]at eV;omega
  ·rw[gK];exact hd
theorem qvm (E n cap x y:Nat)(hxy:x<=y)(hy:y<=n)(hn:n<=cap):∃a' c',(∀W,(Instr.sliceAt 23 (O E n cap) (Y (x:Int)) (Y (y:Int)) Z).run Tryz.prog W=.ok (O a' (y-x) c') W)/\(x<cap->a'=Y ⟨E,x,Z⟩):=by
 refine⟨if cap=x then Y ⟨E,0,Z⟩else (Y (E:Addr)).map (·.add (x*1)),cap-x,fun W=>?_,fun hx=>?_⟩
 ·have h0:(0:Int)<=(x:Int):=by omega
  have h1:(x:Int)<=(y:Int):=by omega
  have h2:(y:Int)<=(cap:Int):=by omega
  simp[go_sem,sliced,Tryz.underlying23,h0,h1,h2]
 ·rw[if_neg (by omega),gK];simp[Addr.add_lit]
theorem qtm (p:Int)(r n m:Nat)(v u:Value)(A B S:List (List Int))(w:World)(h:Sl w 1 v (ints A.flatten))(k:Sl w 1 u (ints B.flatten))(hp:prI p=true)(hA:FM p r n A)(hB:FM p r m B)(hr:r<=400)(hn:n<=400)(hm:m<=400)(hS:qca p n m A B=some S) :
  Calls Tryz.prog 58 #[.agg #[.int .i64 p,.int .i64 r,.int .i64 n,v],.agg #[.int .i64 p,.int .i64 r,.int .i64 m,u]] w fun e w'=>∃E,e=.returned (.tuple #[.agg #[.int .i64 p,.int .i64 n,.int .i64 m,.slice (some ⟨E,0,none⟩) (n*m) (n*m)],.bool true])/\w.heap.size<=E/\Rw w' E S.flatten/\Below w.heap.size w w':=by
 obtain⟨jL,iR,eP⟩:=q3r hp;obtain⟨va,vn,vc,rfl⟩:=qg h;obtain⟨ua,un,uc,rfl⟩:=qg k;have hJ:=q0u hA hB;obtain⟨Og,tw,jP,jY⟩:=q0s (show 0<p by omega) hJ;have HO:=q93 h k hA hB hS (q3d hp hA hr hn) (q3d hp hB hr hm) eP hJ Og;have HP:=lhd hp;clear h k hA hB hS eP hJ Og hp jY;go_enter Tryz.func58,Tryz.ntmps58;go_wp2_with fail;obtain⟨W0,aB⟩:=x4 (((w.alloc (.cells #[p,r,n,.slice va vn vc] 30)).alloc (.cells #[p,r,m,.slice ua un uc] 30)).alloc (.cells #[.int .i64 0,.int .i64 0,.int .i64 0,.slice none 0 0] 30));rw[<-aB];have cA:∀(i:Nat) (x:Value),(#[p,r,n,.slice va vn vc] : Array Value)[i]? =some x->W0 ⟨w,i,none⟩=some x:=fun i x hx=>by rw[aB];exact qk (qk ((qd w _ _ (0,0) i).trans hx) _) _
 have cB:∀(i:Nat) (x:Value),(#[p,r,m,.slice ua un uc] : Array Value)[i]? =some x->W0 ⟨w+1,i,none⟩=some x:=fun i x hx=>by have h0:=qd (w.alloc (.cells #[p,r,n,.slice va vn vc] 30)) #[p,r,m,.slice ua un uc] 30 (0,0) i;rw[World.size_alloc]at h0;rw[aB];exact qk (h0.trans hx) _
 have cR:∀(i:Nat) (x:Value),(#[.int .i64 0,.int .i64 0,.int .i64 0,.slice none 0 0] : Array Value)[i]? =some x->W0 ⟨w+1+1,i,none⟩=some x:=fun i x hx=>by have h0:=qd ((w.alloc (.cells #[p,r,n,.slice va vn vc] 30)).alloc (.cells #[p,r,m,.slice ua un uc] 30)) #[.int .i64 0,.int .i64 0,.int .i64 0,.slice none 0 0] 30 (0,0) i;simp only [World.size_alloc]at h0;rw[aB];exact h0.trans hx
 have zR:∀i,W0.frozen? ⟨w+1+1,i,none⟩=false:=fun i=>by have h0:=heap_alloc_new ((w.alloc (.cells #[p,r,n,.slice va vn vc] 30)).alloc (.cells #[p,r,m,.slice ua un uc] 30)) (.cells #[.int .i64 0,.int .i64 0,.int .i64 0,.slice none 0 0] 30);simp only [World.size_alloc]at h0;rw[aB];exact jz h0 i
 have fe:Below w w W0:=by rw[aB];exact(((q9).alloc (nlr _) _).alloc (by simp) _).alloc (by simp;omega) _
 have dg:W0.heap.size=w+3:=by rw[aB];simp
 have H0:=kp fe dg cA cB cR zR;clear aB fe dg cA cB cR zR;refine(qte p r n r m (.slice va vn vc) (.slice ua un uc) A.flatten B.flatten W0 (HO.out.1.keep H0.out.1) (HO.a1.keep H0.out.1) HO.a5 HO.a6).mono ?_;rintro e w1 ⟨rfl,ae⟩;have a0:=Cx.keep ae (H0.a2 0 _ rfl);have a1:=Cx.keep ae (H0.a2 1 _ rfl);have a2:=Cx.keep ae (H0.a2 2 _ rfl);have a3:=Cx.keep ae (H0.a2 3 _ rfl);have b0:=Cx.keep ae (H0.a3 0 _ rfl);have b1:=Cx.keep ae (H0.a3 1 _ rfl);have b2:=Cx.keep ae (H0.a3 2 _ rfl);have b3:=Cx.keep ae (H0.a3 3 _ rfl);have H1:=lhd ae;clear ae;go_wp2_with fail;have fC:Below w w w1:=(btr H0.out.1 H1.out);refine(qoo p r n m (.slice va vn vc) (.slice ua un uc) A B w1 (HO.out.1.keep fC) (HO.a1.keep fC) HO.a2 HO.a3 hr hn hm).mono ?_;rintro e w2 ⟨s,rfl,Hs,aj⟩;obtain⟨sa,sc,K3⟩:=qj Hs;subst K3;obtain⟨q,hq⟩:=x4 (n+m);have fU:q<=800:=by omega
 rw[<-hq]at tw jP;rw[<-hq]at Hs ⊢;have HJ:=yh (Sl.qc Hs) aj hq;have BQ:=Cx.keep aj a0;clear Hs aj hq;go_wp2_with fail;have Oh:FM p r q (jl A B):=by rw[HJ.b2];exact HO.a8
 refine(ql9 p r q (.slice sa (r*q) sc) (jl A B) w2 HJ.out.1 HO.a7 Oh hr fU).mono ?_;rintro e w3 ⟨sv,t,rfl,hR,Hw,aw⟩;obtain⟨Oi,Oj,dI⟩:=hR.shape;obtain⟨N3,Ab⟩:=x4 (r*q);rw[<-Ab]at dI hR;subst dI;obtain⟨L,hL⟩:=x4 ((jk p q (jl A B)).2.length);rw[<-hL]at Hw;obtain⟨ta,tc,K8⟩:=qj Hw;subst K8;have mS:Below w1 w1 w3:=(btr HJ.a1 aw);have H3:=kg hR.sl (Sl.qc Hw) mS Ab hL;have Tu:∀o,(w3.alloc o) w=p:=fun o=>qk (Cx.keep mS a0) o
 have Tv:∀o,(w3.alloc o) ⟨w,2,none⟩=n:=fun o=>qk (Cx.keep mS a2) o
 have JB:∀o,(w3.alloc o) ⟨w+1,2,none⟩=m:=fun o=>qk (Cx.keep mS b2) o
 clear hR Hw aw mS Ab a0 a1 a2 a3 b0 b1 b2 b3 BQ Oh;go_wp2_with fail;refine(qol p n m HP.out hn hm _).mono ?_;rintro e w4 ⟨E,rfl,dr,dN,-,aN,al⟩;rw[World.size_alloc]at dr;obtain⟨K,hK⟩:=x4 (n*m);have BM:K<=160000:=by rw[hK];exact gd (Nat.mul_le_mul hn hm) (by decide)
 rw[<-hK]at al ⊢;have tL:=Rw.made al;have Ac:Below w3 w3 w4:=(bal w3 _).trans (aN.mono (by simp));have e2:w4 ⟨w3,2,none⟩=q:=Cx.keep aN (xz w3 _ _ 2 rfl);have e3:w4 ⟨w3,3,none⟩=Value.slice Oi N3 Oj:=Cx.keep aN (xz w3 _ _ 3 rfl);have Ol:Below W0 W0 w4:=((btr H1.out H3.a2)).trans (Ac.mono (gd H1.out.size H3.a2.size));have H4:=q5h tL Ac e2 e3 Ol dr dN hK;clear al tL Ac e2 e3 Ol dr dN hK Tu Tv JB aN;go_wp2_with fail;obtain⟨W,hW⟩:=x4 (w4.alloc (.cells #[p,n,m,.slice E K K] 30));obtain⟨B5,aS⟩:=x4 w4.heap.size;rw[<-hW,<-aS];have BR:Below w4 w4 W:=by rw[hW];exact(q9).alloc (nlr _) _
 have o0:W B5=p:=by rw[hW,aS];exact xz w4 _ _ 0 rfl
 have o1:W ⟨B5,1,none⟩=n:=by rw[hW,aS];exact xz w4 _ _ 1 rfl
 have o2:W ⟨B5,2,none⟩=m:=by rw[hW,aS];exact xz w4 _ _ 2 rfl
 have o3:W ⟨B5,3,none⟩=Value.slice E K K:=by rw[hW,aS];exact xz w4 _ _ 3 rfl
 have lW:Below W0 W0 W:=(btr H4.a4 BR);have tO:Below w3 w3 W:=(btr H4.a1 BR);have e2:=Cx.keep BR H4.a2;have e3:=Cx.keep BR H4.a3;have hb:E<B5/\w3<E/\w.heap.size+3<=w3/\W=B5+1:=by
  have h1:=H4.a5;have h2:=H4.a6;have h3:=H3.a2.size;have h5:=H1.out.size;have h6:=H0.a1;have h7:W=B5+1:=by rw[hW,aS];simp
  omega
 have Om:Rw W E (pS S.flatten K (q8w (jk p q (jl A B)).2 m 0)):=by rw[qm9,qkz];exact H4.out.1.keep BR H4.a6
 have ag:∀k qn,(jk p q (jl A B)).2[k]? =some qn->splice (pS S.flatten K (q8w (jk p q (jl A B)).2 m k)) (qn*m) ((zm (jk p q (jl A B)).1 k).drop n)=pS S.flatten K (q8w (jk p q (jl A B)).2 m (k+1))/\qn<n/\((zm (jk p q (jl A B)).1 k).drop n).length=m:=fun k qn hk=>by rw[H4.b7];have e:=HJ.b2;subst e;exact qod (show 0<p by omega) HO.a2 HO.a3 HO.a4 hk
 have nG:∀k,k<r->(zm (jk p q (jl A B)).1 k).drop n=((jk p q (jl A B)).1.flatten.drop (k*q+n)).take m:=fun k hk=>by
  have hF:FM p r q (jk p q (jl A B)).1:=by rw[HJ.b2];exact HO.b9
  rw[<-q3z hF hk,List.drop_take,List.drop_drop,HJ.b2,Nat.add_sub_cancel_left]
 have HW:=qnt o0 o1 o2 o3 e2 e3 lW tO hb Om ag nG;clear hW aS o0 o1 o2 o3 e2 e3 lW tO hb Om ag nG BR;go_loopw [39] (fun x wr=>∃k:Nat,x=k/\k<=L/\Hid (Bk E W wr)/\Hid (Rw wr E (pS S.flatten K (q8w (jk p q (jl A B)).2 m k)))) (fun x _=>L-(vI x).toNat)
 case atStart=>exact⟨0,rfl,gm _,(lhd (Bk.refl _ _)),(lhd HW.a9)⟩
 case round =>
  obtain⟨k,rfl,hk,HK,HR⟩:=hrel;by_cases aZ:k<L
  ·have cV:(k:Int)<L:=by omega
   obtain⟨td,z,K8,hz,d0⟩:=q00 H3.a1 aZ;subst K8;obtain⟨qn,hqn,rfl⟩:∃qn:Nat,(jk p q (jl A B)).2[k]? =some qn/\z=(qn:Int):=by
    unfold nI at hz;rw[List.getElem?_map]at hz;cases hy:(jk p q (jl A B)).2[k]? with
    |none=>rw[hy]at hz;cases hz
    |some y=>rw[hy]at hz;exact⟨y,rfl,(osi hz).symm⟩
   obtain⟨lQ,DK,dF⟩:=HW.a10 k qn hqn;have K9:¬((n:Int)<=(qn:Int)):=by omega
   have hb:=HW.a8;have tO:=HW.a7;have lW:=HW.a6;have ah:B5≠E/\w≠E/\w+1≠E/\w3≠E:=by omega
   have On:(td.add k).block≠E:=by have:=World.block_lt_of_cell? _ _ d0;omega
   replace d0:=HK.out.cell On (Cx.keep tO d0)
   have c3:=HK.out.cell (p:=⟨B5,3,none⟩) ah.1 HW.a3;have c0:=HK.out.cell (p:=⟨w,2,none⟩) ah.2.1 (Cx.keep lW (H0.a2 2 _ rfl));have c1:=HK.out.cell (p:=⟨w+1,2,none⟩) ah.2.2.1 (Cx.keep lW (H0.a3 2 _ rfl));have c4:=HK.out.cell (p:=⟨w3,2,none⟩) ah.2.2.2 HW.a4;have c5:=HK.out.cell (p:=⟨w3,3,none⟩) ah.2.2.2 HW.a5;have cO:k<r:=by omega
   have Ia:=H4.b7;have Ab:=H3.a3;have KA:=HJ.b2;obtain⟨g1,fp⟩:=x4 (qn*m);obtain⟨g3,ui⟩:=x4 ((qn+1)*m);obtain⟨g4,tD⟩:=x4 (k*q);obtain⟨g5,jU⟩:=x4 (g4+n);have Ad:g3<=K:=by rw[ui,Ia];exact gI _ DK
   have DL:g3=g1+m:=by rw[ui,fp,Nat.add_mul,Nat.one_mul]
   have KB:g4+q<=N3:=by rw[tD,Ab,<-Nat.succ_mul];exact gI _ cO
   have Oo:IntKind.i64.wrap ((qn:Int)+1)=((qn+1:Nat):Int):=by rw[Int.natCast_add];exact IntWalk.i64_in _ (by omega)
   have Hr:IntKind.i64.wrap ((qn:Int)*(m:Int))=(g1:Int):=by rw[fp];exact kd (by omega) (by omega)
   have Oq:IntKind.i64.wrap (((qn+1:Nat):Int)*(m:Int))=(g3:Int):=by rw[ui];exact kd (by omega) (by omega)
   have Tw:IntKind.i64.wrap ((k:Int)*(q:Int))=(g4:Int):=by rw[tD];exact kd (by omega) (by omega)
   have Tx:N3<=400*800:=by rw[Ab];exact Nat.mul_le_mul hr fU
   have Ty:IntKind.i64.wrap ((g4:Int)+(n:Int))=(g5:Int):=by rw[jU,Int.natCast_add];exact IntWalk.i64_in _ (by omega)
   obtain⟨q1,fN⟩:=x4 (qn+1);rw[<-fN]at Oo Oq;obtain⟨dp,dc,hcut,qI⟩:=qvm E K K g1 g3 (by omega) Ad (nlr _);rw[show g3-g1=m by omega]at hcut;obtain⟨sp,Ib,fK,aV⟩:=qtl H3.out.1 (x:=g5) (by omega);have DM:Sl wr 1 (.slice sp (N3-g5) Ib) (ints ((jk p q (jl A B)).1.flatten.drop g5)):=aV.mono fun a x hx=>HK.out.cell (by have:=World.block_lt_of_cell? _ _ hx;omega) (Cx.keep tO hx)
   obtain⟨cs,iq⟩:=x4 ((zm (jk p q (jl A B)).1 k).drop n);have DN:cs=((jk p q (jl A B)).1.flatten.drop g5).take m:=by rw[iq,HW.b11 k cO,jU,tD]
   rw[<-iq]at lQ dF;rw[<-fp]at lQ;have mo:0<cs.length->dp=some ⟨E,g1,none⟩/\∃ad,sp=some ad/\∀j v,(ints cs)[j]? =some v->wr (ad.add j)=some v:=fun h0=>by
    refine⟨qI (by omega),?_⟩;obtain⟨y1,y2,y3,y4,y5⟩:=DM.open;cases hsp2:sp with
    |none=>have:=y4 hsp2;omega
    |some ad =>refine⟨ad,rfl,fun j v hj=>y5 ad hsp2 j v ?_⟩;have eV:=(gk.1 hj).1;rw[xl]at eV;rw[DN]at hj;unfold ints at hj ⊢;rw[List.map_take,List.getElem?_take,if_pos (by omega)]at hj;exact hj
   have hlen:cs.length=Nat.min (N3-g5) m:=by rw[dF];exact(Nat.min_eq_right (by omega)).symm
   have HX:=kp lQ mo hlen dF DL Ad;have Ot:=jg hcut fK;clear lQ mo hlen dF DL Ad iq DN DM aV hcut fK qI fp ui tD jU KB fN Ia Ab KA hz hqn On ah tO lW hb Tx DK;go_wp2_with fail;refine qp4 fun KO cD=>?_
   go_cut [49]from 50 to 71 (fun _ wx=>Hid (Rw wx E (pS S.flatten K (q8w (jk p q (jl A B)).2 m (k+1)))/\Bk E wr wx))
   case first =>
    rename_i At K2 hJ aQ;have hcut:=Ot.out.1;have fK:=Ot.out.2;refine yg (by kernel_rfl) (VF [some (.pointer (some ⟨B5,3,none⟩)),some (.slice E K K),some (qn:Int),some (.pointer (some ⟨w+1,2,none⟩)),some (m:Int),some (g1:Int),some (qn:Int),some (q1:Int),some (.pointer (some ⟨w+1,2,none⟩)),some (m:Int),some (g3:Int),some (.slice dp m dc),some (.pointer (some ⟨w3,3,none⟩)),some (.slice Oi N3 Oj),some (k:Int),some (.pointer (some ⟨w3,2,none⟩)),some (q:Int),some (g4:Int),some (.pointer (some ⟨w,2,none⟩)),some (n:Int),some (g5:Int),some (.slice sp (N3-g5) Ib),none]) [] (fun _ w2=>w2=wr.drew) 22 20 74 rfl (by kernel_rfl) (by kernel_rfl) (by decide) (by kernel_rfl) (by kernel_rfl) (by kernel_rfl) (by decide) (by decide) (fun a w2=>K2 a w2) ?start ?pure ?eff ?last ?done
    case start=>exact rfl
    case pure =>
     intro i o ho hL hE a w' vs hT ai hd ab hsz;obtain rfl:w'=wr.drew:=hT
     match i,ho,hL,hE,ai,hd with
     |0,rfl,_,_,_,_ =>exact yb rfl (zr qu ab 8) (jv _ _ _ (by decide)) (gone rfl)
     |1,rfl,_,_,_,hd =>exact jm rfl (j8 hd 0) (yy _ _ _ _ _ (c3)) (gone rfl)
     |2,rfl,_,_,_,_ =>exact jo (.inl rfl) ⟨_,rfl,fun _ h=>(zr qu ab 10).trans (osi h),rfl⟩
     |3,rfl,_,_,_,_ =>exact yb rfl (zr qu ab 3) (jv _ _ _ (by decide)) (gone rfl)
     |4,rfl,_,_,_,hd =>exact jm rfl (j8 hd 3) (qe0 _ _ _ (c1)) (gone rfl)
     |5,rfl,_,_,_,hd =>exact q0n rfl (j8 hd 2) (j8 hd 4) rfl (q2d Hr _) (gone rfl)
     |6,rfl,_,_,_,_ =>exact jo (.inl rfl) ⟨_,rfl,fun _ h=>(zr qu ab 10).trans (osi h),rfl⟩
     |7,rfl,_,_,_,hd =>exact q0n rfl (j8 hd 6) rfl rfl (q1u Oo _) (gone rfl)
     |8,rfl,_,_,_,_ =>exact yb rfl (zr qu ab 3) (jv _ _ _ (by decide)) (gone rfl)
     |9,rfl,_,_,_,hd =>exact jm rfl (j8 hd 8) (qe0 _ _ _ (c1)) (gone rfl)
     |10,rfl,_,_,_,hd =>exact q0n rfl (j8 hd 7) (j8 hd 9) rfl (q2d Oq _) (gone rfl)
     |11,rfl,_,_,_,hd =>exact⟨rfl,gu _,qgh _ _ _ _ rfl _ _ _ (j8 hd 1) (j8 hd 5) (j8 hd 10) _ (hcut _) (gone rfl)⟩
     |12,rfl,_,_,_,_ =>exact yb rfl (zr qu ab 6) (jv _ _ _ (by decide)) (gone rfl)
     |13,rfl,_,_,_,hd =>exact jm rfl (j8 hd 12) (yy _ _ _ _ _ (c5)) (gone rfl)
     |14,rfl,_,_,_,_ =>exact jo (.inl rfl) ⟨_,rfl,fun _ h=>(zr qu ab 9).trans (osi h),rfl⟩
     |15,rfl,_,_,_,_ =>exact yb rfl (zr qu ab 6) (jv _ _ _ (by decide)) (gone rfl)
     |16,rfl,_,_,_,hd =>exact jm rfl (j8 hd 15) (qe0 _ _ _ (c4)) (gone rfl)
     |17,rfl,_,_,_,hd =>exact q0n rfl (j8 hd 14) (j8 hd 16) rfl (q2d Tw _) (gone rfl)
     |18,rfl,_,_,_,_ =>exact yb rfl (zr qu ab 2) (jv _ _ _ (by decide)) (gone rfl)
     |19,rfl,_,_,_,hd =>exact jm rfl (j8 hd 18) (qe0 _ _ _ (c0)) (gone rfl)
     |20,rfl,_,_,_,hd =>exact q0n rfl (j8 hd 17) (j8 hd 19) rfl (q1u Ty _) (gone rfl)
     |21,rfl,_,_,_,hd =>exact⟨rfl,gu _,qtk _ _ _ rfl _ _ (j8 hd 13) (j8 hd 20) _ (fK _) (gone rfl)⟩
     |22,ho,hL,hE,ai,hd =>exact absurd rfl hL
     |i+23,ho,hL,hE,ai,hd =>have:i+23<23:=(gh.1 ho).1;omega
    case eff =>
     intro s i o hs ho a w' vs hl hT hd hr ab hsz
     match s,hs,hr,hl with
     |s+0,hs,hr,hl=>cases hs
    case last =>intro o ho a w' vs hsz aO hl hT hf hr ab;obtain rfl:=osi ho;obtain rfl:=gl hl;obtain rfl:w'=wr.drew:=hT;have g0:a 60 undef=.slice dp m dc:=hf 11 _ _ rfl rfl (by kernel_rfl) (by decide) _ rfl;have uP:a 70 undef=.slice sp (N3-g5) Ib:=hf 21 _ _ rfl rfl (by kernel_rfl) (by decide) _ rfl;refine⟨rfl,qpb (.tmp 60) (.tmp 70) rfl dp sp m dc (N3-g5) Ib g0 uP E g1 _ cs (show Rw wr.drew E _ from HR.out) HX.a2 (fun h0=>HX.a1 h0) (by rw[q38];have h1:=HX.b3;omega) fun w2 cE aj=>?_⟩;rw[HX.out.1]at cE;refine aQ _ _ (Met.intro (hJ _ _ ⟨(a.put (some 71) (goInt cs.length)).tmps.getD 49 undef,(a.put (some 71) (goInt cs.length)).tmps.getD 50 undef,(a.put (some 71) (goInt cs.length)).tmps.getD 51 undef,(a.put (some 71) (goInt cs.length)).tmps.getD 52 undef,(a.put (some 71) (goInt cs.length)).tmps.getD 53 undef,(a.put (some 71) (goInt cs.length)).tmps.getD 54 undef,(a.put (some 71) (goInt cs.length)).tmps.getD 55 undef,(a.put (some 71) (goInt cs.length)).tmps.getD 56 undef,(a.put (some 71) (goInt cs.length)).tmps.getD 57 undef,(a.put (some 71) (goInt cs.length)).tmps.getD 58 undef,(a.put (some 71) (goInt cs.length)).tmps.getD 59 undef,(a.put (some 71) (goInt cs.length)).tmps.getD 60 undef,(a.put (some 71) (goInt cs.length)).tmps.getD 61 undef,(a.put (some 71) (goInt cs.length)).tmps.getD 62 undef,(a.put (some 71) (goInt cs.length)).tmps.getD 63 undef,(a.put (some 71) (goInt cs.length)).tmps.getD 64 undef,(a.put (some 71) (goInt cs.length)).tmps.getD 65 undef,(a.put (some 71) (goInt cs.length)).tmps.getD 66 undef,(a.put (some 71) (goInt cs.length)).tmps.getD 67 undef,(a.put (some 71) (goInt cs.length)).tmps.getD 68 undef,(a.put (some 71) (goInt cs.length)).tmps.getD 69 undef,(a.put (some 71) (goInt cs.length)).tmps.getD 70 undef,(a.put (some 71) (goInt cs.length)).tmps.getD 71 undef,(lhd ⟨cE,⟨aj.os,aj.tape,aj.output,aj.size,aj.block⟩⟩),(q8z (a:=a.put (some 71) (goInt cs.length)) (by show (a.tmps.setIfInBounds 71 _).size=74;rw[Array.size_setIfInBounds];exact hsz) aO (q9w (i:=22) rfl rfl ab)).trans ?_⟩));kernel_rfl
    case done=>exact fun _ _ h=>h
   case rest =>
    refine cD _ _ ?_;go_wp2;go_roundw
    case measure=>simp[vI];omega
    case rel =>exact⟨k+1,qh (by omega),by omega,(lhd (HK.out.trans hcut.out.2)),(lhd hcut.out.1)⟩
  ·have aM:k=L:=by omega
   have iA:pS S.flatten K (q8w (jk p q (jl A B)).2 m k)=S.flatten:=by rw[aM,H3.b4,H4.b7];have e:=HJ.b2;subst e;exact qrd (show 0<p by omega) HO.a2 HO.a3 HO.a4
   rw[iA]at HR;have hb:=HW.a8;have lW:=HW.a6;have bT:B5≠E/\w+1+1≠E:=by omega
   have x0:=HK.out.cell (p:=B5) bT.1 HW.out.1;have x1:=HK.out.cell (p:=⟨B5,1,none⟩) bT.1 HW.a1;have x2:=HK.out.cell (p:=⟨B5,2,none⟩) bT.1 HW.a2;have x3:=HK.out.cell (p:=⟨B5,3,none⟩) bT.1 HW.a3;have r0:=HK.out.cell (p:=(w+1+1:Nat)) bT.2 (Cx.keep lW (H0.a4 0 _ rfl));have r1:=HK.out.cell (p:=⟨w+1+1,1,none⟩) bT.2 (Cx.keep lW (H0.a4 1 _ rfl));have r2:=HK.out.cell (p:=⟨w+1+1,2,none⟩) bT.2 (Cx.keep lW (H0.a4 2 _ rfl));have r3:=HK.out.cell (p:=⟨w+1+1,3,none⟩) bT.2 (Cx.keep lW (H0.a4 3 _ rfl));have ak:w.heap.size+1+1<W0:=by have:=H0.a1;omega
   have cL:∀i,wr.frozen? ⟨w+1+1,i,none⟩=false:=fun i=>HK.out.q5d bT.2 (gz ak lW.size) (xf lW (by exact ak) (H0.b5 i))
   have z0:=cL 0;have z1:=cL 1;have z2:=cL 2;have z3:=cL 3;have iw:=yh hb lW ak;clear aM iA bT lW cL ak hb;go_wp2_with fail;obtain⟨e0,e1,e2,e3⟩:=q1f r0 r1 r2 r3;obtain⟨hb,lW,ak⟩:=iw.out;have Ic:=H0.a1;have aT:Below w w wr:=HK.out.lower (H0.out.1.trans (lW.mono (by omega))) (by omega) (by have:=lW.size;omega);have Ia:=H4.b7;refine bodyPost_ret (v:=.tuple #[.agg #[.int .i64 p,.int .i64 n,.int .i64 m,.slice (some ⟨E,0,none⟩) K K],.bool true]) (by simp[results,Tryz.results58,go_sem,e0,e1,e2,e3]) rfl ⟨E,by rw[Ia],by omega,?_,jj aT (by omega) _ _ _ _⟩;have HI:=HR.out;exact(((HI.set _ _ (by show w.heap.size+1+1≠E;omega)).set _ _ (by show w.heap.size+1+1≠E;omega)).set _ _ (by show w.heap.size+1+1≠E;omega)).set _ _ (by show w.heap.size+1+1≠E;omega)
theorem quy (v u:ε)(x y:Nat)(w:δ)(h:Sl w 1 v (du (dig 4294967296 x)))(k:Sl w 1 u (du (dig 4294967296 y)))(hxy:x<y) :
  Calls Tryz.prog 92 #[v,u] w fun e w'=>e=.returned (ψ #[O Z 0 0,v])/\Below w w w':=by
 go_enter Tryz.func92,Tryz.ntmps92;go_wp2_with fail;refine(qpx _ _ x y _ h k).mono ?_;rintro e w1 ⟨rfl,hb⟩;have hc:q5o x y=-1:=q3l hxy;rw[hc];go_wp2;go_ret2;exact⟨rfl,hb⟩
theorem quz (n:Bool)(s t:ByteArray)(w:δ)(hs:s.size<=1099511627776)(ht:t.size<=1099511627776)(hxy:qy s.data.toList<qy t.data.toList) :
  Calls Tryz.prog 65 #[I #[τ n,ω s],I #[τ false,ω t]] w fun e w'=>e=.returned (ψ #[wv (if n=true/\qy s.data.toList≠0 then -1 else 0),wv (if n=true/\qy s.data.toList≠0 then (qy t.data.toList:Int)-qy s.data.toList else qy s.data.toList),τ true])/\Below w w w':=by
 have hl:=vp s;have nc:=vp t;generalize hx:qy s.data.toList=x at *;generalize hy:qy t.data.toList=y at *;have Hx:=lhd hx;clear hx;have Hy:=lhd hy;clear hy;go_enter Tryz.func65,Tryz.ntmps65;go_wp2_with fail;obtain⟨W,hW⟩:=x4 ((((w.alloc (.cells #[τ n,ω s] 110)).alloc (.cells #[τ false,ω t] 110)).alloc (.cells #[τ false,ω ⟨#[]⟩] 110)).alloc (.cells #[τ false,ω ⟨#[]⟩] 110));rw[<-hW];have b0:Bx W w n s:=hW ▸ (((Bx.new w n s _).alloc (by simp) _).alloc (by simp;omega) _).alloc (by simp;omega) _;have b1:Bx W (w+1) false t:=by rw[hW];have:=Bx.new (w.alloc (.cells #[τ n,ω s] 110)) false t 110;exact((by simpa using this:Bx _ (w+1) false t).alloc (by simp) _).alloc (by simp) _
 have b2:Bx W (w+1+1) false ⟨#[]⟩:=by rw[hW];have:=Bx.new ((w.alloc (.cells #[τ n,ω s] 110)).alloc (.cells #[τ false,ω t] 110)) false ⟨#[]⟩ 110;exact(by simpa using this:Bx _ (w+1+1) false ⟨#[]⟩).alloc (by simp) _
 have b3:Bx W (w+1+1+1) false ⟨#[]⟩:=by rw[hW];have:=Bx.new (((w.alloc (.cells #[τ n,ω s] 110)).alloc (.cells #[τ false,ω t] 110)).alloc (.cells #[τ false,ω ⟨#[]⟩] 110)) false ⟨#[]⟩ 110;simpa using this
 have hw:Below w w W:=hW ▸ ((((q9).alloc (nlr _) _).alloc (by simp) _).alloc (by simp;omega) _).alloc (by simp;omega) _;have hz:w.heap.size+4<=W:=by rw[hW];simp
 clear hW;have ⟨p0,p1,_,_⟩:=b0;have ⟨q0,q1,_,_⟩:=b1;have ml:True:=trivial
 go_region_held3 (fun w'=>w' w=τ n/\w' ⟨w,1,Z⟩=ω s/\w' (w+1:Nat)=τ false/\w' ⟨w+1,1,Z⟩=ω t)
  (first|exact⟨by assumption,by assumption,by assumption,by assumption⟩|(refine⟨?_,?_,?_,?_⟩ <;> exact xe (xe (by assumption) (by simp <;> omega)) (by simp <;> omega)))
  (first
   |(go_at_call 91;have _t:=ml;refine(qgq _ _ _ (by omega)).mono ?_;rintro e w1 ⟨u,rfl,hu,ae⟩;rw[Hx.out]at hu;have aF:Below (w+4) W w1:=xt (ae.mono (by simpa using hz));obtain⟨a0,a1,-,-⟩:=b0.keep aF (by omega);obtain⟨a2,a3,-,-⟩:=b1.keep aF (by omega);clear _t ml)
   |(go_at_call 91;refine(qgq _ _ _ (by omega)).mono ?_;rintro e w2 ⟨v,rfl,hv,aj⟩;rw[Hy.out]at hv;have fz:=hu.keep aj;have aI:Below (w+4) W w2:=bump aF hz aj;obtain⟨f0,f1,-,-⟩:=b0.keep aI (by omega);obtain⟨f2,f3,-,-⟩:=b1.keep aI (by omega)))
 have de:w.heap.size+4<=w2:=gd hz aI.size;have c0:=b0.keep aI (by omega);have c1:=b1.keep aI (by omega);have c2:=b2.keep aI (by omega);have c3:=b3.keep aI (by omega);obtain⟨ua,un,uc,rfl⟩:=qg fz;obtain⟨va,vn,vc,rfl⟩:=qg hv;have tP:=fz.open.2.2.1;have mR:=hv.open.2.2.1;rw[q18,gK]at tP mR;have jZ:(dig 4294967296 y).length≠0:=fun e=>by have:=(q42 4294967296 y (by omega)).1 (gl e);omega
 have B8:¬((vn:Int)=0):=by omega
 have yH:((vn:Int) == 0)=false:=by simpa using B8
 have dO:un=0↔x=0:=by
  rw[<-tP];constructor
  ·intro e;exact(q42 4294967296 x (by omega)).1 (gl e)
  ·intro e;rw[(q42 4294967296 x (by omega)).2 e];rfl
 have HL:=yt tP mR hl nc;clear tP mR jZ hl nc hu f0 f1 f2 f3 p0 p1 q0 q1 a0 a1 a2 a3 b0 b1 b2 b3;go_wp2_with fail;refine(quy _ _ x y _ fz hv hxy).mono ?_;rintro e w3 ⟨rfl,aw⟩;have aJ:Below (w+4) W w3:=aI.trans (aw.mono de);have iP:w.heap.size+4<=w3:=gd hz aJ.size
 replace fz:=fz.keep aw
 replace hv:=hv.keep aw
 have d0:=c0.keep (aw.mono de) (by omega);have d1:=c1.keep (aw.mono de) (by omega);have d2:=c2.keep (aw.mono de) (by omega);have d3:=c3.keep (aw.mono de) (by omega);have ⟨p0,p1,_,_⟩:=d0;have ⟨q0,q1,_,_⟩:=d1;clear c0 c1 c2 c3 aw;have HE:=q4q hw hz aJ d2 d3 d0 d1;clear hw hz aJ d2 d3 d0 d1 aI aF de;by_cases oP:n=true/\x≠0
 ·have CB:=lhd oP;obtain⟨rfl,lS⟩:=oP;have Xm:(0:Int)<un:=by
   rcases Nat.eq_zero_or_pos un with e|e
   ·exact absurd (dO.1 e) lS
   ·omega
  clear dO;go_wp2_with fail;obtain⟨W4,jN⟩:=x4 (w3.alloc (.cells #[H .u64 1] 135));rw[<-jN];have jE:Sl W4 1 (O w3 1 1) (du [1]):=by rw[jN];exact Sl.lit w3 135 [H .u64 1] (by simp)
  have aN:Below w3 w3 W4:=by rw[jN];exact(q9).alloc (nlr _) _
  replace fz:=fz.keep aN
  replace hv:=hv.keep aN
  have jF:=lhd aN;clear jN aN p0 p1 q0 q1;refine(qpy _ _ [] [1] _ (Sl.nil _ _) jE (fun _ h=>by cases h) (fun d h=>by simp at h;omega) (by simp) (by simp)).mono ?_;rintro e w5 ⟨qv,rfl,hq,aC⟩
  replace fz:=fz.keep aC
  replace hv:=hv.keep aC
  have lX:=lhd ((btr jF.out aC));clear aC jE;go_wp2_with fail;refine(qot _ _ y x _ hv fz (by omega) (by rw[HL.a1];have:=HL.b3;rw[HL.a1]at this;omega)).mono ?_;rintro e w6 ⟨rv,rfl,hr,cQ⟩
  replace hq:=hq.keep cQ
  have qL:=lhd ((btr lX.out cQ));obtain⟨hw,hz,aJ,d2,d3,d0,d1⟩:=HE.out;have ns:Below (w+4) W w6:=aJ.trans (qL.out.mono (by have:=aJ.size;omega));have iP:w.heap.size+4<=w3:=by have:=aJ.size;omega
  have ⟨p0,_,_,_⟩:=d0.keep (qL.out.mono iP) (by omega);have ⟨q0,_,_,_⟩:=d1.keep (qL.out.mono iP) (by omega);clear hw hz aJ d2 d3 d0 d1 cQ fz hv;have G8:((true:Bool) != false)=true:=rfl;go_wp2_with fail;have hq:Sl w6 1 qv (du (dig 4294967296 1)):=hq;refine(q8g true _ 1 _ hq (gd (q36 4294967296 (by omega) 1 1 (by decide)) (by decide))).mono ?_;rintro e w7 ⟨rfl,cq⟩
  replace hr:=hr.keep cq
  have lE:=lhd ((btr qL.out cq));clear cq p0 q0;go_wp2_with fail;refine(q8g false _ _ _ hr ?br).mono ?_
  case br=>exact gd (j4 4294967296 (by omega) _ _ (Nat.sub_le y x)) (by have:=HL.b3;omega)
  rintro e w8 ⟨rfl,fg⟩;have mT:=lhd ((btr lE.out fg));clear fg;obtain⟨hw,hz,aJ,d2,d3,_,_⟩:=HE.out;have iP:w.heap.size+4<=w3:=by have:=aJ.size;omega
  have ⟨e0,e1,y0,y1⟩:=d2.keep (mT.out.mono iP) (by omega);have ⟨g0,g1,z0,z1⟩:=d3.keep (mT.out.mono iP) (by omega);have qM:Below w w w8:=hw.trans ((aJ.trans (mT.out.mono iP)).mono (by omega));have iw:=lhd qM;clear hw hz aJ d2 d3 qM;go_wp2;refine bodyPost_ret (v:=ψ #[wv (sg (true != false) 1),wv (sg false (y-x)),τ true]) (by simp[results,Tryz.results65,go_sem,e0,e1,g0,g1]) rfl ⟨by rw[show sg (true != false) 1=-1 from rfl,show sg false (y-x)=(y:Int)-x from by unfold sg;simp;omega],(((iw.out.setCell (by simp <;> omega) _).setCell (by simp <;> omega) _).setCell (by simp <;> omega) _).setCell (by simp <;> omega) _⟩
 ·have CB:=lhd oP;have uT:n=true->un=0:=fun e=>dO.2 (gN fun h0=>oP ⟨e,h0⟩)
  clear dO oP;have key:∀(K:Exit->Act->δ->Prop),True:=fun _=>trivial
  clear key;cases n with
  |false =>
   clear uT;have G8:((false:Bool) != false)=false:=rfl;go_wp2_with fail;refine(q8g false _ 0 _ (by rw[show dig 4294967296 0=[]from jr 4294967296];exact Sl.nil _ _) (by rw[show dig 4294967296 0=[]from jr 4294967296];decide)).mono ?_;rintro e w7 ⟨rfl,cq⟩
   replace fz:=fz.keep cq
   have lE:=lhd cq;clear cq p0 p1 q0 q1;go_wp2_with fail;refine(q8g false _ _ _ fz (by have:=HL.a2;omega)).mono ?_;rintro e w8 ⟨rfl,fg⟩;have mT:=lhd ((btr lE.out fg));clear fg;obtain⟨hw,hz,aJ,d2,d3,_,_⟩:=HE.out;have iP:w.heap.size+4<=w3:=by have:=aJ.size;omega
   have ⟨e0,e1,y0,y1⟩:=d2.keep (mT.out.mono iP) (by omega);have ⟨g0,g1,z0,z1⟩:=d3.keep (mT.out.mono iP) (by omega);have qM:Below w w w8:=hw.trans ((aJ.trans (mT.out.mono iP)).mono (by omega));have iw:=lhd qM;clear hw hz aJ d2 d3 qM;go_wp2;refine bodyPost_ret (v:=ψ #[wv (sg (false != false) 0),wv (sg false x),τ true]) (by simp[results,Tryz.results65,go_sem,e0,e1,g0,g1]) rfl ⟨?_,(((iw.out.setCell (by simp <;> omega) _).setCell (by simp <;> omega) _).setCell (by simp <;> omega) _).setCell (by simp <;> omega) _⟩;rw[show sg (false != false) 0=0 from rfl,show sg false x=(x:Int)from rfl]
  |true =>
   have uT:=uT rfl;subst uT;have lS:x=0:=gN fun h0=>CB.out ⟨rfl,h0⟩
   have NP:=lhd lS;clear lS;have G8:((true:Bool) != false)=true:=rfl;go_wp2_with fail;refine(q8g true _ 0 _ (by rw[show dig 4294967296 0=[]from jr 4294967296];exact Sl.nil _ _) (by rw[show dig 4294967296 0=[]from jr 4294967296];decide)).mono ?_;rintro e w7 ⟨rfl,cq⟩
   replace fz:=fz.keep cq
   have lE:=lhd cq;clear cq p0 p1 q0 q1;go_wp2_with fail;refine(q8g false _ _ _ fz (by have:=HL.a2;omega)).mono ?_;rintro e w8 ⟨rfl,fg⟩;have mT:=lhd ((btr lE.out fg));clear fg;obtain⟨hw,hz,aJ,d2,d3,_,_⟩:=HE.out;have iP:w.heap.size+4<=w3:=by have:=aJ.size;omega
   have ⟨e0,e1,y0,y1⟩:=d2.keep (mT.out.mono iP) (by omega);have ⟨g0,g1,z0,z1⟩:=d3.keep (mT.out.mono iP) (by omega);have qM:Below w w w8:=hw.trans ((aJ.trans (mT.out.mono iP)).mono (by omega));have iw:=lhd qM;clear hw hz aJ d2 d3 qM;go_wp2;refine bodyPost_ret (v:=ψ #[wv (sg (true != false) 0),wv (sg false 0),τ true]) (by simp[results,Tryz.results65,go_sem,e0,e1,g0,g1]) rfl ⟨?_,(((iw.out.setCell (by simp <;> omega) _).setCell (by simp <;> omega) _).setCell (by simp <;> omega) _).setCell (by simp <;> omega) _⟩;rw[show sg (true != false) 0=0 from rfl,show sg false 0=0 from rfl]
theorem qdr (x:Int):qy (mg x).data.toList=x.natAbs:=by rw[q95,q0q]
theorem qv0 (x y:Int)(w:δ)(hx:nb x<=1099511627776)(hy:nb y<=1099511627776)(h1:x.natAbs<y.natAbs)(DB:0<y) :
  Calls Tryz.prog 65 #[wv x,wv y] w fun e w'=>e=.returned (ψ #[wv (if x<0 then -1 else 0),wv (x%y),τ true])/\Below w w w':=by
 have h:=quz (decide (x<0)) (mg x) (mg y) w (by rw[j5];exact hx) (by rw[j5];exact hy) (by rw[qdr,qdr];exact h1);rw[qdr,qdr]at h;have e:wv y=I #[τ false,ω (mg y)]:=by unfold wv;rw[decide_eq_false (by omega)]
 rw[e];refine h.mono ?_;rintro e w' ⟨rfl,hb⟩;refine⟨?_,hb⟩;by_cases h0:x<0
 ·rw[if_pos ⟨by simpa using h0,by omega⟩,if_pos ⟨by simpa using h0,by omega⟩,if_pos h0];have:(y.natAbs:Int)-x.natAbs=x%y:=by rw[show x%y=(x+y)%y from(Int.add_emod_right x y).symm,Int.emod_eq_of_lt (by omega) (by omega)];omega
  rw[this]
 ·rw[if_neg (fun h=>h0 (by simpa using h.1)),if_neg (fun h=>h0 (by simpa using h.1)),if_neg h0];have:(x.natAbs:Int)=x%y:=by rw[Int.emod_eq_of_lt (by omega) (by omega)];omega
  rw[this]
theorem qrp {B n:Nat}(hB:2<=B)(h0:0<n)(hn:n<B):dig B n=[n]:=by rw[dig,dif_pos ⟨hB,by omega⟩,Nat.mod_eq_of_lt hn,Nat.div_eq_of_lt hn,jr]
theorem qv1 (x:Nat)(w:δ)(hx:x<=1000000) :
  Calls Tryz.prog 66 #[wv x] w fun e w'=>e=.returned (ψ #[x,τ true])/\Below w w w':=by
 have ew:wv (x:Int)=I #[τ false,ω (mg x)]:=by unfold wv;rw[decide_eq_false (by omega)]
 rw[ew];have o4:nb (x:Int)<=1099511627776:=gd (q49 (x:Int) (by omega) (by omega)) (by decide);go_enter Tryz.func66,Tryz.ntmps66;go_wp2_with fail;obtain⟨W,hW⟩:=x4 (w.alloc (.cells #[τ false,ω (mg x)] 110));rw[<-hW];have q0:W w=τ false:=by rw[hW];simp
 have hw:Below w w W:=by rw[hW];exact(q9).alloc (nlr _) _
 clear hW;refine(qgq false (mg x) _ (by rw[j5];exact o4)).mono ?_;rintro e w1 ⟨u,rfl,hu,hb⟩;rw[qdr,Int.natAbs_natCast]at hu
 replace q0:=J hb q0
 have HB:=lhd ((btr hw hb));clear hb hw ew o4;rcases Nat.eq_zero_or_pos x with h0|h0
 ·subst h0;rw[jr]at hu;obtain⟨a,n,c,rfl⟩:=qg hu;have hn:n=0:=by have:=hu.open.2.2.1;simp[du]at this;omega
  subst hn;clear hu;go_wp2;go_loopw [5,15] (fun m i wr=>i=H φ 0/\m=H .u64 0/\w1=wr) (fun _ _ _=>0)
  case atStart=>exact⟨rfl,rfl,rfl⟩
  case round =>obtain⟨rfl,rfl,rfl⟩:=hrel;go_wp2;go_ret2;exact⟨rfl,HB.out⟩
 ·rw[qrp (by omega) h0 (by omega)]at hu;obtain⟨a,n,c,rfl⟩:=qg hu;have hn:n=1:=by have:=hu.open.2.2.1;simp[du]at this;omega
  subst hn;obtain⟨_,_,_,h4,h5⟩:=hu.open;obtain⟨ad,rfl⟩:∃ad,a=Y ad:=by
   cases a with
   |none=>have:=h4 rfl;have:=hu.open.1;omega
   |some ad=>exact⟨ad,rfl⟩
  have d0:w1 (ad.add 0)=H .u64 x:=h5 ad rfl 0 _ rfl;have d1:w1 ad=H .u64 x:=d0;clear hu h4 h5;go_wp2;go_loopw [5,15] (fun m i wr=>w1=wr/\((i=H φ 0/\m=H .u64 0)\/(i=H φ 1/\m=H .u64 x))) (fun _ i _=>1-(vI i).toNat)
  case atStart=>exact⟨rfl,.inl ⟨rfl,rfl⟩⟩
  case round =>
   obtain⟨rfl,⟨rfl,rfl⟩|⟨rfl,rfl⟩⟩:=hrel
   ·have uE:bits BinOp.or IntKind.u64 0 (x:Int)=x:=by have:=u64_or_nat 0 x (by omega) (by omega);rw[Nat.zero_or]at this;exact this
    go_wp2;exact⟨⟨trivial,.inr ⟨rfl,rfl⟩⟩,by simp[vI]⟩
   ·have Xn:¬((9223372036854775808:Int)<=(x:Int)):=by omega
    have Xo:IntKind.i64.wrap (x:Int)=x:=IntWalk.i64_in _ (by omega);go_wp2;go_ret2;exact⟨rfl,HB.out⟩
theorem qpc {x p:Int}(h0:0<p)(hp:p<=997)(h:x.natAbs<p.natAbs):nb x<=1099511627776:=gd (q49 x (by omega) (by omega)) (by decide)
theorem qvn (p:Int)(r c:Nat)(u:ε)(xs:List Int)(w:δ)(h:Sl w 2 u (wvs xs))(hx:xs.length=r*c)(hb:∀x∈xs,x.natAbs<p.natAbs)(hp:prI p=true)(hr:r<=400)(hc:c<=400) :
  Calls Tryz.prog 36 #[H φ p,I #[H φ r,H φ c,u]] w fun e w'=>∃E,e=.returned (I #[H φ p,H φ r,H φ c,O (Y ⟨E,0,Z⟩) (r*c) (r*c)])/\w.heap.size<=E/\E<w'.heap.size/\IL w' E (xs.map fun x=>x%p)/\Below w.heap.size w w':=by
 obtain⟨jL,iR,eP⟩:=q3r hp;obtain⟨a,n,cap,rfl⟩:=qg h;have hn:n=r*c:=by have:=h.open.2.2.1;rw[q2j,hx]at this;omega
 obtain⟨K,hK⟩:=x4 (r*c);have BM:K<=160000:=by rw[hK];exact gd (Nat.mul_le_mul hr hc) (by decide)
 rw[<-hK]at hn hx ⊢;subst hn;have HO:=kg h hx hb hp hK;clear h hx hb hp hK eP;go_enter Tryz.func36,Tryz.ntmps36;go_wp2_with fail;obtain⟨W0,aB⟩:=x4 ((w.alloc (.cells #[r,c,O a n cap] 75)).alloc (.cells #[H φ 0,H φ 0,H φ 0,O Z 0 0] 30));have fe:Below w w W0:=by rw[aB];exact((q9).alloc (nlr _) _).alloc (by simp) _
 have dg:W0.heap.size=w+2:=by rw[aB];simp
 have p2:W0 ⟨w,2,Z⟩=O a n cap:=by rw[aB];exact qk (xz w _ _ 2 rfl) _
 have q0:W0 (w+1:Nat)=H φ 0:=by rw[aB];exact zx w _ _ _ 0 rfl
 have q1:W0 ⟨w+1,1,Z⟩=H φ 0:=by rw[aB];exact zx w _ _ _ 1 rfl
 have q2:W0 ⟨w+1,2,Z⟩=H φ 0:=by rw[aB];exact zx w _ _ _ 2 rfl
 have q3:W0 ⟨w+1,3,Z⟩=O Z 0 0:=by rw[aB];exact zx w _ _ _ 3 rfl
 have qz:∀i,W0.frozen? ⟨w+1,i,Z⟩=false:=fun i=>by rw[aB];exact vo w _ _ _ i
 rw[<-aB];have H0:=q5h fe dg q0 q1 q2 q3 qz p2;clear aB fe dg q0 q1 q2 q3 qz p2;refine(qid p r c HO.a3 hr hc W0).mono ?_;rintro e w3 ⟨E,rfl,dr,dN,hI,aw⟩;rw[<-HO.b4]at hI ⊢;obtain⟨W,hW⟩:=x4 (w3.alloc (.cells #[p,r,c,O E n n] 30));obtain⟨B5,aS⟩:=x4 w3.heap.size;have b0:W B5=p:=by rw[hW,aS];exact xz w3 _ _ 0 rfl
 have b1:W ⟨B5,1,Z⟩=r:=by rw[hW,aS];exact xz w3 _ _ 1 rfl
 have b2:W ⟨B5,2,Z⟩=c:=by rw[hW,aS];exact xz w3 _ _ 2 rfl
 have b3:W ⟨B5,3,Z⟩=O E n n:=by rw[hW,aS];exact xz w3 _ _ 3 rfl
 have tO:Below w3 w3 W:=by rw[hW];exact(q9).alloc (nlr _) _
 have bV:Below W0 W0 W:=(btr aw tO);have jC:W=B5+1:=by rw[hW,aS];simp
 have si:E<B5/\w+2<=E:=by have:=H0.a1;omega
 have pt:IL W E (List.replicate n 0):=hI.keep tO dN;have t2:W ⟨w,2,Z⟩=O a n cap:=J bV H0.b7;have Ou:Sl W 2 (O a n cap) (wvs xs):=(HO.out.1.keep H0.out.1).keep bV;have HW:=q93 b0 b1 b2 b3 t2 Ou pt si jC bV;have CX:∀o,(w3.alloc o) ⟨w,2,Z⟩=O a n cap:=fun o=>qk (J aw H0.b7) o
 have zW:(p == 0)=false:=by simpa using (show ¬p=0 by omega)
 have Ov:=jg hW aS;clear b0 b1 b2 b3 t2 Ou pt si jC bV tO aw hI hW aS dr dN;go_wp2_with fail;rw[<-Ov.out.1,<-Ov.out.2];refine(qgv p W (by omega) (by omega)).mono ?_;rintro e w4 ⟨rfl,aN⟩;have ep:wv p=I #[τ false,ω (mg p)]:=by unfold wv;rw[decide_eq_false (by omega)]
 rw[ep];have Tz:∀o,(w4.alloc o) ⟨w,2,Z⟩=O a n cap:=fun o=>qk (J aN HW.a4) o
 have H4:=lhd aN;clear ep aN CX zW;go_wp2_with fail;obtain⟨W6,DO⟩:=x4 (w4.alloc (.cells #[τ false,ω (mg p)] 110));obtain⟨B6,ns⟩:=x4 w4.heap.size;rw[<-DO,<-ns];have BT:Below W W W6:=by rw[DO];exact H4.out.alloc H4.out.size _
 have s0:W6 B6=τ false:=by rw[DO,ns];exact xz w4 _ _ 0 rfl
 have s1:W6 ⟨B6,1,Z⟩=ω (mg p):=by rw[DO,ns];exact xz w4 _ _ 1 rfl
 have DP:B6≠E/\B5≠E/\E<W6/\w≠E/\w+1≠E:=by have h1:=H4.out.size;have h2:=HW.a7;have h3:=HW.a8;have h5:=BT.size;omega
 have HB:=yt BT s0 s1 DP;clear DO ns BT s0 s1 DP Tz;go_loopw [36] (fun q wr=>∃k:Nat,q=k/\k<=n/\Hid (Bk E W6 wr)/\Hid (IL wr E (kt (xs.map fun x=>x%p) (List.replicate n 0) k))) (fun q _=>n-(vI q).toNat)
 case atStart=>exact⟨0,rfl,gm _,(lhd (Bk.refl _ _)),(lhd (by rw[q17];exact HW.a6.keep HB.out.1 (by have h2:=HW.a7;have h3:=HW.a8;omega)))⟩
 case round =>
  obtain⟨k,rfl,hk,HK,HI⟩:=hrel;by_cases dy:k<n
  ·have cV:(k:Int)<n:=by omega
   obtain⟨x,hx⟩:∃x,xs[k]? =Y x:=⟨_,gg (by rw[HO.a1];exact dy)⟩
   obtain⟨_,_,_,g4,g5⟩:=HO.out.1.open;obtain⟨ad,rfl⟩:∃ad,a=Y ad:=by
    cases a with
    |none=>have:=g4 rfl;have:=HO.out.1.open.1;omega
    |some ad=>exact⟨ad,rfl⟩
   obtain⟨e0,e1⟩:=q7p xs k x hx;have xB:=HO.a2 x (gi hx);have tQ:Below w w W:=(btr H0.out.1 HW.b9);have sw:Below w w W6:=(btr tQ HB.out.1);have Ae:∀j u,w (ad.add j)=Y u->(ad.add j).block≠E:=fun j u hu=>by have h1:=World.block_lt_of_cell? _ _ hu;have h2:=HW.a7;omega
   have c0:=g5 ad rfl _ _ e0;have c1:=g5 ad rfl _ _ e1;have d0:wr (ad.add (k*2))=τ (decide (x<0)):=HK.out.cell (Ae _ _ c0) (J sw c0);have d1:wr ⟨(ad.add (k*2)).block,(ad.add (k*2)).off+1,Z⟩=ω (mg x):=by rw[qi _ _ _ (by omega)];exact HK.out.cell (Ae _ _ c1) (J sw c1)
   have y0:∀o,(wr.alloc o) B6=τ false:=fun o=>qk (HK.out.cell (p:=B6) HB.a3 HB.a1) o
   have y1:∀o,(wr.alloc o) ⟨B6,1,Z⟩=ω (mg p):=fun o=>qk (HK.out.cell (p:=⟨B6,1,Z⟩) HB.a3 HB.a2) o
   have z3:=HK.out.cell (p:=⟨B5,3,Z⟩) HB.a4 (J HB.out.1 HW.a3);have aq:=qv0 x p (wr.alloc (.cells #[τ (decide (x<0)),ω (mg x)] 110)) (qpc (show 0<p by omega) (by omega) xB) (gd (q49 p (by omega) (by omega)) (by decide)) xB (by omega);have ex:wv x=I #[τ (decide (x<0)),ω (mg x)]:=rfl;have ep:wv p=I #[τ false,ω (mg p)]:=by unfold wv;rw[decide_eq_false (by omega)]
   rw[ex,ep]at aq;obtain⟨rn,mU⟩:∃rn:Nat,(rn:Int)=x%p:=⟨(x%p).toNat,by have:=Int.emod_nonneg x (show p≠0 by omega);omega⟩
   have KC:rn<1000:=by have:=Int.emod_lt_of_pos x (show 0<p by omega);omega
   have er:wv (x%p)=I #[τ false,ω (mg (rn:Int))]:=by rw[<-mU];unfold wv;rw[decide_eq_false (by omega)]
   rw[er]at aq;obtain⟨q0,m0,hq⟩:∃q0 m0,wv (if x<0 then -1 else 0)=I #[τ q0,ω m0]:=⟨_,_,rfl⟩
   rw[hq]at aq;have HC:=lhd aq;have HX:=jg hx mU;have Ie:E<wr:=gz HB.a5 HK.out.size;have jD:=HB.a4;clear g4 g5 e0 e1 c0 c1 Ae tQ sw xB aq ex ep er hq hx mU;go_wp2_with fail;refine HC.out.mono ?_;rintro e w5 ⟨rfl,aC⟩;have aS:Below wr wr w5:=(bal wr _).trans (aC.mono (by simp));have H5:=lhd aS
   replace z3:=J aS z3
   clear aC aS d0 d1 y0 y1;go_upto_region 9 with fail;obtain⟨W7,pC⟩:=x4 ((w5.alloc (.cells #[τ q0,ω m0] 110)).alloc (.cells #[τ false,ω (mg (rn:Int))] 110));obtain⟨DQ,uU⟩:=x4 (w5.heap.size+1);rw[<-pC,<-uU];have KD:Below w5 w5 W7:=by rw[pC];exact((q9).alloc (nlr _) _).alloc (by simp) _
   have b2:W7 ⟨B5,3,Z⟩=O E n n:=J KD z3;have d0:W7 DQ=τ false:=by rw[pC,uU];exact zx w5 _ _ _ 0 rfl
   have d1:W7 ⟨DQ,1,Z⟩=ω (mg (rn:Int)):=by rw[pC,uU];exact zx w5 _ _ _ 1 rfl
   have uM:Below wr wr W7:=(btr H5.out KD);have DR:DQ≠E:=by have:=H5.out.size;omega
   have H7:=lhd uM;have pA:(kt (xs.map fun x=>x%p) (List.replicate n 0) k)[k]? =Y 0:=by
    have oT:(xs.map fun x=>x%p).length=n:=by rw[gp];exact HO.a1
    rw[q09 (by rw[q1p (by rw[oT,List.length_replicate]),List.length_replicate];exact dy),q3h (by rw[oT,List.length_replicate]) (by rw[List.length_replicate];exact dy)];unfold j6;rw[gb,List.getElem?_replicate,if_pos dy];rfl
   have T0:=lhd pA;have DS:∀w',Calls Tryz.prog 66 #[I #[τ false,ω (mg (rn:Int))]] w' fun e w2=>e=.returned (ψ #[rn,τ true])/\Below w' w' w2:=fun w'=>by
    have h1:=qv1 rn w' (by omega);have h2:wv (rn:Int)=I #[τ false,ω (mg (rn:Int))]:=by unfold wv;rw[decide_eq_false (by omega)]
    rw[h2]at h1;exact h1
   have T3:=lhd DS;have eG:Below W7 W7 W7.drew:=qb (Below.refl _ W7) 1;clear pC uU KD z3 uM pA DS
   go_region_held3 (fun w'=>w' ⟨B5,3,Z⟩=O E n n/\w' DQ=τ false/\w' ⟨DQ,1,Z⟩=ω (mg (rn:Int)))
    (first|exact⟨by assumption,by assumption,by assumption⟩|exact⟨xe a0 jD,xe a1 DR,xe a2 DR⟩)
    (first
     |(go_at_call 66;refine(T3.out _).mono ?_;rintro e w2 ⟨rfl,aj⟩;have aI:Below W7 W7 w2:=(btr eG aj);have a0:=J aI b2;have a1:=J aI d0;have a2:=J aI d1;have aR:=lhd ((btr H7.out aI));have DT:=lhd (HI.out.keep aR.out Ie);obtain⟨t0,t1⟩:=DT.out k _ T0.out))
   go_wp2;go_roundw
   case measure=>simp[vI];omega
   case rel =>
    refine⟨k+1,qh (by omega),by omega,(lhd ((HK.out.below aR.out).set _ _)),(show Hid _ from ?_)⟩;have oT:(xs.map fun x=>x%p).length=n:=by rw[gp];exact HO.a1
    have h5:=DT.out.put (k:=k) (by rw[q1p (by rw[oT,List.length_replicate]),List.length_replicate];exact dy) (rn:Int);have hv:(rn:Int)=j6 (xs.map fun x=>x%p) k:=by unfold j6;rw[gb,List.getElem?_map,HX.out.1,HX.out.2];rfl
    rw[hv,q2t (by rw[oT,List.length_replicate]) (by rw[List.length_replicate];exact dy)]at h5;rw[hv];exact h5
  ·have aM:k=n:=by omega
   have iA:kt (xs.map fun x=>x%p) (List.replicate n 0) k=xs.map fun x=>x%p:=by rw[aM];exact q26 (by rw[gp];exact HO.a1) List.length_replicate
   rw[iA]at HI;have bT:=HB.b3;have x0:=HK.out.cell (p:=B5) bT.2.1 (J HB.out.1 HW.out.1);have x1:=HK.out.cell (p:=⟨B5,1,Z⟩) bT.2.1 (J HB.out.1 HW.a1);have x2:=HK.out.cell (p:=⟨B5,2,Z⟩) bT.2.1 (J HB.out.1 HW.a2);have x3:=HK.out.cell (p:=⟨B5,3,Z⟩) bT.2.1 (J HB.out.1 HW.a3);have bV:Below W0 W0 W6:=(btr HW.b9 HB.out.1);have r0:=HK.out.cell (p:=(w+1:Nat)) bT.2.2.2.2 (J bV H0.a2);have r1:=HK.out.cell (p:=⟨w+1,1,Z⟩) bT.2.2.2.2 (J bV H0.a3);have r2:=HK.out.cell (p:=⟨w+1,2,Z⟩) bT.2.2.2.2 (J bV H0.a4);have r3:=HK.out.cell (p:=⟨w+1,3,Z⟩) bT.2.2.2.2 (J bV H0.a5);have ak:w.heap.size+1<W0:=by have:=H0.a1;omega
   have cL:∀i,wr.frozen? ⟨w+1,i,Z⟩=false:=fun i=>HK.out.q5d bT.2.2.2.2 (gz ak bV.size) (xf bV (by exact ak) (H0.a6 i))
   have z0:=cL 0;have z1:=cL 1;have z2:=cL 2;have z3:=cL 3;have pd:=yh bV bT ak;clear aM iA bT bV cL ak;go_wp2_with fail;obtain⟨e0,e1,e2,e3⟩:=q1f r0 r1 r2 r3;have lD:=pd.a1;have Ic:=H0.a1;have BN:=HW.a7;have aT:Below w w wr:=HK.out.lower (H0.out.1.trans (pd.out.1.mono (by omega))) (by omega) (by have:=pd.out.1.size;omega);have GY:=HO.b4;refine bodyPost_ret (v:=I #[H φ p,H φ r,H φ c,O (Y ⟨E,0,Z⟩) n n]) (by simp[results,Tryz.results36,go_sem,e0,e1,e2,e3]) rfl ⟨E,rfl,by omega,?_,?_,jj aT (by omega) _ _ _ _⟩
   ·have:=HK.out.size;simp[World.setCell];omega
   ·exact(((HI.out.set _ _ (by show w.heap.size+1≠E;omega)).set _ _ (by show w.heap.size+1≠E;omega)).set _ _ (by show w.heap.size+1≠E;omega)).set _ _ (by show w.heap.size+1≠E;omega)
theorem vm {p:Int}(h:prI p=true):0<p/\1<p/\prN p.toNat=true:=by obtain⟨h1,_,h3⟩:=q3r h;exact⟨by omega,by omega,h3⟩
theorem qbh {w:δ}{p:Int}{r m E:Nat}{M:List (List Int)}(hI:IL w E M.flatten)(hM:FM p r m M)(hr:r<=800)(hm:m<=800):FmV w (I #[p,r,m,O E (r*m) (r*m)]) p r m M :=
 ⟨_,rfl,hI.sl hM.q1d (gd (Nat.mul_le_mul hr hm) (by decide)),hM⟩
section
variable {w:δ}{v u:ε}{p:Int}{r n m:Nat}{A B M:List (List Int)}
theorem qpd (h:FmV w v p r m M)(hp:prI p=true)(hr:r<=400)(hm:m<=400):Calls Tryz.prog 15 #[v] w fun e w'=>e=.returned (q2r p m M:Int)/\Below w w w':=by obtain⟨s,rfl,h1,hA⟩:=h;exact qsy p r m s M w h1 hp hA hr hm
theorem qb9 (h:FmV w v p r m M)(hp:prI p=true)(hr:r<=400)(hm:m<=400):Calls Tryz.prog 50 #[v] w fun e w'=>∃x,e=.returned x/\FmV w' x p m r (trM r m M)/\Below w w w':=by obtain⟨s,rfl,h1,hA⟩:=h;refine(qdn p r m s M w h1 hp hA hr hm).mono ?_;rintro e w' ⟨E,rfl,_,_,hI,hb⟩;exact⟨_,rfl,qbh hI (q8j hA) (by omega) (by omega),hb⟩
theorem qmt (h:FmV w v p r m M)(hp:prI p=true)(hr:r<=400)(hm:m<=400):Calls Tryz.prog 40 #[v] w fun e w'=>∃x t,e=.returned (ψ #[x,t])/\FmV w' x p r m (jk p m M).1/\Sl w' 1 t (ints (nI (jk p m M).2))/\Below w w w':=by obtain⟨s,rfl,h1,hA⟩:=h;have hF:=q0s (vm hp).1 hA;refine(q9t p r m s M w h1 hp hA hr hm).mono ?_;rintro e w' ⟨sv,t,rfl,hR,hO,hb⟩;exact⟨_,_,rfl,⟨_,rfl,hR.sl,hF.1⟩,Sl.qc hO,hb⟩
theorem qpe (h:FmV w v p r n A)(k:FmV w u p r m B)(hp:prI p=true)(hr:r<=400)(oy:n+m<=400):Calls Tryz.prog 28 #[v,u] w fun e w'=>∃x,e=.returned (ψ #[x,τ true])/\FmV w' x p r (n+m) (jl A B)/\Below w w w':=by obtain⟨s,rfl,h1,hA⟩:=h;obtain⟨t,rfl,k1,hB⟩:=k;refine(qop p r n m s t A B w h1 k1 hp hA hB hr oy).mono ?_;rintro e w' ⟨s,rfl,hO,hb⟩;exact⟨_,rfl,⟨_,rfl,Sl.qc hO,q0u hA hB⟩,hb⟩
theorem qrq {S:List (List Int)}(h:FmV w v p r n A)(k:FmV w u p r m B)(hp:prI p=true)(hr:r<=400)(hn:n<=400)(hm:m<=400)(hS:qca p n m A B=Y S):Calls Tryz.prog 58 #[v,u] w fun e w'=>∃E,e=.returned (ψ #[I #[H φ p,H φ n,H φ m,O (Y ⟨E,0,Z⟩) (n*m) (n*m)],τ true])/\w.heap.size<=E/\Sl w' 1 (O (Y ⟨E,0,Z⟩) (n*m) (n*m)) (ints S.flatten)/\FM p n m S/\Rw w' E S.flatten/\Below w.heap.size w w':=by obtain⟨s,rfl,h1,hA⟩:=h;obtain⟨t,rfl,k1,hB⟩:=k;have hF:=qg3 (vm hp).1 hA hB hS;refine(qtm p r n m s t A B S w h1 k1 hp hA hB hr hn hm hS).mono ?_;rintro e w' ⟨E,rfl,hE,hI,hb⟩;exact⟨E,rfl,hE,hI.il.sl hF.q1d (gd (Nat.mul_le_mul hn hm) (by decide)),hF,hI,hb⟩
theorem qfo {xs:List Int}{s:ε}(h:Sl w 2 s (wvs xs))(hM:FM p r m M)(hx:xs.map (fun x=>x%p)=M.flatten)(hb:∀x∈xs,x.natAbs<p.natAbs)(hp:prI p=true)(hr:r<=400)(hm:m<=400):Calls Tryz.prog 36 #[H φ p,I #[H φ r,H φ m,s]] w fun e w'=>∃x,e=.returned x/\FmV w' x p r m M/\Below w.heap.size w w':=by
 have hl:xs.length=r*m:=by rw[<-hM.q1d,<-hx,gp]
 refine(qvn p r m s xs w h hl hb hp hr hm).mono ?_;rintro e w' ⟨E,rfl,_,_,hI,hb⟩;rw[hx]at hI;exact⟨_,rfl,qbh hI hM (by omega) (by omega),hb⟩
end
