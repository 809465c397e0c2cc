/- Steps towards SequenceChecks. Conditions: none. -/
import Derived.Test.YtmkpbhaoalbhjaaGreatDoorXNf
import Derived.Test.YtmkpbhaoalbhjaaGreatDoorXNh
set_option maxRecDepth 1000000
set_option maxHeartbeats 0
open Go.Value renaming slice→O,agg→I,pointer→σ,bool→τ,int→H,tuple→ψ
open Option renaming none→Z,some→Y
open Go.IntKind renaming i64→φ
open Go renaming World→δ,Value→ε
namespace Go.Proofs.YtmkpbhaoalbhjaaGreatDoor
open Go.RowKit Go.Cx Go.Shelf Go.Lib Go.Sort Go.Proofs
variable {P:Program}{k:Nat}{α:Type}[Inhabited α]
theorem qkj (L:qhh P k)(enc:α->List ε)(cf:α->α->Int)(key:α->Int)(g:Nat)(cb:Array ε)(blk off cap sz:Nat)(d0:Array α)(w0:δ)(eg:∀args w,(callFunc g args).run P w=.ok (.enter g args) w)(fX:CmpLays P g cb enc k cf blk off d0.size w0)(av:∀x y,cf x y<0↔key x<key y)(R:RowK enc k w0 blk off d0)(hs:d0.size=sz)(hsz:sz<=19)(d:Array α)(w:δ)(S:SWK enc k w0 blk off d w)(uw:d.size=sz) :
  Calls P 158 #[O (Y ⟨blk,off,Z⟩) sz cap,sz,.func (.func g) #[] cb] w fun e w' =>
   e=.returned (ψ #[])/\∃d':Array α,qs key d.toList d'.toList/\Srt key d'.toList/\SWK enc k w0 blk off d' w':=by
 have LL:Aside _:=L;have RR:Aside _:=R;have HC:Aside _:=fX;have lz:Aside _:=av;have EG:Aside _:=eg;have cI:=L.c0;have cM:=L.c1;have mixed:=L.mixed;have aE:=L.aE;have zE:=L.zE;have uS:=run_underlying L.tS;have tN:=L.tN;have tNa:=L.tNa;have tNz:=L.tNz;have tNv:=L.tNv;have tB:=L.tB;have tBa:=L.tBa;have tBz:=L.tBz;have tBv:=L.tBv;have tS:=L.tS;have tSa:=L.tSa;have tSz:=L.tSz;have tSv:=L.tSv;have tU:=L.tU;have tUa:=L.tUa;have tUz:=L.tUz;have tUv:=L.tUv;have t0:=L.t0;have t0a:=L.t0a;have t0z:=L.t0z;have t0v:=L.t0v
 have S1:Aside _:=S;obtain⟨l,hl⟩:=x4 d.toList;have aW:l.length=sz:=by rw[hl,bo];exact uw
 have HL:=lhd hl;clear hl;have RW:=lhd aW;clear fX av S;go_enter L.f4,Tryz.ntmps158;clear L R;go_wp2;go_loopg [7,8] sz (fun g1 va vb wr=>va=H φ 0/\vb=H φ 20/\Aside (SWK enc k w0 blk off d wr))
 case atStart=>exact⟨rfl,rfl,S1⟩
 case round =>
  clear S1;obtain⟨rfl,rfl,S1⟩:=hrel;have nK:¬(20:Int)<=(sz:Int):=by omega
  go_wp2_with fail;refine(qki LL.out enc cf key g cb blk off cap sz d0 w0 eg HC.out lz.out RR.out hs (by omega) d wr S1.out 0 sz [] l [] (by rw[HL.out];simp) rfl (by omega) (nlr _) uw).mono ?_;rintro e w2 ⟨rfl,d2,m2,iZ,dE,bZ,S2⟩;have hB:qs key l d2.toList/\Srt key d2.toList:=by rw[iZ,bl,List.nil_append];exact⟨dE,bZ⟩
  have HB:=lhd hB;clear iZ dE bZ hB S1;have S1:Aside _:=S2;clear S2;go_wp2;go_loopg [6,7,8,9] 0 (fun g2 v6 v7 v8 v9 rB=>v6=H φ 20/\Aside (SWK enc k w0 blk off d2 rB))
  case atStart=>exact⟨rfl,S1⟩
  case round =>
   clear S1;obtain⟨rfl,S1⟩:=hrel;have nK:¬(20:Int)<(sz:Int):=by omega
   go_wp2
   go_end0
   exact⟨rfl,d2,by rw[<-HL.out];exact HB.out.1,HB.out.2,S1.out⟩
end Go.Proofs.YtmkpbhaoalbhjaaGreatDoor
namespace Go.Proofs.YtmkpbhaoalbhjaaGreatDoor
open Go.RowKit Go.Cx Go.Sort Go.Proofs
theorem qdu (x:Sd)(w:δ):Calls Tryz.prog 108 #[I #[x.c,x.g]] w fun e w'=>e=.returned x.c/\∃q rD,w'=grow (w.drewN q) rD:=by go_enter Tryz.func108,Tryz.ntmps108;go_wp2;go_ret;exact⟨rfl,0,_,alloc_eq_grow _ _⟩
theorem qkk (x y:Sd)(bk:Nat)(w:δ)(hb:bk<w)(hc:w bk=Value.func (.func 108) #[] #[]) :
  Calls Tryz.prog 139 #[I #[x.c,x.g],I #[y.c,y.g],σ bk] w fun e w'=>e=.returned (q3u x.c y.c:Int)/\∃q rD,w'=grow (w.drewN q) rD:=by
 have mixed:Tryz.prog.follows .mixedOrders=true:=by kernel_rfl
 go_enter Tryz.func139,Tryz.ntmps139;go_wp2_with fail;have cb:∀n os,(grow (((w.alloc (.cells #[x.c,x.g] 54)).alloc (.cells #[y.c,y.g] 54)).drewN n) os) bk=Value.func (.func 108) #[] #[]:=fun n os=>cell_grown (by simp;omega) (qk (qk hc _) _) n os
 have JG:∀n os,(grow (((w.alloc (.cells #[x.c,x.g] 54)).alloc (.cells #[y.c,y.g] 54)).drewN n) os) w=x.c:=fun n os=>cell_grown (by simp;omega) (qk (qd w #[x.c,x.g] 54 (0,0) 0) _) n os
 have JH:∀n os,(grow (((w.alloc (.cells #[x.c,x.g] 54)).alloc (.cells #[y.c,y.g] 54)).drewN n) os) (w+1:Nat)=y.c:=fun n os=>cell_grown (by simp) (by have:=qd (w.alloc (.cells #[x.c,x.g] 54)) #[y.c,y.g] 54 (0,0) 0;rwa [World.size_alloc]at this) n os
 have JI:∀n os,(grow (((w.alloc (.cells #[x.c,x.g] 54)).alloc (.cells #[y.c,y.g] 54)).drewN n) os) ⟨w,1,Z⟩=x.g:=fun n os=>cell_grown (by simp;omega) (qk (qd w #[x.c,x.g] 54 (0,0) 1) _) n os
 have JJ:∀n os,(grow (((w.alloc (.cells #[x.c,x.g] 54)).alloc (.cells #[y.c,y.g] 54)).drewN n) os) ⟨w+1,1,Z⟩=y.g:=fun n os=>cell_grown (by simp) (by have:=qd (w.alloc (.cells #[x.c,x.g] 54)) #[y.c,y.g] 54 (0,0) 1;rwa [World.size_alloc]at this) n os
 obtain⟨w2,iQ⟩:=x4 ((w.alloc (.cells #[x.c,x.g] 54)).alloc (.cells #[y.c,y.g] 54));rw[<-iQ]at cb JG JH JI JJ ⊢;have By:=lhd iQ;clear iQ
 go_quiet_grown (first
  |(go_at_call 136;exact Calls.grown_of (q64 _ _ _))
  |(go_at_call 108;first|exact Calls.grown_of (qdu x _)|exact Calls.grown_of (qdu y _)))
 go_wp2;go_ret;exact⟨rfl,nq,_,by rw[By.out,q7o]⟩
theorem qhi (bk blk size:Nat)(w:δ)(hb:bk<w)(ah:bk≠blk)(hc:w bk=Value.func (.func 108) #[] #[]) :
  CmpLays Tryz.prog 139 #[σ bk] Sd.enc 2 (fun x y=>q3u x.c y.c) blk 0 size w:=by
 intro m os dk _ x y;refine qkk x y bk _ ?_ ?_
 ·unfold sortWorldK;rw[size_grow,size_putRowK];show bk<w+_;omega
 ·unfold sortWorldK;rw[cell?_grow _ _ _ (by rw[size_putRowK];exact hb),cell?_putRowK_other _ _ _ _ _ _ _ ah];exact hc
theorem qhj (c:ε)(w:δ):Calls Tryz.prog 171 #[O Z 0 0,H φ 0,H φ 0,c] w fun e w'=>e=.returned (ψ #[])/\w'=w:=by
 go_enter Tryz.func171,Tryz.ntmps171;go_wp2;go_loopg [8] 0 (fun _ vi wr=>vi=H φ 1/\wr=w)
 case atStart=>exact⟨rfl,rfl⟩
 case round =>
  obtain⟨rfl,rfl⟩:=hrel;go_wp2
  go_end0
  exact⟨rfl,rfl⟩
theorem qhk (c:ε)(w:δ):Calls Tryz.prog 158 #[O Z 0 0,H φ 0,c] w fun e w'=>e=.returned (ψ #[])/\w'=w:=by
 go_enter Tryz.func158,Tryz.ntmps158;go_wp2;go_loopg [7,8] 0 (fun _ va vb wr=>va=H φ 0/\vb=H φ 20/\wr=w)
 case atStart=>exact⟨rfl,rfl,rfl⟩
 case round =>
  obtain⟨rfl,rfl,rfl⟩:=hrel;go_wp2_with fail;refine(qhj c wr).mono ?_;rintro e w1 ⟨rfl,rfl⟩;go_wp2;go_loopg [6,7,8,9] 0 (fun _ v6 v7 v8 v9 rB=>v6=H φ 20/\rB=w1)
  case atStart=>exact⟨rfl,rfl⟩
  case round =>
   obtain⟨rfl,rfl⟩:=hrel;go_wp2
   go_end0
   exact⟨rfl,rfl⟩
theorem qkl (base bk:Nat)(v:ε)(l:List Sd)(w:δ)(h:w.ownsRow base 54 2 v l.length (cat Sd.enc l))(hl:l.length<=19)(hb:bk<w)(ah:v.ownBlock≠Y bk)(hc:w bk=Value.func (.func 108) #[] #[]) :
  Calls Tryz.prog 138 #[v,.func (.func 139) #[] #[σ bk]] w fun e w' =>
   e=.returned (ψ #[])/\∃l',qs Sd.c l l'/\Srt Sd.c l'/\w'.ownsRow base 54 2 v l'.length (cat Sd.enc l')/\w.grownBy w' v.ownBlock:=by
 have fI:=h;rcases h.2 with ⟨rfl,rE⟩|⟨g,cap,cur,rfl,hg,ot,r1,r2,r3,r4⟩
 ·have iV:l.length=0:=by have:=h.1;rw[rE]at this;simp at this;omega
  have qX:l=[]:=gl iV;subst qX;clear h rE hl iV ah hc;go_enter Tryz.func138,Tryz.ntmps138;go_wp2_with fail;refine(qhk _ w).mono ?_;rintro e w1 ⟨rfl,rfl⟩;go_wp2
  go_end0
  exact⟨rfl,[],qs.refl _,Srt.nil,fI,⟨rfl,rfl,rfl,nlr _,fun _ _ _=>rfl⟩⟩
 ·have hH:=q32 Sd.qp fI;have qY:g<w:=(gh.1 ot).1;have ub:bk≠g:=fun e=>ah (by rw[e];rfl)
  have zF:(l.toArray).size=l.length:=by simp
  have HL:=qhi bk g l.toArray.size w hb ub hc;clear h ot r1 r2 r3 r4 ah hc ub;have R:RowK Sd.enc 2 w g 0 l.toArray:=⟨Sd.qp,Sd.xu,hH,qY⟩
  have HH:=lhd fI;clear fI;have HR:Hid _:=R;have JK:Hid _:=HL;have JL:Hid _:=hH;clear R HL hH;go_enter Tryz.func138,Tryz.ntmps138;go_wp2_with fail;refine(qkj qp1 Sd.enc (fun x y=>q3u x.c y.c) Sd.c _ _ g 0 cap l.length l.toArray w Tryz.call139 JK.out (fun x y=>qaa _ _) HR.out zF hl l.toArray w (SWK.start JL.out) zF).mono ?_;rintro e w1 ⟨rfl,d',k1,k2,k3⟩;have aP:d'.size=l.length:=by have:=k1.len;simpa using this.symm
  obtain⟨z1,z2⟩:=qc6 Sd.qp HH.out aP k3;clear k3;go_wp2
  go_end0
  refine⟨rfl,d'.toList,by simpa using k1,k2,?_,z2⟩;have e5:d'.toList.length=l.length:=by rw[bo];exact aP
  rw[e5];exact z1
theorem Tryz.q05:(Tryz.prog.info? 54).map (fun i=>(i.zero,i.size,i.bytes))=Y (Y (I #[H φ 0,H φ 0]),2,16):=by kernel_rfl
theorem qf8 (v:ε)(l:List Sd)(w:δ)(h:Sl w 2 v (cat Sd.enc l))(hl:l.length<=1099511627776) :
  Calls Tryz.prog 137 #[v] w fun e w'=>∃r,e=.returned r/\w'.ownsRow w 54 2 r l.length (cat Sd.enc l)/\Below w w w':=by
 have qe:∀(w:δ) (a:Option Addr) (n c n' c':Nat),(binOp .eql 50 (O a n c) (O Z n' c')).run Tryz.prog w=.ok (τ a.isNone) w:=fun w a n c n' c'=>Lib.run_eql_slice_nil w _ _ a n c n' c' Tryz.underlying50
 obtain⟨a,n,cap,rfl,h2,h3,h4,h5,h6⟩:=h;cases a with
 |none =>
  have hc:=h5 rfl;have hn:n=0:=by omega
  subst hn hc;have iV:l=[]:=gl (by rw[qt Sd.qp]at h4;omega);subst iV;clear h2 h3 h4 h5 h6;go_enter Tryz.func137,Tryz.ntmps137;go_wp2;go_ret;exact⟨_,rfl,World.ownsRow_nil _ _ _ _,q9⟩
 |some ad =>
  have hs:Sl w 2 (O (Y ad) n cap) (cat Sd.enc l):=⟨Y ad,n,cap,rfl,h2,h3,h4,h5,h6⟩
  clear h2 h3 h4 h5 h6;have lN:Below w w (w.alloc (.cells #[] 54)):=bal w _;have hk:=hs.alloc (.cells #[] 54);have HS:=lhd hk;clear hs hk;go_enter Tryz.func137,Tryz.ntmps137;go_wp2_with (at_builtin;refine q2f (W:=w) rfl _ _ 50 rfl w 54 Tryz.q05 Tryz.underlying50 rfl (by decide) (by decide) _ _ _ rfl (zj w 54 2) _ l.length (cat Sd.enc l) rfl HS.out (qt Sd.qp l) (zo Sd.xu l) ?ad1 lN lN.size ?_)
  case ad1=>omega
  intro v1 w1 ir fp aF;go_wp2;go_ret;exact⟨_,rfl,by simpa using ir,aF⟩
theorem qc1 (v:ε)(l:List Sd)(w:δ)(h:Sl w 2 v (cat Sd.enc l))(hl:l.length<=19) :
  Calls Tryz.prog 107 #[v,.func (.func 108) #[] #[]] w fun e w'=>∃r l',e=.returned r/\qs Sd.c l l'/\Srt Sd.c l'/\w'.ownsRow w 54 2 r l'.length (cat Sd.enc l')/\Below w w w':=by
 obtain⟨a,n,cap,hv⟩:=qg h;subst hv;have HS:=lhd h;clear h;go_enter Tryz.func107,Tryz.ntmps107;go_wp2_with fail;refine(qf8 _ l _ (HS.out.alloc _) (by omega)).mono ?_;rintro e w1 ⟨r,rfl,hr,ae⟩;rw[World.size_alloc]at hr ae;have hc:w1 w=Value.func (.func 108) #[] #[]:=by have:=q1n ae (by simp) (qd w #[.func (.func 108) #[] #[]] _ (0,0) 0);exact this
 have hz:w.heap.size<w1:=by have:=ae.size;simp at this;omega
 have ah:r.ownBlock≠Y w:=fun e=>by have:=(hr.lt w e).1;omega
 have lN:Below w w w1:=(bal w _).trans (ae.mono (by omega));have iq:=qkl (w+1) w r l w1 hr hl hz ah hc;have JM:=lhd iq;have HR:=lhd hr;clear iq hc hr;go_wp2_with fail;refine JM.out.mono ?_;rintro e w2 ⟨rfl,l',k1,k2,k3,k4⟩;have aI:Below w w w2:=lN.grown k4 (by omega) (fun k hk=>by have:=(HR.out.lt k hk).1;omega);go_wp2;go_ret;exact⟨r,l',rfl,k1,k2,qf k3 (by omega),aI⟩
