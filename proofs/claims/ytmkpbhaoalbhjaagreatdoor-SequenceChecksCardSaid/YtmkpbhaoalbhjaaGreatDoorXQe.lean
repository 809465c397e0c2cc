/- Steps towards SequenceChecks. Conditions: none. -/
import Derived.Deep.RegionHeldLaw
import Derived.Test.YtmkpbhaoalbhjaaGreatDoorXQd
set_option maxRecDepth 1000000
set_option maxHeartbeats 0
open Go.Value renaming slice→O,agg→I,int→H,tuple→ψ
open Option renaming none→Z,some→Y
open Go.IntKind renaming i64→φ
open Go renaming World→δ,Value→ε
open Go.Cx renaming keep→J
namespace Go.Proofs.YtmkpbhaoalbhjaaGreatDoor
open Go.RowKit Go.Cx Go.Maps
attribute [local go_sem ↓] Go.wp_at_zero Go.wp_at_succ
theorem qin (i d:Int)(a:Option Addr)(n c:Nat):∀w:δ,(Instr.field 52 (I #[i,d,O a n c]) 2).run Tryz.prog w=.ok (O a n c) w:=fun w=>by kernel_rfl
end Go.Proofs.YtmkpbhaoalbhjaaGreatDoor
namespace Go.Cx
theorem q6l {α:Type}(key:α->Int)(L:List α)(c:Int):(xb key L).find? (fun x=>key x == c)=L.find? (fun x=>key x == c):=by
 cases hf:(xb key L).find? (fun x=>key x == c)with
 |some X =>
  have h1:=gR hf;have h2:=List.find?_some hf;have h2:key X=c:=by simpa using h2
  subst h2;exact(q4n (key:=key) L X h1).symm
 |none =>
  symm
  rw[List.find?_eq_none]at hf ⊢;intro As hY hk;obtain⟨X,hX,e⟩:=(qee (key:=key) c).2 ⟨As,hY,by simpa using hk⟩;exact hf X hX (by simpa using e)
theorem q1l {T:Int->Option Cl}{x:Cl}(h:xx T x=0):x.s.length<=64/\(∀s∈x.s,s.g=1\/s.g=-1)/\(1<x.dim->0<x.s.length):=by
 unfold xx at h;split at h
 ·cases h
 ·rename_i h1;split at h
  ·cases h
  ·rename_i h2;split at h
   ·cases h
   ·split at h
    ·cases h
    ·rename_i h4;refine⟨by omega,fun s hs=>?_,by omega⟩;apply gN;intro hn;apply h4;rw[List.any_eq_true];exact⟨s,hs,by simp;omega⟩
end Go.Cx
namespace Go.Proofs.YtmkpbhaoalbhjaaGreatDoor
open Go.Cx Go.RowKit
theorem qlg {m:List Ce}{K:List Cl}(h:m.map Ce.cl=canon K):qx m=cAt K:=by
 funext c
 unfold qx cAt cellsOf;rw[q6l,<-h,List.find?_map];rfl
theorem q6m {mm l:List Ce}(dU:mm.map Ce.cl=canon (l.map Ce.cl))(fj:COk l):∀x∈mm,I64 x.id/\I64 x.dim/\∀s∈x.s,I64 s.c/\I64 s.g:=fun x hx=>by
 have h1:x.cl∈canon (l.map Ce.cl):=by rw[<-dU];exact bG hx
 unfold canon at h1;obtain⟨y,hy,e⟩:=gj.1 h1;obtain⟨z,hz,rfl⟩:=gj.1 ((q2m _ _).1 hy);have e1:z.id=x.id:=congrArg Cl.id e;have e2:z.dim=x.dim:=congrArg Cl.dim e;have e3:stb Sd.c z.s=x.s:=congrArg Cl.s e;obtain⟨⟨a1,a2⟩,_,a3⟩:=fj z hz;exact⟨e1 ▸ a1,e2 ▸ a2,fun s hs=>a3 s ((q2m _ _).1 (e3 ▸ hs))⟩
theorem qlh (v:ε)(l:List Ce)(w:δ)(h:SlC w v l)(hl:l.length<=19)(fj:COk l)(hc:chk (l.map Ce.cl)=(0,0)) :
  Calls Tryz.prog 46 #[I #[v]] w fun e w'=>e=.returned (ψ #[H φ 0,H φ 0])/\Below w w w':=by
 obtain⟨a,len,cap,rfl⟩:=qg h.1;have hlen:l.length=len:=by obtain⟨_,_,h3,_⟩:=h.1.open;rw[qt Ce.qp]at h3;omega
 have HA:=yt h hl fj (qhu hc).2;have h4:¬4000<len:=by omega
 clear h hl fj hlen hc;go_enter Tryz.func46,Tryz.ntmps46;go_wp2_with fail;obtain⟨W,hW⟩:=x4 (w.alloc (.cells #[O a len cap] 36));rw[<-hW];have bV:Below w w W:=by rw[hW];exact bal w _
 have kb:W w=O a len cap:=by rw[hW];exact qd w #[O a len cap] 36 (0,0) 0
 clear hW;refine(qnb _ l W (HA.out.1.keep bV) HA.a1 HA.a2).mono ?_;rintro e w1 ⟨T,rfl,hT,aF⟩;have Si:=J aF kb;have Dk:Below w w w1:=(btr bV aF);have HT:=lhd hT;have cX:=lhd Dk;clear hT Dk aF kb bV;go_wp2_with fail;refine(q8l _ l w1 (HA.out.1.keep cX.out) HA.a1 (fun x hx=>(HA.a2 x hx).2.1)).mono ?_;rintro e w2 ⟨r,mm,rfl,dU,al,dM,aI⟩;obtain⟨B,nT,Xi,m,_,_,t3,_,t5,_,t7,t8⟩:=HT.out;have mG:Below w w w2:=(btr cX.out aI);have q0:w2 T=Value.map (Y B):=J aI t3;have Dl:=t5.keep aI;have iq:=Sl.qc al;obtain⟨a2,n2,c2,rfl⟩:=qg iq;have kP:∀x∈mm,Sl w2 2 x.sl (cat Sd.enc x.s):=fun x hx=>Sl.qc (dM x hx)
 have bZ:mm.length=n2:=by obtain⟨_,_,h3,_⟩:=iq.open;rw[qt Ce.qp]at h3;omega
 have Sj:n2<=2^62:=by
  have h1:mm.length=l.length:=by rw[<-gp (f:=Ce.cl),dU,q0z,gp]
  have:=HA.a1;omega
 have hG:∀(k:Nat) (x:Ce),mm[k]? =Y x->0<x.id/\xx (qx m) x.cl=0/\x.dim<=1/\∀j y,j<k->mm[j]? =Y y->y.id<x.id:=fun k x hx=>by
  have eZ:x.cl∈canon (l.map Ce.cl):=by rw[<-dU];exact bG (gi hx)
  obtain⟨g1,g2⟩:=HA.b3;obtain⟨g3,g4,g5⟩:=g2 _ eZ;rw[<-qlg t7]at g4;refine⟨g3,g4,g5,fun j y hj hy=>?_⟩;rw[<-dU]at g1;obtain⟨u1,rfl⟩:=gk.1 hx;obtain⟨u2,rfl⟩:=gk.1 hy;have h9:=bb.1 g1 j k (by simpa using u2) (by simpa using u1) hj;rw[List.getElem_map,List.getElem_map]at h9;exact h9
 have HI:=jg (q6m dU HA.a2) hG;have tz:=q3b a2 n2 c2;have GG:=jg q0 Dl;have HC:=jg iq kP;have HN:=lhd bZ;have aR:=lhd mG;clear dU al dM aI t3 t5 t7 t8 mG q0 Dl iq kP bZ Si hG;go_wp2_with fail;clear tz;go_loopw [5,24] (fun la i wr=>∃(k:Nat) (last:Int),i=k/\la=last/\k<=n2/\Hid (∀x,mm[k]? =Y x->last<x.id)/\Below w2 w2 wr) (fun _ i _=>n2-(vI i).toNat)
 case atStart=>exact⟨0,0,rfl,rfl,gm _,(lhd (fun x hx=>(HI.out.2 0 x hx).1)),q9⟩
 case round =>
  obtain⟨k,last,rfl,rfl,hk,HK,hB⟩:=hrel;by_cases ak:k<n2
  ·obtain⟨x,hx⟩:∃x,mm[k]? =Y x:=⟨_,gg (by rw[HN.out];exact ak)⟩
   obtain⟨h2,h3,h4,h5,h6⟩:=HC.out.1.open;obtain⟨ad,rfl⟩:=sadq h5 (by omega)
   obtain⟨e0,e1,e2⟩:=zh mm k x hx;have d0:wr (ad.add (k*3))=x.id:=J hB (h6 ad rfl _ _ e0);have d1:wr ⟨(ad.add (k*3)).block,(ad.add (k*3)).off+1,Z⟩=x.dim:=by rw[qi _ _ _ (by omega)];exact J hB (h6 ad rfl _ _ e1)
   have d2:wr ⟨(ad.add (k*3)).block,(ad.add (k*3)).off+2,Z⟩=O x.a x.n x.c:=by rw[qi _ _ _ (by omega)];exact J hB (h6 ad rfl _ _ e2)
   have Sk:=HK.out x hx;have HX:=yh (gi hx) hx hB;clear h2 h3 h4 h5 h6 e0 e1 e2 hx hB;go_wp2_with fail;obtain⟨C1,hV⟩:=x4 (wr.alloc (.cells #[x.id,x.dim,O x.a x.n x.c] 52));have v0:C1 wr=x.id:=by rw[hV];exact qd wr #[x.id,x.dim,O x.a x.n x.c] 52 (0,0) 0
   have rG:Below w2 w2 C1:=by rw[hV];exact HX.b2.alloc HX.b2.size _
   rw[<-hV];obtain⟨_,f1,f2,_⟩:=HI.out.2 k x HX.a1;have aq:=qo3 T B nT m x C1 (J rG GG.out.1) (GG.out.2.keep rG) ((HC.out.2 x HX.out.1).keep rG) (HI.out.1 x HX.out.1).2.1 (HI.out.1 x HX.out.1).2.2 f1 f2;have HV:=lhd rG;clear hV rG f1 f2;refine aq.mono ?_;rintro e w3 ⟨rfl,aJ⟩;have Xj:=J aJ v0;have dh:=lhd ((btr HV.out aJ));clear aq v0 aJ;go_wp2_with fail;go_roundw
   case measure=>simp[vI];omega
   case rel=>exact⟨k+1,x.id,qh (by omega),rfl,by omega,(lhd (fun y hy=>(HI.out.2 (k+1) y hy).2.2.2 k x (by omega) HX.a1)),dh.out⟩
  ·have Sm:=lhd hB;have oM:((k:Int)<(n2:Int))=False:=by simp;omega
   go_wp2_with fail;clear oM hB;obtain⟨w4,oA⟩:=x4 wr;subst oA;go_loopw [47] (fun i wr=>∃k:Nat,i=k/\k<=n2/\Below w2 w2 wr) (fun i _=>n2-(vI i).toNat)
   case atStart=>exact⟨0,rfl,gm _,Sm.out⟩
   case round =>
    obtain⟨k,rfl,hk,hB⟩:=hrel;by_cases ak:k<n2
    ·obtain⟨x,hx⟩:∃x,mm[k]? =Y x:=⟨_,gg (by rw[HN.out];exact ak)⟩
     obtain⟨h2,h3,h4,h5,h6⟩:=HC.out.1.open;obtain⟨ad,rfl⟩:=sadq h5 (by omega)
     obtain⟨e0,e1,e2⟩:=zh mm k x hx;have d0:wr (ad.add (k*3))=x.id:=J hB (h6 ad rfl _ _ e0);have d1:wr ⟨(ad.add (k*3)).block,(ad.add (k*3)).off+1,Z⟩=x.dim:=by rw[qi _ _ _ (by omega)];exact J hB (h6 ad rfl _ _ e1)
     have d2:wr ⟨(ad.add (k*3)).block,(ad.add (k*3)).off+2,Z⟩=O x.a x.n x.c:=by rw[qi _ _ _ (by omega)];exact J hB (h6 ad rfl _ _ e2)
     have hd:¬1<x.dim:=by have:=(HI.out.2 k x hx).2.2.1;omega
     have HX:=lhd hB;clear h2 h3 h4 h5 h6 e0 e1 e2 hx hB;go_wp2_with fail;go_roundw
     case measure=>simp[vI];omega
     case rel=>exact⟨k+1,qh (by omega),by omega,HX.out.alloc HX.out.size _⟩
    ·have Sn:=lhd hB;go_wp2_with fail;go_ret2;exact⟨rfl,(btr aR.out Sn.out)⟩
