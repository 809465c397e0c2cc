/- Steps towards SequenceChecks. Conditions: none. -/
import Derived.Test.YtmkpbhaoalbhjaaGreatDoorXOx
set_option maxRecDepth 1000000
set_option maxHeartbeats 0
open Go.Value renaming slice→O,agg→I,pointer→σ,bool→τ,int→H,tuple→ψ
open Option renaming none→Z,some→Y
open Go.IntKind renaming i64→φ
open Go renaming World→δ
open Go.Cx renaming keep→J
namespace Go.Cx
section
variable {T:Int->Option Cl}{x:Cl}
theorem qm3 (h:xx T x=0)(hd:x.dim<=1):((x.dim=0/\x.s.length=0)\/(x.dim=1/\x.s.length=2))/\(∀i,i<x.s.length->xq T x i=false)/\(∀s∈x.s,s.g=1\/s.g=-1)/\(x.dim=1->(x.s.map Sd.g).sum=0):=by
 unfold xx at h;split at h
 ·cases h
 rename_i h1;split at h
 ·cases h
 rename_i h2;split at h
 ·cases h
 rename_i h3;split at h
 ·cases h
 rename_i h4;split at h
 ·cases h
 rename_i h5;refine⟨by omega,fun i hi=>?_,fun s hs=>?_,fun e=>gN fun hn=>h5 ⟨e,hn⟩⟩
 ·cases hb:xq T x i with
  |false=>rfl
  |true=>exact absurd (List.any_eq_true.2 ⟨i,gF.2 hi,hb⟩) h3
 ·apply gN;intro hn;exact h4 (List.any_eq_true.2 ⟨s,hs,by simp;omega⟩)
theorem q94 {k:Nat}{s:Sd}(hs:x.s[k]? =Y s)(ht:T s.c=Z):xq T x k=true:=by unfold xq;rw[hs];dsimp only;rw[ht];rfl
theorem qay {k:Nat}{s:Sd}{y:Cl}(hs:x.s[k]? =Y s)(ht:T s.c=Y y)(h:y.dim≠x.dim-1):xq T x k=true:=by unfold xq;rw[hs];dsimp only;rw[ht];simp[h]
theorem qfz {k:Nat}{s r:Sd}{y:Cl}(hs:x.s[k+1]? =Y s)(hr:x.s[k]? =Y r)(ht:T s.c=Y y)(h:y.dim=x.dim-1):xq T x (k+1)=(r.c == s.c):=by unfold xq;rw[hs];dsimp only;rw[ht,Nat.add_sub_cancel,hr];simp[h]
end
end Go.Cx
namespace Go.Proofs.YtmkpbhaoalbhjaaGreatDoor
open Go.RowKit Go.Cx
attribute [local go_sem ↓] Go.wp_at_zero Go.wp_at_succ
def qx (m:List Ce):Int->Option Cl:=fun c=>(m.find? fun x=>x.id == c).map Ce.cl
theorem q97 (m:List Ce)(c:Int):(gOf m c).isSome=(qx m c).isSome/\∀y,qx m c=Y y->∃z∈m,z.id=c/\z.cl=y/\gOf m c=Y z.v:=by
 unfold gOf qx;cases hf:m.find? (fun x=>x.id == c)with
 |none=>exact⟨rfl,fun y h=>by cases h⟩
 |some z=>exact⟨rfl,fun y h=>⟨z,gR hf,by simpa using List.find?_some hf,osi h,rfl⟩⟩
theorem qo3 (T B n:Nat)(m:List Ce)(x:Ce)(w:δ)(q0:w T=Value.map (Y B))(dL:Mp Tryz.prog 3 w B n (gOf m))(hs:Sl w 2 x.sl (cat Sd.enc x.s))(hd:I64 x.dim)(Dh:∀s∈x.s,I64 s.c/\I64 s.g)(hF:xx (qx m) x.cl=0)(GS:x.dim<=1) :
  Calls Tryz.prog 73 #[σ T,x.v] w fun e w'=>e=.returned (H φ 0)/\Below w w w':=by
 unfold Ce.sl at hs;obtain⟨h1,h2,h3,h4,h5⟩:=hs.open;rw[qt Sd.qp]at h3;have hl:x.cl.s.length=x.n:=by show x.s.length=x.n;omega
 unfold maxLen at h2;unfold Ce.v;have HS:=lhd hs;have HM:=lhd dL;have HI:=jg hd Dh;obtain⟨f1,f2⟩:=qm3 hF GS;obtain⟨d,tH⟩:=x4 x.dim;obtain⟨xn,dO⟩:=x4 x.n;have uA:x.cl.dim=d:=tH.symm;rw[<-tH];rw[<-dO]at hl h1 ⊢;rw[hl]at f1;rw[uA]at f1;have HF:=lhd f2;have HL:=yt hl uA dO tH;have tz:∀t,Below w w (w.alloc (.cells #[x.id,d,O x.a xn x.c] t)):=fun t=>bal w _
 have Xg:=lhd tz;clear h3 h4 h5 hs dL hl hd Dh tH dO uA tz hF GS f2;have hA:¬d<0:=by omega
 have Xh:¬8<d:=by omega
 have lP:xn<=64:=by omega
 obtain⟨W,hW⟩:=x4 (w.alloc (.cells #[x.id,d,O x.a xn x.c] 52));have bV:Below w w W:=by rw[hW];exact bal w _
 have k1:W ⟨w,1,Z⟩=d:=by rw[hW];exact qd w _ _ (0,0) 1
 have k2:W ⟨w,2,Z⟩=O x.a xn x.c:=by rw[hW];exact qd w _ _ (0,0) 2
 have pd:=lhd bV;have Jh:w.heap.size<W:=by rw[hW];simp
 go_enter Tryz.func73,Tryz.ntmps73;go_upto_region 4 with fail;rw[<-hW];clear hW bV
 go_cut [25]from 26 to 54 (fun p wx=>p=τ false/\wx=W)
 case first =>
  clear HL HS HM HI HF pd;rcases f1 with ⟨rfl,rfl⟩|⟨rfl,rfl⟩
  ·go_wp2_with fail
   go_meet
   case rel=>exact⟨rfl,rfl⟩
  ·go_wp2_with fail
   go_meet
   case rel=>exact⟨rfl,rfl⟩
 case rest =>
  obtain⟨rfl,rfl⟩:=hcut;have kP:Sl w 2 (O x.a xn x.c) (cat Sd.enc x.s):=by rw[HL.a2];exact HS.out
  have JN:=lhd kP;have fC:IntKind.i64.wrap (d-1)=d-1:=(IntWalk.i64_left _).trans (IntWalk.wrap64_in _ (by omega));clear kP;go_wp2_with fail;go_loopw [58] (fun i wr=>∃k:Nat,i=k/\k<=xn/\Below wc wc wr) (fun i _=>xn-(vI i).toNat)
  case atStart=>exact⟨0,rfl,gm _,q9⟩
  case round =>
   obtain⟨k,rfl,hk,hB⟩:=hrel;have aT:Below w w wr:=(btr pd.out hB);by_cases ak:k<xn
   ·obtain⟨s,hs⟩:∃s,x.s[k]? =Y s:=⟨_,gg (by have:=HL.out.1;show k<x.cl.s.length;omega)⟩
    obtain⟨_,_,_,h5,h6⟩:=(JN.out.keep aT).open;obtain⟨ad,bR⟩:∃ad,x.a=Y ad:=by
     cases ha:x.a with
     |none=>have:=h5 ha;omega
     |some ad=>exact⟨ad,rfl⟩
    obtain⟨e0,e1⟩:=zw x.s k s hs;have g0:wr (ad.add (k*2))=s.c:=h6 ad bR _ _ e0;have g1:wr ⟨(ad.add (k*2)).block,(ad.add (k*2)).off+1,Z⟩=s.g:=by rw[qi _ _ _ (by omega)];exact h6 ad bR _ _ e1
    have Dh:=HI.out.2 s (gi hs);have av:=yx Dh.1;have GF:wr T=Value.map (Y B):=J aT q0;have fi:=HM.out.keep aT;have GU:wr ⟨w,1,Z⟩=d:=J hB k1;have GV:wr ⟨w,2,Z⟩=O x.a xn x.c:=J hB k2;have hbf:xq (qx m) x.cl k=false:=HF.out.1 k (by rw[HL.out.1];exact ak);obtain⟨z,dv,hz⟩:∃z,qx m s.c=Y (Ce.cl z)/\gOf m s.c=Y z.v:=by
     cases ht:qx m s.c with
     |none=>rw[q94 (s:=s) hs ht]at hbf;cases hbf
     |some y =>obtain⟨z,_,_,e,h⟩:=(q97 m s.c).2 y ht;exact⟨z,by rw[e],h⟩
    have NG:z.dim=d-1:=gN fun hn=>by rw[qay hs dv (by rw[HL.a1];exact hn)]at hbf;cases hbf
    have eh:∀W:δ,Mp Tryz.prog 3 W B n (gOf m)->(Instr.lookup 88 (.map (Y B)) s.c true).run Tryz.prog W=.ok (ψ #[I #[z.id,(d-1:Int),O z.a z.n z.c],τ true]) W:=fun W hW=>by have:=hW.qgy Tryz.underlying3 Tryz.underlying88 (zeroCell _) av;rw[hz]at this;rw[<-NG];exact this
    have C9:=lhd eh;have HK:=yt hs bR dv hbf;have tC:=lhd fi;have a0:(wr.alloc (.cells #[s.c,s.g] 54)) T=Value.map (Y B):=qk GF _;have a1:(wr.alloc (.cells #[s.c,s.g] 54)) wr=s.c:=qd wr _ _ (0,0) 0;have am:=fi.alloc (.cells #[s.c,s.g] 54);clear h5 h6 e0 e1 hs hz dv hbf eh fi NG;rw[bR]at GV ⊢;go_wp2_with fail
    go_region_held3 (fun w'=>w' T=Value.map (Y B)/\w' wr=s.c/\Mp Tryz.prog 3 w' B n (gOf m)/\(Instr.lookup 88 (.map (Y B)) s.c true).run Tryz.prog w'=.ok (ψ #[I #[z.id,(d-1:Int),O z.a z.n z.c],τ true]) w')
     (first
      |exact⟨by assumption,by assumption,by assumption,C9.out _ (by assumption)⟩
      |exact⟨qk (by assumption) _,qk (by assumption) _,Mp.alloc (by assumption) _,C9.out _ (Mp.alloc (by assumption) _)⟩)
     (fail)
    all_goals
     obtain⟨W3,cH⟩:=x4 (((wr.alloc (.cells #[s.c,s.g] 54)).alloc (.cells #[z.id,(d-1:Int),O z.a z.n z.c] 52)).drew);rw[<-cH];have aJ:Below wr wr W3:=by rw[cH];exact qb ((bal wr _).alloc (by simp) _) 1
     have x0:W3 wr=s.c:=by rw[cH];exact qk (qd wr #[s.c,s.g] 54 (0,0) 0) _
     have x1:W3 ⟨wr+1,1,Z⟩=(d-1:Int):=by rw[cH];have:=qd (wr.alloc (.cells #[s.c,s.g] 54)) #[z.id,(d-1:Int),O z.a z.n z.c] 52 (0,0) 1;rw[World.size_alloc]at this;exact this
     have y1:=J aJ GU;have y2:=J aJ GV;have dh:=lhd ((btr hB aJ));have JO:=lhd ((btr aT aJ));clear cH a0 a1 am aJ GU GV k1 k2 q0 GF g0 g1;have r9:((d-1) != (d-1))=false:=by simp
     have Se:((d-1) == (d-1))=true:=by simp
     by_cases rA:0<k
     ·obtain⟨mm,rfl⟩:∃mm,k=mm+1:=⟨k-1,by omega⟩
      have nt:decide ((0:Int)<((mm+1:Nat):Int))=true:=by simp
      have mF:(0:Int)<((mm+1:Nat):Int):=by omega
      have iQ:IntKind.i64.wrap (((mm+1:Nat):Int)-1)=(mm:Int):=by rw[IntWalk.i64_left,IntWalk.wrap64_in _ (by omega)];omega
      have iG:(0:Int)<=(mm:Int):=by omega
      have fP:(mm:Int)<(xn:Int):=by omega
      obtain⟨r,hr⟩:∃r,x.s[mm]? =Y r:=⟨_,gg (by have:=HL.out.1;show mm<x.cl.s.length;omega)⟩
      obtain⟨_,_,_,h5,h6⟩:=(JN.out.keep JO.out).open;obtain⟨e0,e1⟩:=zw x.s mm r hr;have r0:W3 (ad.add (mm*2))=r.c:=h6 ad HK.a1 _ _ e0;have hq:(r.c == s.c)=false:=(qfz HK.out.1 hr HK.a2 (gN fun hn=>by have h1:=HK.b3;rw[qay HK.out.1 HK.a2 hn]at h1;cases h1)).symm.trans HK.b3
      clear h5 h6 e0 e1 hr;go_wp2_with fail
      go_quiet (fail)
      go_wp2;go_roundw
      case measure=>simp[vI];omega
      case rel=>exact⟨mm+1+1,qh (by omega),by omega,qb dh.out _⟩
     ·have nt:decide ((0:Int)<(k:Int))=false:=by simpa using rA
      go_wp2_with fail
      go_quiet (fail)
      go_wp2;go_roundw
      case measure=>simp[vI];omega
      case rel=>exact⟨k+1,qh (by omega),by omega,qb dh.out _⟩
   ·have HB:=lhd hB;have GU:wr ⟨w,1,Z⟩=d:=J hB k1;have GV:wr ⟨w,2,Z⟩=O x.a xn x.c:=J hB k2;clear k1 k2;obtain⟨wo,eE⟩:=x4 wr;subst eE;go_wp2_with fail;go_loopw [10,103] (fun sm i wr=>∃k:Nat,i=k/\sm=H φ ((x.s.take k).map Sd.g).sum/\k<=xn/\Below wo wo wr) (fun _ i _=>xn-(vI i).toNat)
    case atStart=>exact⟨0,rfl,rfl,gm _,q9⟩
    case round =>
     obtain⟨k,rfl,rfl,hk,GW⟩:=hrel;have mG:Below w w wr:=(btr aT GW);have Sf:wr ⟨w,1,Z⟩=d:=J GW GU;have Di:=lhd mG;obtain⟨S,hS⟩:=x4 (((x.s.take k).map Sd.g).sum);rw[<-hS];have JP:=lhd hS;have Sg : -(64:Int)<=S/\S<=64:=by
      have h1:=qfi (x.s.take k) fun s hs=>HF.a1 s (gX hs)
      have h2:(x.s.take k).length<=k:=by rw[gD];omega
      rw[<-hS]at h1;omega
     clear hS;by_cases oM:k<xn
     ·obtain⟨t,ht⟩:∃t,x.s[k]? =Y t:=⟨_,gg (by have:=HL.out.1;show k<x.cl.s.length;omega)⟩
      obtain⟨_,_,_,h5,h6⟩:=(JN.out.keep mG).open;obtain⟨ad,bR⟩:∃ad,x.a=Y ad:=by
       cases ha:x.a with
       |none=>have:=h5 ha;omega
       |some ad=>exact⟨ad,rfl⟩
      obtain⟨e0,e1⟩:=zw x.s k t ht;have g0:wr (ad.add (k*2))=t.c:=h6 ad bR _ _ e0;have g1:wr ⟨(ad.add (k*2)).block,(ad.add (k*2)).off+1,Z⟩=t.g:=by rw[qi _ _ _ (by omega)];exact h6 ad bR _ _ e1
      have hQ:=gi ht;have dH:x.s.take (k+1)=x.s.take k++[t]:=by rw[gC,ht];rfl
      have kQ:=jg hQ dH;have tz:∀g:Int,Below wo wo (wr.alloc (.cells #[t.c,g] 54))/\Below w w (wr.alloc (.cells #[t.c,g] 54)):=fun g=>⟨GW.alloc GW.size _,mG.alloc mG.size _⟩
      have Dj:=lhd tz;obtain⟨g,hg⟩:=x4 t.g;rw[<-hg]at g1;have GX:=lhd hg;rw[bR];clear h5 h6 e0 e1 ht hQ dH tz hg mG bR;by_cases fp:g=1
      ·subst fp;go_wp2_with fail;go_roundw
       case measure=>simp[vI];omega
       case rel =>
        refine⟨k+1,qh (by omega),?_,by omega,(Dj.out 1).1⟩
        ·rw[kQ.out.2,gW,List.sum_append,<-JP.out];show _=H φ (S+(t.g+0));rw[<-GX.out];exact qh (by first|omega|(unfold wrap64;omega)|(rw[IntWalk.wrap64_in _ (by omega)];omega))
      ·obtain rfl:g=-1:=by
        rcases HF.a1 t kQ.out.1 with h|h
        ·exact absurd (GX.out.trans h) fp
        ·exact GX.out.trans h
       go_wp2_with fail;go_roundw
       case measure=>simp[vI];omega
       case rel =>
        refine⟨k+1,qh (by omega),?_,by omega,(Dj.out (-1)).1⟩
        ·rw[kQ.out.2,gW,List.sum_append,<-JP.out];show _=H φ (S+(t.g+0));rw[<-GX.out];exact qh (by first|omega|(unfold wrap64;omega)|(rw[IntWalk.wrap64_in _ (by omega)];omega))
     ·have aM:x.s.take k=x.s:=gr (by have:=HL.out.1;show x.cl.s.length<=k;omega);have Sh:=lhd aM;clear aM;by_cases eD:d=1
      ·subst eD;obtain rfl:S=0:=by have h1:=HF.b2 HL.a1;have h2:=JP.out;rw[Sh.out]at h2;exact h2.trans h1
       go_wp2_with fail;go_ret;exact⟨rfl,Di.out⟩
      ·have JQ:(d == 1)=false:=by simpa using eD
       clear eD;go_wp2_with fail;go_ret;exact⟨rfl,Di.out⟩
end Go.Proofs.YtmkpbhaoalbhjaaGreatDoor
namespace Go.Cx
theorem q6b.trans {R:Int->Int->Prop}{z:Int}{S0 S1 S2:Int->Prop}(h:q6b R z S0 S1)(k:q6b R z S1 S2):q6b R z S0 S2:=by
 refine⟨fun b hb=>k.1 b (h.1 b hb),fun b hb hn=>?_⟩;by_cases h1:S1 b
 ·obtain⟨a1,a2⟩:=h.2 b h1 hn;exact⟨a1,fun c hc=>k.1 c (a2 c hc)⟩
 ·exact k.2 b hb h1
def sG (s:Int->Bool):Int->Option Value:=fun c=>if s c=true then Y (τ true)else Z
def mrk (s:Int->Bool)(c:Int):Int->Bool:=fun d=>if d=c then true else s d
theorem qo4 (s:Int->Bool)(c:Int):zg (sG s) c (τ true)=sG (mrk s c):=by
 funext d
 unfold zg sG mrk;by_cases h:d=c <;> simp[h]
theorem q98 (s:Int->Bool)(c d:Int):mrk s c d=true↔d=c\/s d=true:=by unfold mrk;by_cases h:d=c <;> simp[h]
