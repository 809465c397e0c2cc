/- Steps towards MorseParts. Conditions: none. -/
import Derived.Test.YtlhicnfeajejhaaGreatDoorGOh
set_option maxRecDepth 1000000
set_option maxHeartbeats 16000000
namespace Go.Cx
open Go.RowKit
def mrg {α:Type} (key:α->Int):List α->List α->List α
 | [],b=>b
 | x :: a,[]=>x :: a
 | x :: a,y :: b=>if key y < key x then y :: mrg key (x :: a) b else x :: mrg key a (y :: b)
termination_by a b=>a.length+b.length
theorem qkp {α:Type} (key:α->Int) (a b:List α):(mrg key a b).length=a.length+b.length:=by
 fun_induction mrg key a b with
 | case1 b=>simp
 | case2 x a=>simp
 | case3 x a y b h ih=>simp only [List.length_cons,ih];omega
 | case4 x a y b h ih=>simp only [List.length_cons,ih];omega
theorem qkq {α β:Type} (key:β->Int) (f:α->β) (a b:List α):(mrg (fun x=>key (f x)) a b).map f=mrg key (a.map f) (b.map f):=by
 fun_induction mrg (fun x=>key (f x)) a b with
 | case1 b=>simp[mrg]
 | case2 x a=>simp[mrg]
 | case3 x a y b h ih=>rw[gR,ih];simp only [List.map_cons];rw[mrg,if_pos h]
 | case4 x a y b h ih=>rw[gR,ih];simp only [List.map_cons];rw[mrg,if_neg h]
theorem qkr {α:Type} (key:α->Int) (a b:List α) (z:α) (h:z∈mrg key a b):z∈a\/z∈b:=by
 fun_induction mrg key a b with
 | case1 b=>exact .inr h
 | case2 x a=>exact .inl h
 | case3 x a y b hk ih =>
  rcases gx.1 h with h | h
  ·exact .inr (by simp[h])
  ·rcases ih h with h | h
   ·exact .inl h
   ·exact .inr (by simp[h])
 | case4 x a y b hk ih =>
  rcases gx.1 h with h | h
  ·exact .inl (by simp[h])
  ·rcases ih h with h | h
   ·exact .inl (by simp[h])
   ·exact .inr h
def q26 (l:List Cl):List Cl :=
 if h:l.length<=1 then l.map fun x=>⟨x.id,x.dim,zx x.s⟩ else mrg Cl.id (q26 (l.take (l.length / 2))) (q26 (l.drop (l.length / 2)))
termination_by l.length
decreasing_by
 ·rw[gd];omega
 ·rw[gv];omega
theorem q68 (l:List Cl):(q26 l).length=l.length:=by
 fun_induction q26 l with
 | case1 l h=>simp
 | case2 l h AH s9=>rw[qkp,AH,s9,gd,gv];omega
def vL:Value->Nat
 | .slice _ n _=>n
 | _=>0
theorem Sl.tail {w:World} {st:Nat} {ad:Addr} {n c:Nat} {xs:List Value} (h:Sl w st (.slice (some ad) n c) xs) (hn:0 < n) (p:Prop) [Decidable p] (hp:p↔c=1) (bd:Addr) (dI:bd=ad.add st):Sl w st (.slice (if p then some ad else some bd) (n - 1) (c - 1)) (xs.drop st):=by
 obtain⟨h1,h2,h3,h4,h5⟩:=h.open;split
 ·rename_i lG;have:=hp.1 lG;rw[show n - 1=0 by omega,List.drop_eq_nil_of_le (by rw[h3,show n=1 by omega];simp)];exact Sl.empty _ _ _ _ (gl (Nat.sub_le _ _) h2)
 ·have:=h.drop (k:=1) (by omega);rw[Nat.one_mul] at this;rw[dI];exact this
end Go.Cx
namespace Go.Proofs.YtlhicnfeajejhaaGreatDoor
open Go.RowKit Go.Cx
attribute [local go_sem ↓] Go.wp_at_zero Go.wp_at_succ
theorem qhu {w:World} {ad:Addr} {n c:Nat} {x:Ce} {l:List Ce} (h:Sl w 3 (.slice (some ad) n c) (cat Ce.enc (x :: l))):w.cell? ad=some (.int .i64 x.id)/\w.cell? ⟨ad.block,ad.off+1,none⟩=some (.int .i64 x.dim)/\w.cell? ⟨ad.block,ad.off+2,none⟩=some (.slice x.a x.n x.c):=by
 obtain⟨_,_,_,_,g5⟩:=h.open;obtain⟨e0,e1,e2⟩:=zh (x :: l) 0 x rfl;have cu:ad.add 0=ad:=by simp[Addr.add]
 refine⟨?_,?_,?_⟩
 ·have:=g5 ad rfl _ _ e0;simpa [cu] using this
 ·have h1:=qi ad 0 1 (by omega);rw[cu] at h1;rw[h1];have:=g5 ad rfl _ _ e1;simpa using this
 ·have h1:=qi ad 0 2 (by omega);rw[cu] at h1;rw[h1];have:=g5 ad rfl _ _ e2;simpa using this
theorem q7s:∀ (n:Nat) (v:Value) (l:List Ce) (w:World),l.length=n->SlC w v l->l.length<=1099511627776->(∀ x∈l,x.s.length<=1099511627776) →
  Calls Tryz.prog 131 #[v] w fun e w'=>∃ r m,e = .returned r/\m.map Ce.cl=q26 (l.map Ce.cl)/\q1p w' w.heap.size r m/\BwQ w w':=by
 intro n;induction n using Nat.strongRecOn with
 | _ n ih =>
 intro v l w hn h hl aK;obtain⟨a,len,cap,rfl⟩:=qg h.1;have hlen:l.length=len:=by obtain⟨_,_,h3,_⟩:=h.1.open;rw[qt Ce.qp] at h3;omega
 have iK:len<=cap/\cap<=maxLen:=by obtain⟨h1,h2,_⟩:=h.1.open;exact⟨h1,h2⟩
 unfold maxLen at iK;obtain⟨YF,iK⟩:=iK;have HH:=lhd h;have HL:=lhd hlen;have iS:=lhd aK;have IH:=lhd ih;rw[hlen] at hl hn;subst hn;clear h hlen aK ih;by_cases h0:len=0
 ·have fB:l=[]:=gz (by rw[HL.out,h0]);have Ky:=lhd fB;have oq:((len:Int) == 0)=true:=by rw[h0];rfl
  clear fB IH;go_enter Tryz.func131,Tryz.ntmps131;go_wp2;go_ret;refine⟨_,[],rfl,?_,⟨World.ownsRow_nil _ _ _ _,fun x hx=>by simp at hx⟩,Below.refl _ _⟩;rw[Ky.out,q26];simp
 ·have oq:((len:Int) == 0)=false:=by simp;omega
  by_cases h1:len=1
  ·have pY:((len:Int) == 1)=true:=by rw[h1];rfl
   obtain⟨x,hx⟩ : ∃ x,l=[x]:=List.length_eq_one_iff.1 (by rw[HL.out,h1]);obtain⟨g1,g2,g3,g4,g5⟩:=HH.out.1.open;obtain⟨ad,rfl⟩:=sadq g4 (by omega)
   have dV:l[0]? = some x:=by rw[hx];rfl
   obtain⟨e0,e1,e2⟩:=zh l 0 x dV;have cu:ad.add 0=ad:=by simp[Addr.add]
   have d0:w.cell? ad=some (.int .i64 x.id):=by have:=g5 ad rfl _ _ e0;simpa [cu] using this
   have d1:w.cell? ⟨ad.block,ad.off+1,none⟩=some (.int .i64 x.dim):=by have:=qi ad 0 1 (by omega);rw[cu] at this;rw[this];have:=g5 ad rfl _ _ e1;simpa using this
   have d2:w.cell? ⟨ad.block,ad.off+2,none⟩=some (.slice x.a x.n x.c):=by have:=qi ad 0 2 (by omega);rw[cu] at this;rw[this];have:=g5 ad rfl _ _ e2;simpa using this
   have KN:=lhd (HH.out.2 x (by rw[hx];simp));have fE:=iS.out x (by rw[hx];simp);have HX:=lhd hx;have Le:(0:Int) < len:=by omega
   clear g1 g2 g3 g4 g5 e0 e1 e2 dV cu hx IH;go_enter Tryz.func131,Tryz.ntmps131;go_wp2_with fail
   go_region_held3 (fun w'=>w'.cell? ad=some (.int .i64 x.id)/\w'.cell? ⟨ad.block,ad.off+1,none⟩=some (.int .i64 x.dim)/\w'.cell? ⟨ad.block,ad.off+2,none⟩=some (.slice x.a x.n x.c))
    (first | exact⟨by assumption,by assumption,by assumption⟩ | exact⟨qk (by assumption) _,qk (by assumption) _,qk (by assumption) _⟩ | fail)
    (first
     |(go_at_call 130;refine(q8w _ x.s _ KN.out.drew fE).mono ?_;rintro e w2 ⟨r,rfl,cC,aj⟩;obtain⟨ra,rc,iX⟩:=qj cC;subst iX;have aw:BwQ w w2:=xt (aj.mono (by simp));have k0:=Cx.q8 aw d0;have k1:=Cx.q8 aw d1;have k2:=Cx.q8 aw d2;have R2:=lhd (aiq cC aw);clear cC aj aw))
   all_goals
    go_wp2;go_ret;refine⟨_,[⟨x.id,x.dim,ra,x.s.length,rc,zx x.s⟩],rfl,?_,⟨?_,fun y hy=>?_⟩,?_⟩
    ·rw[HX.out,q26];simp[Ce.cl]
    ·exact qf (vq w2 75 3 1 [.int .i64 x.id,.int .i64 x.dim,.slice ra x.s.length rc] rfl (by unfold maxLen;omega)) R2.out.2.size
    ·simp only [List.mem_singleton] at hy;subst hy;show World.ownsRow _ _ _ _ (.slice ra x.s.length rc) (zx x.s).length _;rw[q23];exact R2.out.1.alloc _
    ·exact R2.out.2.alloc R2.out.2.size _
  ·have pY:((len:Int) == 1)=false:=by simp;omega
   obtain⟨ad,rfl⟩ : ∃ ad,a=some ad:=by
    obtain⟨g1,g2,g3,g4,g5⟩:=HH.out.1.open;cases a with
    | none=>have:=g4 rfl;omega
    | some ad=>exact⟨ad,rfl⟩
   obtain⟨mm,hm⟩ : ∃ m,m=len / 2:=⟨_,rfl⟩
   have hq:(len:Int).tdiv 2=(mm:Int):=by rw[Int.tdiv_eq_ediv_of_nonneg (by omega)];omega
   have fA:1<=mm/\mm < len:=by omega
   have iI:(mm:Int)<=cap:=by omega
   have UG:(mm:Int)<=len:=by omega
   have UH:¬ cap=mm:=by omega
   have YG:¬ cap - mm=0:=by omega
   have qV:q26 (l.map Ce.cl)=mrg Cl.id (q26 ((l.take mm).map Ce.cl)) (q26 ((l.drop mm).map Ce.cl)):=by rw[q26,dif_neg (by rw[gn,HL.out];omega),gn,HL.out,<-hm,List.map_take,List.map_drop]
   have Lf:=lhd qV;have Pn:(cat Ce.enc l).take (mm*3)=cat Ce.enc (l.take mm):=by
    conv=>lhs;rw[<-gu mm l,x9]
    rw[List.take_left' (by rw[qt Ce.qp,gd,HL.out];omega)]
   have CJ:(cat Ce.enc l).drop (mm*3)=cat Ce.enc (l.drop mm):=by
    conv=>lhs;rw[<-gu mm l,x9]
    rw[List.drop_left' (by rw[qt Ce.qp,gd,HL.out];omega)]
   have iM:∀ w',BwQ w w'->SlC w' (.slice (some ad) mm cap) (l.take mm):=fun w' hb=>by have h1:=(HH.out.1.q8 hb).take (k:=mm) (by omega);rw[Pn] at h1;exact⟨h1,fun x hx=>(HH.out.2 x (gI hx)).q8 hb⟩
   have dy:∀ w',BwQ w w'->SlC w' (.slice (some (ad.add (mm*3))) (len - mm) (cap - mm)) (l.drop mm):=fun w' hb=>by have h1:=(HH.out.1.q8 hb).drop (k:=mm) (by omega);rw[CJ] at h1;exact⟨h1,fun x hx=>(HH.out.2 x (bo hx)).q8 hb⟩
   have KR:=lhd iM;have qR:=lhd dy;have AI:(l.take mm).length=mm:=by rw[gd,HL.out];omega
   have sM:(l.drop mm).length=len - mm:=by rw[gv,HL.out]
   have jF:=lhd (aiq AI sM);clear qV Pn CJ iM dy AI sM hm;go_enter Tryz.func131,Tryz.ntmps131;go_wp2_with fail;refine(IH.out mm fA.2 _ (l.take mm) _ jF.out.1 (KR.out _ (Below.refl _ _)) (by rw[jF.out.1];omega) (fun x hx=>iS.out x (gI hx))).mono ?_;rintro e w1 ⟨ra,A0,rfl,iV,Lg,ai⟩;obtain⟨aa,ac,UI⟩:=qj Lg.1;subst UI;have Po:=lhd Lg;have aV:=lhd ai;have K6:=lhd iV;clear Lg ai iV;go_wp2_with fail;refine(IH.out (len - mm) (by omega) _ (l.drop mm) _ jF.out.2 (qR.out _ aV.out) (by rw[jF.out.2];omega) (fun x hx=>iS.out x (bo hx))).mono ?_;rintro e w2 ⟨rb,B0,rfl,bT,Il,aj⟩;obtain⟨ba,bc,uz⟩:=qj Il.1;subst uz;have UJ:A0.length+B0.length=len:=by have h1:=congrArg List.length K6.out;have h2:=congrArg List.length bT;rw[gn,q68,gn,jF.out.1] at h1;rw[gn,q68,gn,jF.out.2] at h2;omega
   have E6:w.heap.size<=w1.heap.size:=aV.out.size;have UK:w1.heap.size<=w2.heap.size:=aj.size;have dn:BwQ w w2:=aV.out.trans (aj.mono E6);have Pp:Sl w2 3 (.slice aa A0.length ac) (cat Ce.enc A0):=Sl.qc (qa Po.out.1 aj);have Pq:Sl w2 3 (.slice ba B0.length bc) (cat Ce.enc B0):=Sl.qc Il.1;have kD:∀ x∈mrg Ce.id A0 B0,w2.ownsRow w.heap.size 108 2 x.sl x.s.length (cat Sd.enc x.s):=fun x hx=>by
    rcases qkr _ _ _ _ hx with hx | hx
    ·exact qa (Po.out.2 x hx) aj
    ·exact qf (Il.2 x hx) E6
   have Hi:(mrg Ce.id A0 B0).map Ce.cl=q26 (l.map Ce.cl):=by rw[Lf.out,<-K6.out,<-bT];exact qkq Cl.id Ce.cl A0 B0
   have UL:=lhd Pp;have Im:=lhd Pq;have uq:=lhd (aiq kD Hi);have rM:=lhd dn;clear bT Il aj Pp Pq kD Hi dn;go_wp2_with fail;go_loopw [3,4,5] (fun av bv o wr=>∃ A B O:List Ce,Hid (Sl w2 3 av (cat Ce.enc A))/\Hid (Sl w2 3 bv (cat Ce.enc B))/\Hid (wr.ownsRow w2.heap.size 75 3 o O.length (cat Ce.enc O))/\Hid (O++mrg Ce.id A B=mrg Ce.id A0 B0)/\O.length+A.length+B.length=len/\BwQ w2 wr) (fun av bv _ _=>vL av+vL bv)
   case atStart=>exact⟨A0,B0,[],(show Hid _ from UL.out),(show Hid _ from Im.out),(show Hid _ from World.ownsRow_nil _ _ _ _),(show Hid _ from rfl),by simpa using UJ,Below.refl _ _⟩
   case round =>
    obtain⟨A,B,O,HA,HB,HO,HM,kM,hB⟩:=hrel;obtain⟨xa,xn,xc,nh⟩:=qg HA.out;obtain⟨ya,yn,yc,oI⟩:=qg HB.out;subst nh oI;have iT:A.length=xn:=by obtain⟨_,_,h3,_⟩:=HA.out.open;rw[qt Ce.qp] at h3;omega
    have vG:B.length=yn:=by obtain⟨_,_,h3,_⟩:=HB.out.open;rw[qt Ce.qp] at h3;omega
    have UN:xn<=xc/\xc<=maxLen:=by obtain⟨h1,h2,_⟩:=HA.out.open;exact⟨h1,h2⟩
    have CK:yn<=yc/\yc<=maxLen:=by obtain⟨h1,h2,_⟩:=HB.out.open;exact⟨h1,h2⟩
    unfold maxLen at UN CK;have rN:=lhd (aiq iT vG);rw[iT,vG] at kM;clear iT vG;have bV:w2.heap.size<=wr.heap.size:=hB.size;by_cases oH:0 < xn/\0 < yn
    ·obtain⟨dV,CC⟩:=oH;obtain⟨x,CL,hA⟩ : ∃ x R,A=x :: R:=List.exists_cons_of_length_pos (by rw[rN.out.1];exact dV);obtain⟨y,CM,vH⟩ : ∃ x R,B=x :: R:=List.exists_cons_of_length_pos (by rw[rN.out.2];exact CC);subst hA vH;obtain⟨xd,CH⟩:=sadq HA.out.open.2.2.2.1 (by omega)
     obtain⟨yd,kV⟩:=sadq HB.out.open.2.2.2.1 (by omega)
     subst CH kV;obtain⟨p0,p1,p2⟩:=qhu HA.out;obtain⟨q0,q1,q2⟩:=qhu HB.out;have d0:=Cx.q8 hB p0;have d1:=Cx.q8 hB p1;have d2:=Cx.q8 hB p2;have f0:=Cx.q8 hB q0;have f1:=Cx.q8 hB q1;have f2:=Cx.q8 hB q2;have eA:(1:Int)<=xc:=by omega
     have xB:(1:Int)<=xn:=by omega
     have iU:(1:Int)<=yc:=by omega
     have uU:(1:Int)<=yn:=by omega
     have xF:(0:Int) < xn:=by omega
     have xG:(0:Int) < yn:=by omega
     clear p0 p1 p2 q0 q1 q2;by_cases hlt:y.id < x.id
     ·have iJ:mrg Ce.id (x :: CL) (y :: CM)=y :: mrg Ce.id (x :: CL) CM:=by rw[mrg,if_pos hlt]
      have pH:=lhd iJ;clear iJ;go_wp2_with fail
      go_quiet (fail)
      obtain⟨V,hV⟩ : ∃ V:World,V=wr.drewN nq:=⟨_,rfl⟩
      rw[<-hV];have ei:BwQ wr V:=by rw[hV];exact qb (Below.refl _ _) _
      have aN:BwQ w2 V:=hB.trans (ei.mono bV);have AJ:=lhd (qa HO.out ei);have lJ:w2.heap.size<=V.heap.size:=aN.size
      replace d0:=Cx.q8 ei d0
      replace d1:=Cx.q8 ei d1
      replace d2:=Cx.q8 ei d2
      replace f0:=Cx.q8 ei f0
      replace f1:=Cx.q8 ei f1
      replace f2:=Cx.q8 ei f2
      clear hV ei;go_wp2_with (at_builtin;go_loud (refine qo (W:=w2) rfl _ _ 24 rfl w2.heap.size 75 Tryz.ke Tryz.underlying24 rfl (by decide) (by decide) _ _ _ rfl AJ.out [.int .i64 y.id,.int .i64 y.dim,.slice y.a y.n y.c] rfl rfl (Ce.xu y) (by omega) aN lJ ?_));intro v5 w5 aZ _ aB;have F5:=lhd (aiq aZ aB);clear aZ aB;go_wp2;go_roundw
      case measure=>simp[vL];omega
      case rel =>
       refine⟨x :: CL,CM,O++[y],?_,?_,?_,(show Hid _ from ?_),?_,F5.out.2⟩
       ·exact HA.out
       ·have:=HB.out.tail CC (yc=1) Iff.rfl _ rfl;exact this
       ·rw[gc,x9,q1c];exact F5.out.1
       ·show _=_;rw[<-HM.out,pH.out,gC];rfl
       ·have h1:=rN.out.1;have h2:=rN.out.2;simp only [List.length_append,List.length_cons,List.length_nil] at h1 h2 ⊢;omega
     ·have iJ:mrg Ce.id (x :: CL) (y :: CM)=x :: mrg Ce.id CL (y :: CM):=by rw[mrg,if_neg hlt]
      have pH:=lhd iJ;clear iJ;go_wp2_with fail
      go_quiet (fail)
      obtain⟨V,hV⟩ : ∃ V:World,V=wr.drewN nq:=⟨_,rfl⟩
      rw[<-hV];have ei:BwQ wr V:=by rw[hV];exact qb (Below.refl _ _) _
      have aN:BwQ w2 V:=hB.trans (ei.mono bV);have AJ:=lhd (qa HO.out ei);have lJ:w2.heap.size<=V.heap.size:=aN.size
      replace d0:=Cx.q8 ei d0
      replace d1:=Cx.q8 ei d1
      replace d2:=Cx.q8 ei d2
      replace f0:=Cx.q8 ei f0
      replace f1:=Cx.q8 ei f1
      replace f2:=Cx.q8 ei f2
      clear hV ei;go_wp2_with (at_builtin;go_loud (refine qo (W:=w2) rfl _ _ 24 rfl w2.heap.size 75 Tryz.ke Tryz.underlying24 rfl (by decide) (by decide) _ _ _ rfl AJ.out [.int .i64 x.id,.int .i64 x.dim,.slice x.a x.n x.c] rfl rfl (Ce.xu x) (by omega) aN lJ ?_));intro v5 w5 aZ _ aB;have F5:=lhd (aiq aZ aB);clear aZ aB;go_wp2;go_roundw
      case measure=>simp[vL];omega
      case rel =>
       refine⟨CL,y :: CM,O++[x],?_,?_,?_,(show Hid _ from ?_),?_,F5.out.2⟩
       ·have:=HA.out.tail dV (xc=1) Iff.rfl _ rfl;exact this
       ·exact HB.out
       ·rw[gc,x9,q1c];exact F5.out.1
       ·show _=_;rw[<-HM.out,pH.out,gC];rfl
       ·have h1:=rN.out.1;have h2:=rN.out.2;simp only [List.length_append,List.length_cons,List.length_nil] at h1 h2 ⊢;omega
    ·have iJ:mrg Ce.id A B=A++B:=by
      by_cases hx:xn=0
      ·have:A=[]:=gz (by rw[rN.out.1,hx]);subst this;simp[mrg]
      ·have:B=[]:=gz (by rw[rN.out.2];omega);subst this;cases A <;> simp[mrg]
     have dK:mrg Ce.id A0 B0=O++(A++B):=by rw[<-HM.out,iJ]
     have KG:=lhd dK;have Ps:=lhd (HA.out.q8 hB);have pF:=lhd (aiq (show (cat Ce.enc A).length=xn*3 by rw[qt Ce.qp,rN.out.1]) (show (cat Ce.enc B).length=yn*3 by rw[qt Ce.qp,rN.out.2]));have fin:∀ (v6:Value) (w6:World),w6.ownsRow w2.heap.size 75 3 v6 len (cat Ce.enc O++(cat Ce.enc A++cat Ce.enc B))->BwQ w2 w6->(mrg Ce.id A0 B0).map Ce.cl=q26 (l.map Ce.cl)/\q1p w6 w.heap.size v6 (mrg Ce.id A0 B0)/\BwQ w w6:=fun v6 w6 h1 h2=>by
      refine⟨uq.out.2,⟨?_,fun x hx=>qa (uq.out.1 x hx) h2⟩,(btr rM.out h2)⟩;have hl:(O++(A++B)).length=len:=by have h1:=rN.out.1;have h2:=rN.out.2;simp only [List.length_append];omega
      rw[KG.out,x9,x9,hl];exact qf h1 rM.out.size
     have bM:=lhd fin;have hxy:(0:Int) < xn->¬ ((0:Int) < yn):=fun _=>by omega
     clear iJ dK fin;by_cases dV:(0:Int) < xn
     ·have CC:=hxy dV;go_wp2_with (at_builtin;go_loud (refine qm (W:=w2) rfl _ _ 24 rfl w2.heap.size 75 Tryz.ke Tryz.underlying24 rfl (by decide) (by decide) _ _ _ rfl HO.out _ xn (cat Ce.enc A) rfl Ps.out pF.out.1 (zo Ce.xu _) (by omega) hB bV ?_));intro v5 w5 aZ _ aB;have AK:=HB.out.q8 aB;go_wp2_with (at_builtin;go_loud (refine qm (W:=w2) rfl _ _ 24 rfl w2.heap.size 75 Tryz.ke Tryz.underlying24 rfl (by decide) (by decide) _ _ _ rfl aZ _ yn (cat Ce.enc B) rfl AK pF.out.2 (zo Ce.xu _) (by omega) aB aB.size ?_));intro v6 w6 dh _ dc;obtain⟨q1,q2,q3⟩:=bM.out v6 w6 dh dc;have FQ:=lhd (aiq q1 (aiq q2 q3));clear aZ aB dh dc AK q1 q2 q3;go_wp2;go_ret;exact⟨_,_,rfl,FQ.out.1,FQ.out.2.1,FQ.out.2.2⟩
     ·clear hxy;go_wp2_with (at_builtin;go_loud (refine qm (W:=w2) rfl _ _ 24 rfl w2.heap.size 75 Tryz.ke Tryz.underlying24 rfl (by decide) (by decide) _ _ _ rfl HO.out _ xn (cat Ce.enc A) rfl Ps.out pF.out.1 (zo Ce.xu _) (by omega) hB bV ?_));intro v5 w5 aZ _ aB;have AK:=HB.out.q8 aB;go_wp2_with (at_builtin;go_loud (refine qm (W:=w2) rfl _ _ 24 rfl w2.heap.size 75 Tryz.ke Tryz.underlying24 rfl (by decide) (by decide) _ _ _ rfl aZ _ yn (cat Ce.enc B) rfl AK pF.out.2 (zo Ce.xu _) (by omega) aB aB.size ?_));intro v6 w6 dh _ dc;obtain⟨q1,q2,q3⟩:=bM.out v6 w6 dh dc;have FQ:=lhd (aiq q1 (aiq q2 q3));clear aZ aB dh dc AK q1 q2 q3;go_wp2;go_ret;exact⟨_,_,rfl,FQ.out.1,FQ.out.2.1,FQ.out.2.2⟩
end Go.Proofs.YtlhicnfeajejhaaGreatDoor
