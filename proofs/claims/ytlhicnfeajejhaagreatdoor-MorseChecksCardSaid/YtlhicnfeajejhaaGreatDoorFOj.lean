/- Steps towards MorseChecks. Conditions: none. -/
import Derived.Test.YtlhicnfeajejhaaGreatDoorFOh
set_option maxRecDepth 1000000
set_option maxHeartbeats 16000000
namespace Go.Cx
open Go.RowKit
def mrg {α:Type} (key:α->Int):List α->List α->List α
 | [],b=>b
 | x :: a,[]=>x :: a
 | x :: a,y :: b=>if key y < key x then y :: mrg key (x :: a) b else x :: mrg key a (y :: b)
termination_by a b=>a.length+b.length
theorem qkp {α:Type} (key:α->Int) (a b:List α):(mrg key a b).length=a.length+b.length:=by
 fun_induction mrg key a b with
 | case1 b=>simp
 | case2 x a=>simp
 | case3 x a y b h ih=>simp only [List.length_cons,ih];omega
 | case4 x a y b h ih=>simp only [List.length_cons,ih];omega
theorem qkq {α β:Type} (key:β->Int) (f:α->β) (a b:List α):(mrg (fun x=>key (f x)) a b).map f=mrg key (a.map f) (b.map f):=by
 fun_induction mrg (fun x=>key (f x)) a b with
 | case1 b=>simp[mrg]
 | case2 x a=>simp[mrg]
 | case3 x a y b h ih=>rw[gN,ih];simp only [List.map_cons];rw[mrg,if_pos h]
 | case4 x a y b h ih=>rw[gN,ih];simp only [List.map_cons];rw[mrg,if_neg h]
theorem qkr {α:Type} (key:α->Int) (a b:List α) (z:α) (h:z∈mrg key a b):z∈a\/z∈b:=by
 fun_induction mrg key a b with
 | case1 b=>exact .inr h
 | case2 x a=>exact .inl h
 | case3 x a y b hk ih =>
  rcases gt.1 h with h | h
  ·exact .inr (by simp[h])
  ·rcases ih h with h | h
   ·exact .inl h
   ·exact .inr (by simp[h])
 | case4 x a y b hk ih =>
  rcases gt.1 h with h | h
  ·exact .inl (by simp[h])
  ·rcases ih h with h | h
   ·exact .inl (by simp[h])
   ·exact .inr h
def q26 (l:List Cl):List Cl :=
 if h:l.length<=1 then l.map fun x=>⟨x.id,x.dim,zx x.s⟩ else mrg Cl.id (q26 (l.take (l.length / 2))) (q26 (l.drop (l.length / 2)))
termination_by l.length
decreasing_by
 ·rw[gh];omega
 ·rw[gC];omega
theorem q68 (l:List Cl):(q26 l).length=l.length:=by
 fun_induction q26 l with
 | case1 l h=>simp
 | case2 l h wY pf=>rw[qkp,wY,pf,gh,gC];omega
def vL:Value->Nat
 | .slice _ n _=>n
 | _=>0
theorem Sl.tail {w:World} {st:Nat} {ad:Addr} {n c:Nat} {xs:List Value} (h:Sl w st (.slice (some ad) n c) xs) (hn:0 < n) (p:Prop) [Decidable p] (hp:p↔c=1) (bd:Addr) (e9:bd=ad.add st):Sl w st (.slice (if p then some ad else some bd) (n - 1) (c - 1)) (xs.drop st):=by
 obtain⟨h1,h2,h3,h4,h5⟩:=h.open;split
 ·rename_i iD;have:=hp.1 iD;rw[show n - 1=0 by omega,List.drop_eq_nil_of_le (by rw[h3,show n=1 by omega];simp)];exact Sl.empty _ _ _ _ (gn (Nat.sub_le _ _) h2)
 ·have:=h.drop (k:=1) (by omega);rw[Nat.one_mul] at this;rw[e9];exact this
end Go.Cx
namespace Go.Proofs.YtlhicnfeajejhaaGreatDoor
open Go.RowKit Go.Cx
attribute [local go_sem ↓] Go.wp_at_zero Go.wp_at_succ
theorem qhu {w:World} {ad:Addr} {n c:Nat} {x:Ce} {l:List Ce} (h:Sl w 3 (.slice (some ad) n c) (cat Ce.enc (x :: l))):w.cell? ad=some (.int .i64 x.id)/\w.cell? ⟨ad.block,ad.off+1,none⟩=some (.int .i64 x.dim)/\w.cell? ⟨ad.block,ad.off+2,none⟩=some (.slice x.a x.n x.c):=by
 obtain⟨_,_,_,_,g5⟩:=h.open;obtain⟨e0,e1,e2⟩:=zh (x :: l) 0 x rfl;have bI:ad.add 0=ad:=by simp[Addr.add]
 refine⟨?_,?_,?_⟩
 ·have:=g5 ad rfl _ _ e0;simpa [bI] using this
 ·have h1:=qi ad 0 1 (by omega);rw[bI] at h1;rw[h1];have:=g5 ad rfl _ _ e1;simpa using this
 ·have h1:=qi ad 0 2 (by omega);rw[bI] at h1;rw[h1];have:=g5 ad rfl _ _ e2;simpa using this
theorem q7s:∀ (n:Nat) (v:Value) (l:List Ce) (w:World),l.length=n->SlC w v l->l.length<=1099511627776->(∀ x∈l,x.s.length<=1099511627776) →
  Calls Tryz.prog 131 #[v] w fun e w'=>∃ r m,e = .returned r/\m.map Ce.cl=q26 (l.map Ce.cl)/\q1p w' w.heap.size r m/\Below w.heap.size w w':=by
 intro n;induction n using Nat.strongRecOn with
 | _ n ih =>
 intro v l w hn h hl aX;obtain⟨a,len,cap,rfl⟩:=qg h.1;have hlen:l.length=len:=by
  obtain⟨_,_,h3,_⟩:=h.1.open;rw[qt Ce.qp] at h3;omega
 have jI:len<=cap/\cap<=maxLen:=by obtain⟨h1,h2,_⟩:=h.1.open;exact⟨h1,h2⟩
 unfold maxLen at jI;obtain⟨VU,jI⟩:=jI;have HH:=lhd h;have HL:=lhd hlen;have jH:=lhd aX;have IH:=lhd ih;rw[hlen] at hl hn;subst hn;clear h hlen aX ih;by_cases h0:len=0
 ·have dO:l=[]:=gu (by rw[HL.out,h0]);have Ii:=lhd dO;have mO:((len:Int) == 0)=true:=by rw[h0];rfl
  clear dO IH;go_enter Tryz.func131,Tryz.ntmps131;go_wp2;go_ret;refine⟨_,[],rfl,?_,⟨World.ownsRow_nil _ _ _ _,fun x hx=>by simp at hx⟩,Below.refl _ _⟩;rw[Ii.out,q26];simp
 ·have mO:((len:Int) == 0)=false:=by simp;omega
  by_cases h1:len=1
  ·have zY:((len:Int) == 1)=true:=by rw[h1];rfl
   obtain⟨x,hx⟩ : ∃ x,l=[x]:=List.length_eq_one_iff.1 (by rw[HL.out,h1]);obtain⟨g1,g2,g3,g4,g5⟩:=HH.out.1.open;obtain⟨ad,rfl⟩ : ∃ ad,a=some ad:=by
    cases a with
    | none=>have:=g4 rfl;omega
    | some ad=>exact⟨ad,rfl⟩
   have cG:l[0]? = some x:=by rw[hx];rfl
   obtain⟨e0,e1,e2⟩:=zh l 0 x cG;have bI:ad.add 0=ad:=by simp[Addr.add]
   have d0:w.cell? ad=some (.int .i64 x.id):=by have:=g5 ad rfl _ _ e0;simpa [bI] using this
   have d1:w.cell? ⟨ad.block,ad.off+1,none⟩=some (.int .i64 x.dim):=by
    have:=qi ad 0 1 (by omega);rw[bI] at this;rw[this];have:=g5 ad rfl _ _ e1;simpa using this
   have d2:w.cell? ⟨ad.block,ad.off+2,none⟩=some (.slice x.a x.n x.c):=by
    have:=qi ad 0 2 (by omega);rw[bI] at this;rw[this];have:=g5 ad rfl _ _ e2;simpa using this
   have I2:=lhd (HH.out.2 x (by rw[hx];simp));have dx:=jH.out x (by rw[hx];simp);have HX:=lhd hx;have IF:(0:Int) < len:=by omega
   clear g1 g2 g3 g4 g5 e0 e1 e2 cG bI hx IH;go_enter Tryz.func131,Tryz.ntmps131;go_wp2_with fail
   go_region_held3 (fun w'=>w'.cell? ad=some (.int .i64 x.id)/\w'.cell? ⟨ad.block,ad.off+1,none⟩=some (.int .i64 x.dim)/\w'.cell? ⟨ad.block,ad.off+2,none⟩=some (.slice x.a x.n x.c))
    (first | exact⟨by assumption,by assumption,by assumption⟩ | exact⟨qk (by assumption) _,qk (by assumption) _,qk (by assumption) _⟩ | fail)
    (first
     |(go_at_call 130;refine(q8w _ x.s _ I2.out.drew dx).mono ?_;rintro e w2 ⟨r,rfl,cB,ag⟩;obtain⟨ra,rc,fM⟩:=qj cB;subst fM;have aw:Below w.heap.size w w2:=xt (ag.mono (by simp));have k0:=Cx.q8 aw d0;have k1:=Cx.q8 aw d1;have k2:=Cx.q8 aw d2;have R2:=lhd (aiq cB aw);clear cB ag aw))
   all_goals
    go_wp2;go_ret;refine⟨_,[⟨x.id,x.dim,ra,x.s.length,rc,zx x.s⟩],rfl,?_,⟨?_,fun y hy=>?_⟩,?_⟩
    ·rw[HX.out,q26];simp[Ce.cl]
    ·exact qf (vq w2 75 3 1 [.int .i64 x.id,.int .i64 x.dim,.slice ra x.s.length rc] rfl (by unfold maxLen;omega)) R2.out.2.size
    ·simp only [List.mem_singleton] at hy;subst hy;show World.ownsRow _ _ _ _ (.slice ra x.s.length rc) (zx x.s).length _;rw[q23];exact R2.out.1.alloc _
    ·exact R2.out.2.alloc R2.out.2.size _
  ·have zY:((len:Int) == 1)=false:=by simp;omega
   obtain⟨ad,rfl⟩ : ∃ ad,a=some ad:=by
    obtain⟨g1,g2,g3,g4,g5⟩:=HH.out.1.open;cases a with
    | none=>have:=g4 rfl;omega
    | some ad=>exact⟨ad,rfl⟩
   obtain⟨mm,hm⟩ : ∃ m,m=len / 2:=⟨_,rfl⟩
   have hq:(len:Int).tdiv 2=(mm:Int):=by rw[Int.tdiv_eq_ediv_of_nonneg (by omega)];omega
   have cO:1<=mm/\mm < len:=by omega
   have eS:(mm:Int)<=cap:=by omega
   have RQ:(mm:Int)<=len:=by omega
   have RS:¬ cap=mm:=by omega
   have VV:¬ cap - mm=0:=by omega
   have fs:q26 (l.map Ce.cl)=mrg Cl.id (q26 ((l.take mm).map Ce.cl)) (q26 ((l.drop mm).map Ce.cl)):=by
    rw[q26,dif_neg (by rw[gm,HL.out];omega),gm,HL.out,<-hm,List.map_take,List.map_drop]
   have IG:=lhd fs;have MK:(cat Ce.enc l).take (mm*3)=cat Ce.enc (l.take mm):=by
    conv=>lhs;rw[<-gr mm l,x9]
    rw[List.take_left' (by rw[qt Ce.qp,gh,HL.out];omega)]
   have EM:(cat Ce.enc l).drop (mm*3)=cat Ce.enc (l.drop mm):=by
    conv=>lhs;rw[<-gr mm l,x9]
    rw[List.drop_left' (by rw[qt Ce.qp,gh,HL.out];omega)]
   have ep:∀ w',Below w.heap.size w w'->SlC w' (.slice (some ad) mm cap) (l.take mm):=fun w' hb=>by
    have h1:=(HH.out.1.q8 hb).take (k:=mm) (by omega);rw[MK] at h1;exact⟨h1,fun x hx=>(HH.out.2 x (gU hx)).q8 hb⟩
   have dh:∀ w',Below w.heap.size w w'->SlC w' (.slice (some (ad.add (mm*3))) (len - mm) (cap - mm)) (l.drop mm):=fun w' hb=>by
    have h1:=(HH.out.1.q8 hb).drop (k:=mm) (by omega);rw[EM] at h1;exact⟨h1,fun x hx=>(HH.out.2 x (bu hx)).q8 hb⟩
   have I4:=lhd ep;have rA:=lhd dh;have ux:(l.take mm).length=mm:=by rw[gh,HL.out];omega
   have pt:(l.drop mm).length=len - mm:=by rw[gC,HL.out]
   have fp:=lhd (aiq ux pt);clear fs MK EM ep dh ux pt hm;go_enter Tryz.func131,Tryz.ntmps131;go_wp2_with fail;refine(IH.out mm cO.2 _ (l.take mm) _ fp.out.1 (I4.out _ (Below.refl _ _)) (by rw[fp.out.1];omega) (fun x hx=>jH.out x (gU hx))).mono ?_;rintro e w1 ⟨ra,A0,rfl,fi,II,ai⟩;obtain⟨aa,ac,RT⟩:=qj II.1;subst RT;have ML:=lhd II;have aN:=lhd ai;have Il:=lhd fi;clear II ai fi;go_wp2_with fail;refine(IH.out (len - mm) (by omega) _ (l.drop mm) _ fp.out.2 (rA.out _ aN.out) (by rw[fp.out.2];omega) (fun x hx=>jH.out x (bu hx))).mono ?_;rintro e w2 ⟨rb,B0,rfl,aV,EN,ag⟩;obtain⟨ba,bc,rp⟩:=qj EN.1;subst rp;have RU:A0.length+B0.length=len:=by
    have h1:=congrArg List.length Il.out;have h2:=congrArg List.length aV;rw[gm,q68,gm,fp.out.1] at h1;rw[gm,q68,gm,fp.out.2] at h2;omega
   have Cs:w.heap.size<=w1.heap.size:=aN.out.size;have RV:w1.heap.size<=w2.heap.size:=ag.size;have cn:Below w.heap.size w w2:=aN.out.trans (ag.mono Cs);have MM:Sl w2 3 (.slice aa A0.length ac) (cat Ce.enc A0):=Sl.qc (qa ML.out.1 ag);have MN:Sl w2 3 (.slice ba B0.length bc) (cat Ce.enc B0):=Sl.qc EN.1;have iA:∀ x∈mrg Ce.id A0 B0,w2.ownsRow w.heap.size 108 2 x.sl x.s.length (cat Sd.enc x.s):=fun x hx=>by
    rcases qkr _ _ _ _ hx with hx | hx
    ·exact qa (ML.out.2 x hx) ag
    ·exact qf (EN.2 x hx) Cs
   have E8:(mrg Ce.id A0 B0).map Ce.cl=q26 (l.map Ce.cl):=by
    rw[IG.out,<-Il.out,<-aV];exact qkq Cl.id Ce.cl A0 B0
   have RW:=lhd MM;have EO:=lhd MN;have vZ:=lhd (aiq iA E8);have jO:=lhd cn;clear aV EN ag MM MN iA E8 cn;go_wp2_with fail;go_loopw [3,4,5] (fun av bv o wr=>∃ A B O:List Ce,Hid (Sl w2 3 av (cat Ce.enc A))/\Hid (Sl w2 3 bv (cat Ce.enc B))/\Hid (wr.ownsRow w2.heap.size 75 3 o O.length (cat Ce.enc O))/\Hid (O++mrg Ce.id A B=mrg Ce.id A0 B0)/\O.length+A.length+B.length=len/\Below w2.heap.size w2 wr) (fun av bv _ _=>vL av+vL bv)
   case atStart=>exact⟨A0,B0,[],(show Hid _ from RW.out),(show Hid _ from EO.out),(show Hid _ from World.ownsRow_nil _ _ _ _),(show Hid _ from rfl),by simpa using RU,Below.refl _ _⟩
   case round =>
    obtain⟨A,B,O,HA,HB,HO,HM,fQ,hB⟩:=hrel;obtain⟨xa,xn,xc,oB⟩:=qg HA.out;obtain⟨ya,yn,yc,nD⟩:=qg HB.out;subst oB nD;have eL:A.length=xn:=by obtain⟨_,_,h3,_⟩:=HA.out.open;rw[qt Ce.qp] at h3;omega
    have Ai:B.length=yn:=by obtain⟨_,_,h3,_⟩:=HB.out.open;rw[qt Ce.qp] at h3;omega
    have RX:xn<=xc/\xc<=maxLen:=by obtain⟨h1,h2,_⟩:=HA.out.open;exact⟨h1,h2⟩
    have sE:yn<=yc/\yc<=maxLen:=by obtain⟨h1,h2,_⟩:=HB.out.open;exact⟨h1,h2⟩
    unfold maxLen at RX sE;have oD:=lhd (aiq eL Ai);rw[eL,Ai] at fQ;clear eL Ai;have cp:w2.heap.size<=wr.heap.size:=hB.size;by_cases rD:0 < xn/\0 < yn
    ·obtain⟨cG,Aj⟩:=rD;obtain⟨x,Ak,hA⟩ : ∃ x R,A=x :: R:=List.exists_cons_of_length_pos (by rw[oD.out.1];exact cG);obtain⟨y,Al,Ct⟩ : ∃ x R,B=x :: R:=List.exists_cons_of_length_pos (by rw[oD.out.2];exact Aj);subst hA Ct;obtain⟨xd,uu⟩ : ∃ ad,xa=some ad:=by
      cases xa with
      | none=>have:=HA.out.open.2.2.2.1 rfl;omega
      | some ad=>exact⟨ad,rfl⟩
     obtain⟨yd,jJ⟩ : ∃ ad,ya=some ad:=by
      cases ya with
      | none=>have:=HB.out.open.2.2.2.1 rfl;omega
      | some ad=>exact⟨ad,rfl⟩
     subst uu jJ;obtain⟨p0,p1,p2⟩:=qhu HA.out;obtain⟨q0,q1,q2⟩:=qhu HB.out;have d0:=Cx.q8 hB p0;have d1:=Cx.q8 hB p1;have d2:=Cx.q8 hB p2;have f0:=Cx.q8 hB q0;have f1:=Cx.q8 hB q1;have f2:=Cx.q8 hB q2;have eM:(1:Int)<=xc:=by omega
     have rZ:(1:Int)<=xn:=by omega
     have iC:(1:Int)<=yc:=by omega
     have sh:(1:Int)<=yn:=by omega
     have tR:(0:Int) < xn:=by omega
     have tT:(0:Int) < yn:=by omega
     clear p0 p1 p2 q0 q1 q2;by_cases hlt:y.id < x.id
     ·have eU:mrg Ce.id (x :: Ak) (y :: Al)=y :: mrg Ce.id (x :: Ak) Al:=by rw[mrg,if_pos hlt]
      have me:=lhd eU;clear eU;go_wp2_with fail
      go_quiet (fail)
      obtain⟨V,hV⟩ : ∃ V:World,V=wr.drewN nq:=⟨_,rfl⟩
      rw[<-hV];have dC:Below wr.heap.size wr V:=by rw[hV];exact qb (Below.refl _ _) _
      have aD:Below w2.heap.size w2 V:=hB.trans (dC.mono cp);have wZ:=lhd (qa HO.out dC);have iG:w2.heap.size<=V.heap.size:=aD.size
      replace d0:=Cx.q8 dC d0
      replace d1:=Cx.q8 dC d1
      replace d2:=Cx.q8 dC d2
      replace f0:=Cx.q8 dC f0
      replace f1:=Cx.q8 dC f1
      replace f2:=Cx.q8 dC f2
      clear hV dC;go_wp2_with (at_builtin;go_loud (refine qo (W:=w2) rfl _ _ 24 rfl w2.heap.size 75 Tryz.ke Tryz.underlying24 rfl (by decide) (by decide) _ _ _ rfl wZ.out [.int .i64 y.id,.int .i64 y.dim,.slice y.a y.n y.c] rfl rfl (Ce.xu y) (by omega) aD iG ?_));intro v5 w5 cH _ aT;have F5:=lhd (aiq cH aT);clear cH aT;go_wp2;go_roundw
      case measure=>simp[vL];omega
      case rel =>
       refine⟨x :: Ak,Al,O++[y],?_,?_,?_,(show Hid _ from ?_),?_,F5.out.2⟩
       ·exact HA.out
       ·have:=HB.out.tail Aj (yc=1) Iff.rfl _ rfl;exact this
       ·rw[gl,x9,q1c];exact F5.out.1
       ·show _=_;rw[<-HM.out,me.out,gz];rfl
       ·have h1:=oD.out.1;have h2:=oD.out.2;simp only [List.length_append,List.length_cons,List.length_nil] at h1 h2 ⊢;omega
     ·have eU:mrg Ce.id (x :: Ak) (y :: Al)=x :: mrg Ce.id Ak (y :: Al):=by rw[mrg,if_neg hlt]
      have me:=lhd eU;clear eU;go_wp2_with fail
      go_quiet (fail)
      obtain⟨V,hV⟩ : ∃ V:World,V=wr.drewN nq:=⟨_,rfl⟩
      rw[<-hV];have dC:Below wr.heap.size wr V:=by rw[hV];exact qb (Below.refl _ _) _
      have aD:Below w2.heap.size w2 V:=hB.trans (dC.mono cp);have wZ:=lhd (qa HO.out dC);have iG:w2.heap.size<=V.heap.size:=aD.size
      replace d0:=Cx.q8 dC d0
      replace d1:=Cx.q8 dC d1
      replace d2:=Cx.q8 dC d2
      replace f0:=Cx.q8 dC f0
      replace f1:=Cx.q8 dC f1
      replace f2:=Cx.q8 dC f2
      clear hV dC;go_wp2_with (at_builtin;go_loud (refine qo (W:=w2) rfl _ _ 24 rfl w2.heap.size 75 Tryz.ke Tryz.underlying24 rfl (by decide) (by decide) _ _ _ rfl wZ.out [.int .i64 x.id,.int .i64 x.dim,.slice x.a x.n x.c] rfl rfl (Ce.xu x) (by omega) aD iG ?_));intro v5 w5 cH _ aT;have F5:=lhd (aiq cH aT);clear cH aT;go_wp2;go_roundw
      case measure=>simp[vL];omega
      case rel =>
       refine⟨Ak,y :: Al,O++[x],?_,?_,?_,(show Hid _ from ?_),?_,F5.out.2⟩
       ·have:=HA.out.tail cG (xc=1) Iff.rfl _ rfl;exact this
       ·exact HB.out
       ·rw[gl,x9,q1c];exact F5.out.1
       ·show _=_;rw[<-HM.out,me.out,gz];rfl
       ·have h1:=oD.out.1;have h2:=oD.out.2;simp only [List.length_append,List.length_cons,List.length_nil] at h1 h2 ⊢;omega
    ·have eU:mrg Ce.id A B=A++B:=by
      by_cases hx:xn=0
      ·have:A=[]:=gu (by rw[oD.out.1,hx]);subst this;simp[mrg]
      ·have:B=[]:=gu (by rw[oD.out.2];omega);subst this;cases A <;> simp[mrg]
     have da:mrg Ce.id A0 B0=O++(A++B):=by rw[<-HM.out,eU]
     have Iv:=lhd da;have MO:=lhd (HA.out.q8 hB);have tJ:=lhd (aiq (show (cat Ce.enc A).length=xn*3 by rw[qt Ce.qp,oD.out.1]) (show (cat Ce.enc B).length=yn*3 by rw[qt Ce.qp,oD.out.2]));have fin:∀ (v6:Value) (w6:World),w6.ownsRow w2.heap.size 75 3 v6 len (cat Ce.enc O++(cat Ce.enc A++cat Ce.enc B))->Below w2.heap.size w2 w6->(mrg Ce.id A0 B0).map Ce.cl=q26 (l.map Ce.cl)/\q1p w6 w.heap.size v6 (mrg Ce.id A0 B0)/\Below w.heap.size w w6:=fun v6 w6 h1 h2=>by
      refine⟨vZ.out.2,⟨?_,fun x hx=>qa (vZ.out.1 x hx) h2⟩,jO.out.trans (h2.mono jO.out.size)⟩;have hl:(O++(A++B)).length=len:=by
       have h1:=oD.out.1;have h2:=oD.out.2;simp only [List.length_append];omega
      rw[Iv.out,x9,x9,hl];exact qf h1 jO.out.size
     have aP:=lhd fin;have hxy:(0:Int) < xn->¬ ((0:Int) < yn):=fun _=>by omega
     clear eU da fin;by_cases cG:(0:Int) < xn
     ·have Aj:=hxy cG;go_wp2_with (at_builtin;go_loud (refine qm (W:=w2) rfl _ _ 24 rfl w2.heap.size 75 Tryz.ke Tryz.underlying24 rfl (by decide) (by decide) _ _ _ rfl HO.out _ xn (cat Ce.enc A) rfl MO.out tJ.out.1 (zo Ce.xu _) (by omega) hB cp ?_));intro v5 w5 cH _ aT;have xA:=HB.out.q8 aT;go_wp2_with (at_builtin;go_loud (refine qm (W:=w2) rfl _ _ 24 rfl w2.heap.size 75 Tryz.ke Tryz.underlying24 rfl (by decide) (by decide) _ _ _ rfl cH _ yn (cat Ce.enc B) rfl xA tJ.out.2 (zo Ce.xu _) (by omega) aT aT.size ?_));intro v6 w6 dB _ fJ;obtain⟨q1,q2,q3⟩:=aP.out v6 w6 dB fJ;have FQ:=lhd (aiq q1 (aiq q2 q3));clear cH aT dB fJ xA q1 q2 q3;go_wp2;go_ret;exact⟨_,_,rfl,FQ.out.1,FQ.out.2.1,FQ.out.2.2⟩
     ·clear hxy;go_wp2_with (at_builtin;go_loud (refine qm (W:=w2) rfl _ _ 24 rfl w2.heap.size 75 Tryz.ke Tryz.underlying24 rfl (by decide) (by decide) _ _ _ rfl HO.out _ xn (cat Ce.enc A) rfl MO.out tJ.out.1 (zo Ce.xu _) (by omega) hB cp ?_));intro v5 w5 cH _ aT;have xA:=HB.out.q8 aT;go_wp2_with (at_builtin;go_loud (refine qm (W:=w2) rfl _ _ 24 rfl w2.heap.size 75 Tryz.ke Tryz.underlying24 rfl (by decide) (by decide) _ _ _ rfl cH _ yn (cat Ce.enc B) rfl xA tJ.out.2 (zo Ce.xu _) (by omega) aT aT.size ?_));intro v6 w6 dB _ fJ;obtain⟨q1,q2,q3⟩:=aP.out v6 w6 dB fJ;have FQ:=lhd (aiq q1 (aiq q2 q3));clear cH aT dB fJ xA q1 q2 q3;go_wp2;go_ret;exact⟨_,_,rfl,FQ.out.1,FQ.out.2.1,FQ.out.2.2⟩
end Go.Proofs.YtlhicnfeajejhaaGreatDoor
