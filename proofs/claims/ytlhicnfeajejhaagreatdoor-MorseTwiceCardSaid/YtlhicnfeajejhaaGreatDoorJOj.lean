/- cocycleref06: ordered. -/
import Derived.Test.YtlhicnfeajejhaaGreatDoorJOh
set_option maxRecDepth 1000000
set_option maxHeartbeats 16000000
namespace Go.Cx
open Go.RowKit
def mrg {α:Type} (key:α->Int):List α->List α->List α
 | [],b=>b
 | x :: a,[]=>x :: a
 | x :: a,y :: b=>if key y < key x then y :: mrg key (x :: a) b else x :: mrg key a (y :: b)
termination_by a b=>a.length+b.length
theorem qkp {α:Type} (key:α->Int) (a b:List α):(mrg key a b).length=a.length+b.length:=by
 fun_induction mrg key a b with
 | case1 b=>simp
 | case2 x a=>simp
 | case3 x a y b h ih=>simp only [List.length_cons,ih];omega
 | case4 x a y b h ih=>simp only [List.length_cons,ih];omega
theorem qkq {α β:Type} (key:β->Int) (f:α->β) (a b:List α):(mrg (fun x=>key (f x)) a b).map f=mrg key (a.map f) (b.map f):=by
 fun_induction mrg (fun x=>key (f x)) a b with
 | case1 b=>simp[mrg]
 | case2 x a=>simp[mrg]
 | case3 x a y b h ih=>rw[List.map_cons,ih];simp only [List.map_cons];rw[mrg,if_pos h]
 | case4 x a y b h ih=>rw[List.map_cons,ih];simp only [List.map_cons];rw[mrg,if_neg h]
theorem qkr {α:Type} (key:α->Int) (a b:List α) (z:α) (h:z∈mrg key a b):z∈a\/z∈b:=by
 fun_induction mrg key a b with
 | case1 b=>exact .inr h
 | case2 x a=>exact .inl h
 | case3 x a y b hk ih =>
  rcases List.mem_cons.1 h with h | h
  ·exact .inr (by simp[h])
  ·rcases ih h with h | h
   ·exact .inl h
   ·exact .inr (by simp[h])
 | case4 x a y b hk ih =>
  rcases List.mem_cons.1 h with h | h
  ·exact .inl (by simp[h])
  ·rcases ih h with h | h
   ·exact .inl (by simp[h])
   ·exact .inr h
def q26 (l:List Cl):List Cl :=
 if h:l.length<=1 then l.map fun x=>⟨x.id,x.dim,zx x.s⟩ else mrg Cl.id (q26 (l.take (l.length / 2))) (q26 (l.drop (l.length / 2)))
termination_by l.length
decreasing_by
 ·rw[List.length_take];omega
 ·rw[List.length_drop];omega
theorem q68 (l:List Cl):(q26 l).length=l.length:=by
 fun_induction q26 l with
 | case1 l h=>simp
 | case2 l h ih1 ih2=>rw[qkp,ih1,ih2,List.length_take,List.length_drop];omega
def vL:Value->Nat
 | .slice _ n _=>n
 | _=>0
theorem Sl.tail {w:World} {st:Nat} {ad:Addr} {n c:Nat} {xs:List Value} (h:Sl w st (.slice (some ad) n c) xs) (hn:0 < n) (p:Prop) [Decidable p] (hp:p↔c=1) (bd:Addr) (hbd:bd=ad.add st):Sl w st (.slice (if p then some ad else some bd) (n - 1) (c - 1)) (xs.drop st):=by
 obtain⟨h1,h2,h3,h4,h5⟩:=h.open;split
 ·rename_i hpp;have:=hp.1 hpp;rw[show n - 1=0 by omega,List.drop_eq_nil_of_le (by rw[h3,show n=1 by omega];simp)];exact Sl.empty _ _ _ _ (Nat.le_trans (Nat.sub_le _ _) h2)
 ·have:=h.drop (k:=1) (by omega);rw[Nat.one_mul] at this;rw[hbd];exact this
end Go.Cx
namespace Go.Proofs.YtlhicnfeajejhaaGreatDoor
open Go.RowKit Go.Cx
attribute [local go_sem ↓] Go.wp_at_zero Go.wp_at_succ
theorem qhu {w:World} {ad:Addr} {n c:Nat} {x:Ce} {l:List Ce} (h:Sl w 3 (.slice (some ad) n c) (cat Ce.enc (x :: l))):w.cell? ad=some (.int .i64 x.id)/\w.cell? ⟨ad.block,ad.off+1,none⟩=some (.int .i64 x.dim)/\w.cell? ⟨ad.block,ad.off+2,none⟩=some (.slice x.a x.n x.c):=by
 obtain⟨_,_,_,_,g5⟩:=h.open;obtain⟨e0,e1,e2⟩:=zh (x :: l) 0 x rfl;have had:ad.add 0=ad:=by simp[Addr.add]
 refine⟨?_,?_,?_⟩
 ·have:=g5 ad rfl _ _ e0;simpa [had] using this
 ·have h1:=qi ad 0 1 (by omega);rw[had] at h1;rw[h1];have:=g5 ad rfl _ _ e1;simpa using this
 ·have h1:=qi ad 0 2 (by omega);rw[had] at h1;rw[h1];have:=g5 ad rfl _ _ e2;simpa using this
theorem q7s:∀ (n:Nat) (v:Value) (l:List Ce) (w:World),l.length=n->SlC w v l->l.length<=1099511627776->(∀ x∈l,x.s.length<=1099511627776) →
  Calls Tryz.prog 131 #[v] w fun e w'=>∃ r m,e = .returned r/\m.map Ce.cl=q26 (l.map Ce.cl)/\q1p w' w.heap.size r m/\Below w.heap.size w w':=by
 intro n;induction n using Nat.strongRecOn with
 | _ n ih =>
 intro v l w hn h hl hsl;obtain⟨a,len,cap,rfl⟩:=qg h.1;have hlen:l.length=len:=by
  obtain⟨_,_,h3,_⟩:=h.1.open;rw[qt Ce.qp] at h3;omega
 have hcm:len<=cap/\cap<=maxLen:=by obtain⟨h1,h2,_⟩:=h.1.open;exact⟨h1,h2⟩
 unfold maxLen at hcm;obtain⟨hlc,hcm⟩:=hcm;have HH:=lhd h;have HL:=lhd hlen;have HSL:=lhd hsl;have IH:=lhd ih;rw[hlen] at hl hn;subst hn;clear h hlen hsl ih;by_cases h0:len=0
 ·have hl0:l=[]:=List.eq_nil_of_length_eq_zero (by rw[HL.out,h0]);have HL0:=lhd hl0;have h0':((len:Int) == 0)=true:=by rw[h0];rfl
  clear hl0 IH;go_enter Tryz.func131,Tryz.ntmps131;go_wp2;go_ret;refine⟨_,[],rfl,?_,⟨World.ownsRow_nil _ _ _ _,fun x hx=>by simp at hx⟩,Below.refl _ _⟩;rw[HL0.out,q26];simp
 ·have h0':((len:Int) == 0)=false:=by simp;omega
  by_cases h1:len=1
  ·have h1':((len:Int) == 1)=true:=by rw[h1];rfl
   obtain⟨x,hx⟩ : ∃ x,l=[x]:=List.length_eq_one_iff.1 (by rw[HL.out,h1]);obtain⟨g1,g2,g3,g4,g5⟩:=HH.out.1.open;obtain⟨ad,rfl⟩ : ∃ ad,a=some ad:=by
    cases a with
    | none=>have:=g4 rfl;omega
    | some ad=>exact⟨ad,rfl⟩
   have hx0:l[0]? = some x:=by rw[hx];rfl
   obtain⟨e0,e1,e2⟩:=zh l 0 x hx0;have had:ad.add 0=ad:=by simp[Addr.add]
   have d0:w.cell? ad=some (.int .i64 x.id):=by have:=g5 ad rfl _ _ e0;simpa [had] using this
   have d1:w.cell? ⟨ad.block,ad.off+1,none⟩=some (.int .i64 x.dim):=by
    have:=qi ad 0 1 (by omega);rw[had] at this;rw[this];have:=g5 ad rfl _ _ e1;simpa using this
   have d2:w.cell? ⟨ad.block,ad.off+2,none⟩=some (.slice x.a x.n x.c):=by
    have:=qi ad 0 2 (by omega);rw[had] at this;rw[this];have:=g5 ad rfl _ _ e2;simpa using this
   have HXS:=lhd (HH.out.2 x (by rw[hx];simp));have hxl:=HSL.out x (by rw[hx];simp);have HX:=lhd hx;have h10:(0:Int) < len:=by omega
   clear g1 g2 g3 g4 g5 e0 e1 e2 hx0 had hx IH;go_enter Tryz.func131,Tryz.ntmps131;go_wp2_with fail
   go_region_held3 (fun w'=>w'.cell? ad=some (.int .i64 x.id)/\w'.cell? ⟨ad.block,ad.off+1,none⟩=some (.int .i64 x.dim)/\w'.cell? ⟨ad.block,ad.off+2,none⟩=some (.slice x.a x.n x.c))
    (first | exact⟨by assumption,by assumption,by assumption⟩ | exact⟨qk (by assumption) _,qk (by assumption) _,qk (by assumption) _⟩ | fail)
    (first
     |(go_at_call 130;refine(q8w _ x.s _ HXS.out.drew hxl).mono ?_;rintro e w2 ⟨r,rfl,hr2,hb2⟩;obtain⟨ra,rc,hre⟩:=qj hr2;subst hre;have hB2:Below w.heap.size w w2:=xt (hb2.mono (by simp));have k0:=Cx.q8 hB2 d0;have k1:=Cx.q8 hB2 d1;have k2:=Cx.q8 hB2 d2;have R2:=lhd (aiq hr2 hB2);clear hr2 hb2 hB2))
   all_goals
    go_wp2;go_ret;refine⟨_,[⟨x.id,x.dim,ra,x.s.length,rc,zx x.s⟩],rfl,?_,⟨?_,fun y hy=>?_⟩,?_⟩
    ·rw[HX.out,q26];simp[Ce.cl]
    ·exact qf (vq w2 75 3 1 [.int .i64 x.id,.int .i64 x.dim,.slice ra x.s.length rc] rfl (by unfold maxLen;omega)) R2.out.2.size
    ·simp only [List.mem_singleton] at hy;subst hy;show World.ownsRow _ _ _ _ (.slice ra x.s.length rc) (zx x.s).length _;rw[q23];exact R2.out.1.alloc _
    ·exact R2.out.2.alloc R2.out.2.size _
  ·have h1':((len:Int) == 1)=false:=by simp;omega
   obtain⟨ad,rfl⟩ : ∃ ad,a=some ad:=by
    obtain⟨g1,g2,g3,g4,g5⟩:=HH.out.1.open;cases a with
    | none=>have:=g4 rfl;omega
    | some ad=>exact⟨ad,rfl⟩
   obtain⟨mm,hm⟩ : ∃ m,m=len / 2:=⟨_,rfl⟩
   have hq:(len:Int).tdiv 2=(mm:Int):=by rw[Int.tdiv_eq_ediv_of_nonneg (by omega)];omega
   have hm1:1<=mm/\mm < len:=by omega
   have hmi:(mm:Int)<=cap:=by omega
   have hmi2:(mm:Int)<=len:=by omega
   have hcne:¬ cap=mm:=by omega
   have hcz:¬ cap - mm=0:=by omega
   have hord:q26 (l.map Ce.cl)=mrg Cl.id (q26 ((l.take mm).map Ce.cl)) (q26 ((l.drop mm).map Ce.cl)):=by
    rw[q26,dif_neg (by rw[List.length_map,HL.out];omega),List.length_map,HL.out,<-hm,List.map_take,List.map_drop]
   have HORD:=lhd hord;have hct:(cat Ce.enc l).take (mm*3)=cat Ce.enc (l.take mm):=by
    conv=>lhs;rw[<-List.take_append_drop mm l,x9]
    rw[List.take_left' (by rw[qt Ce.qp,List.length_take,HL.out];omega)]
   have hcd:(cat Ce.enc l).drop (mm*3)=cat Ce.enc (l.drop mm):=by
    conv=>lhs;rw[<-List.take_append_drop mm l,x9]
    rw[List.drop_left' (by rw[qt Ce.qp,List.length_take,HL.out];omega)]
   have hs1:∀ w',Below w.heap.size w w'->SlC w' (.slice (some ad) mm cap) (l.take mm):=fun w' hb=>by
    have h1:=(HH.out.1.q8 hb).take (k:=mm) (by omega);rw[hct] at h1;exact⟨h1,fun x hx=>(HH.out.2 x (List.mem_of_mem_take hx)).q8 hb⟩
   have hs2:∀ w',Below w.heap.size w w'->SlC w' (.slice (some (ad.add (mm*3))) (len - mm) (cap - mm)) (l.drop mm):=fun w' hb=>by
    have h1:=(HH.out.1.q8 hb).drop (k:=mm) (by omega);rw[hcd] at h1;exact⟨h1,fun x hx=>(HH.out.2 x (List.mem_of_mem_drop hx)).q8 hb⟩
   have HS1:=lhd hs1;have HS2:=lhd hs2;have hl1:(l.take mm).length=mm:=by rw[List.length_take,HL.out];omega
   have hl2:(l.drop mm).length=len - mm:=by rw[List.length_drop,HL.out]
   have HLL:=lhd (aiq hl1 hl2);clear hord hct hcd hs1 hs2 hl1 hl2 hm;go_enter Tryz.func131,Tryz.ntmps131;go_wp2_with fail;refine(IH.out mm hm1.2 _ (l.take mm) _ HLL.out.1 (HS1.out _ (Below.refl _ _)) (by rw[HLL.out.1];omega) (fun x hx=>HSL.out x (List.mem_of_mem_take hx))).mono ?_;rintro e w1 ⟨ra,A0,rfl,hA0,hRA,hb1⟩;obtain⟨aa,ac,hae⟩:=qj hRA.1;subst hae;have HRA:=lhd hRA;have HB1:=lhd hb1;have HA0:=lhd hA0;clear hRA hb1 hA0;go_wp2_with fail;refine(IH.out (len - mm) (by omega) _ (l.drop mm) _ HLL.out.2 (HS2.out _ HB1.out) (by rw[HLL.out.2];omega) (fun x hx=>HSL.out x (List.mem_of_mem_drop hx))).mono ?_;rintro e w2 ⟨rb,B0,rfl,hB0,hRB,hb2⟩;obtain⟨ba,bc,hbe⟩:=qj hRB.1;subst hbe;have hAB:A0.length+B0.length=len:=by
    have h1:=congrArg List.length HA0.out;have h2:=congrArg List.length hB0;rw[List.length_map,q68,List.length_map,HLL.out.1] at h1;rw[List.length_map,q68,List.length_map,HLL.out.2] at h2;omega
   have hw12:w.heap.size<=w1.heap.size:=HB1.out.size;have hw22:w1.heap.size<=w2.heap.size:=hb2.size;have hBw2:Below w.heap.size w w2:=HB1.out.trans (hb2.mono hw12);have hsA:Sl w2 3 (.slice aa A0.length ac) (cat Ce.enc A0):=Sl.qc (qa HRA.out.1 hb2);have hsB:Sl w2 3 (.slice ba B0.length bc) (cat Ce.enc B0):=Sl.qc hRB.1;have hsd:∀ x∈mrg Ce.id A0 B0,w2.ownsRow w.heap.size 108 2 x.sl x.s.length (cat Sd.enc x.s):=fun x hx=>by
    rcases qkr _ _ _ _ hx with hx | hx
    ·exact qa (HRA.out.2 x hx) hb2
    ·exact qf (hRB.2 x hx) hw12
   have hfm:(mrg Ce.id A0 B0).map Ce.cl=q26 (l.map Ce.cl):=by
    rw[HORD.out,<-HA0.out,<-hB0];exact qkq Cl.id Ce.cl A0 B0
   have HSA:=lhd hsA;have HSB:=lhd hsB;have HSD:=lhd (aiq hsd hfm);have HBW:=lhd hBw2;clear hB0 hRB hb2 hsA hsB hsd hfm hBw2;go_wp2_with fail;go_loopw [3,4,5] (fun av bv o wr=>∃ A B O:List Ce,Hid (Sl w2 3 av (cat Ce.enc A))/\Hid (Sl w2 3 bv (cat Ce.enc B))/\Hid (wr.ownsRow w2.heap.size 75 3 o O.length (cat Ce.enc O))/\Hid (O++mrg Ce.id A B=mrg Ce.id A0 B0)/\O.length+A.length+B.length=len/\Below w2.heap.size w2 wr) (fun av bv _ _=>vL av+vL bv)
   case atStart=>exact⟨A0,B0,[],(show Hid _ from HSA.out),(show Hid _ from HSB.out),(show Hid _ from World.ownsRow_nil _ _ _ _),(show Hid _ from rfl),by simpa using hAB,Below.refl _ _⟩
   case round =>
    obtain⟨A,B,O,HA,HB,HO,HM,hsum,hB⟩:=hrel;obtain⟨xa,xn,xc,hxe⟩:=qg HA.out;obtain⟨ya,yn,yc,hye⟩:=qg HB.out;subst hxe hye;have hxn:A.length=xn:=by obtain⟨_,_,h3,_⟩:=HA.out.open;rw[qt Ce.qp] at h3;omega
    have hyn:B.length=yn:=by obtain⟨_,_,h3,_⟩:=HB.out.open;rw[qt Ce.qp] at h3;omega
    have hxc:xn<=xc/\xc<=maxLen:=by obtain⟨h1,h2,_⟩:=HA.out.open;exact⟨h1,h2⟩
    have hyc:yn<=yc/\yc<=maxLen:=by obtain⟨h1,h2,_⟩:=HB.out.open;exact⟨h1,h2⟩
    unfold maxLen at hxc hyc;have HXN:=lhd (aiq hxn hyn);rw[hxn,hyn] at hsum;clear hxn hyn;have hz2:w2.heap.size<=wr.heap.size:=hB.size;by_cases hgo:0 < xn/\0 < yn
    ·obtain⟨hx0,hy0⟩:=hgo;obtain⟨x,RA0,hA⟩ : ∃ x R,A=x :: R:=List.exists_cons_of_length_pos (by rw[HXN.out.1];exact hx0);obtain⟨y,RB0,hBe⟩ : ∃ x R,B=x :: R:=List.exists_cons_of_length_pos (by rw[HXN.out.2];exact hy0);subst hA hBe;obtain⟨xd,hxd⟩ : ∃ ad,xa=some ad:=by
      cases xa with
      | none=>have:=HA.out.open.2.2.2.1 rfl;omega
      | some ad=>exact⟨ad,rfl⟩
     obtain⟨yd,hyd⟩ : ∃ ad,ya=some ad:=by
      cases ya with
      | none=>have:=HB.out.open.2.2.2.1 rfl;omega
      | some ad=>exact⟨ad,rfl⟩
     subst hxd hyd;obtain⟨p0,p1,p2⟩:=qhu HA.out;obtain⟨q0,q1,q2⟩:=qhu HB.out;have d0:=Cx.q8 hB p0;have d1:=Cx.q8 hB p1;have d2:=Cx.q8 hB p2;have f0:=Cx.q8 hB q0;have f1:=Cx.q8 hB q1;have f2:=Cx.q8 hB q2;have hx1:(1:Int)<=xc:=by omega
     have hx2:(1:Int)<=xn:=by omega
     have hy1:(1:Int)<=yc:=by omega
     have hy2:(1:Int)<=yn:=by omega
     have hx3:(0:Int) < xn:=by omega
     have hy3:(0:Int) < yn:=by omega
     clear p0 p1 p2 q0 q1 q2;by_cases hlt:y.id < x.id
     ·have hmr:mrg Ce.id (x :: RA0) (y :: RB0)=y :: mrg Ce.id (x :: RA0) RB0:=by rw[mrg,if_pos hlt]
      have HMR:=lhd hmr;clear hmr;go_wp2_with fail
      go_quiet (fail)
      obtain⟨V,hV⟩ : ∃ V:World,V=wr.drewN nq:=⟨_,rfl⟩
      rw[<-hV];have hWV:Below wr.heap.size wr V:=by rw[hV];exact qb (Below.refl _ _) _
      have hBV:Below w2.heap.size w2 V:=hB.trans (hWV.mono hz2);have hOV:=lhd (qa HO.out hWV);have hzV:w2.heap.size<=V.heap.size:=hBV.size
      replace d0:=Cx.q8 hWV d0
      replace d1:=Cx.q8 hWV d1
      replace d2:=Cx.q8 hWV d2
      replace f0:=Cx.q8 hWV f0
      replace f1:=Cx.q8 hWV f1
      replace f2:=Cx.q8 hWV f2
      clear hV hWV;go_wp2_with (at_builtin;go_loud (refine qo (W:=w2) rfl _ _ 24 rfl w2.heap.size 75 Tryz.ke Tryz.underlying24 rfl (by decide) (by decide) _ _ _ rfl hOV.out [.int .i64 y.id,.int .i64 y.dim,.slice y.a y.n y.c] rfl rfl (Ce.xu y) (by omega) hBV hzV ?_));intro v5 w5 hr5 _ hB5;have F5:=lhd (aiq hr5 hB5);clear hr5 hB5;go_wp2;go_roundw
      case measure=>simp[vL];omega
      case rel =>
       refine⟨x :: RA0,RB0,O++[y],?_,?_,?_,(show Hid _ from ?_),?_,F5.out.2⟩
       ·exact HA.out
       ·have:=HB.out.tail hy0 (yc=1) Iff.rfl _ rfl;exact this
       ·rw[List.length_append,x9,q1c];exact F5.out.1
       ·show _=_;rw[<-HM.out,HMR.out,List.append_assoc];rfl
       ·have h1:=HXN.out.1;have h2:=HXN.out.2;simp only [List.length_append,List.length_cons,List.length_nil] at h1 h2 ⊢;omega
     ·have hmr:mrg Ce.id (x :: RA0) (y :: RB0)=x :: mrg Ce.id RA0 (y :: RB0):=by rw[mrg,if_neg hlt]
      have HMR:=lhd hmr;clear hmr;go_wp2_with fail
      go_quiet (fail)
      obtain⟨V,hV⟩ : ∃ V:World,V=wr.drewN nq:=⟨_,rfl⟩
      rw[<-hV];have hWV:Below wr.heap.size wr V:=by rw[hV];exact qb (Below.refl _ _) _
      have hBV:Below w2.heap.size w2 V:=hB.trans (hWV.mono hz2);have hOV:=lhd (qa HO.out hWV);have hzV:w2.heap.size<=V.heap.size:=hBV.size
      replace d0:=Cx.q8 hWV d0
      replace d1:=Cx.q8 hWV d1
      replace d2:=Cx.q8 hWV d2
      replace f0:=Cx.q8 hWV f0
      replace f1:=Cx.q8 hWV f1
      replace f2:=Cx.q8 hWV f2
      clear hV hWV;go_wp2_with (at_builtin;go_loud (refine qo (W:=w2) rfl _ _ 24 rfl w2.heap.size 75 Tryz.ke Tryz.underlying24 rfl (by decide) (by decide) _ _ _ rfl hOV.out [.int .i64 x.id,.int .i64 x.dim,.slice x.a x.n x.c] rfl rfl (Ce.xu x) (by omega) hBV hzV ?_));intro v5 w5 hr5 _ hB5;have F5:=lhd (aiq hr5 hB5);clear hr5 hB5;go_wp2;go_roundw
      case measure=>simp[vL];omega
      case rel =>
       refine⟨RA0,y :: RB0,O++[x],?_,?_,?_,(show Hid _ from ?_),?_,F5.out.2⟩
       ·have:=HA.out.tail hx0 (xc=1) Iff.rfl _ rfl;exact this
       ·exact HB.out
       ·rw[List.length_append,x9,q1c];exact F5.out.1
       ·show _=_;rw[<-HM.out,HMR.out,List.append_assoc];rfl
       ·have h1:=HXN.out.1;have h2:=HXN.out.2;simp only [List.length_append,List.length_cons,List.length_nil] at h1 h2 ⊢;omega
    ·have hmr:mrg Ce.id A B=A++B:=by
      by_cases hx:xn=0
      ·have:A=[]:=List.eq_nil_of_length_eq_zero (by rw[HXN.out.1,hx]);subst this;simp[mrg]
      ·have:B=[]:=List.eq_nil_of_length_eq_zero (by rw[HXN.out.2];omega);subst this;cases A <;> simp[mrg]
     have hfin:mrg Ce.id A0 B0=O++(A++B):=by rw[<-HM.out,hmr]
     have HFN:=lhd hfin;have HAr:=lhd (HA.out.q8 hB);have HCL:=lhd (aiq (show (cat Ce.enc A).length=xn*3 by rw[qt Ce.qp,HXN.out.1]) (show (cat Ce.enc B).length=yn*3 by rw[qt Ce.qp,HXN.out.2]));have fin:∀ (v6:Value) (w6:World),w6.ownsRow w2.heap.size 75 3 v6 len (cat Ce.enc O++(cat Ce.enc A++cat Ce.enc B))->Below w2.heap.size w2 w6->(mrg Ce.id A0 B0).map Ce.cl=q26 (l.map Ce.cl)/\q1p w6 w.heap.size v6 (mrg Ce.id A0 B0)/\Below w.heap.size w w6:=fun v6 w6 h1 h2=>by
      refine⟨HSD.out.2,⟨?_,fun x hx=>qa (HSD.out.1 x hx) h2⟩,HBW.out.trans (h2.mono HBW.out.size)⟩;have hl:(O++(A++B)).length=len:=by
       have h1:=HXN.out.1;have h2:=HXN.out.2;simp only [List.length_append];omega
      rw[HFN.out,x9,x9,hl];exact qf h1 HBW.out.size
     have FIN:=lhd fin;have hxy:(0:Int) < xn->¬ ((0:Int) < yn):=fun _=>by omega
     clear hmr hfin fin;by_cases hx0:(0:Int) < xn
     ·have hy0:=hxy hx0;go_wp2_with (at_builtin;go_loud (refine qm (W:=w2) rfl _ _ 24 rfl w2.heap.size 75 Tryz.ke Tryz.underlying24 rfl (by decide) (by decide) _ _ _ rfl HO.out _ xn (cat Ce.enc A) rfl HAr.out HCL.out.1 (zo Ce.xu _) (by omega) hB hz2 ?_));intro v5 w5 hr5 _ hB5;have hbr:=HB.out.q8 hB5;go_wp2_with (at_builtin;go_loud (refine qm (W:=w2) rfl _ _ 24 rfl w2.heap.size 75 Tryz.ke Tryz.underlying24 rfl (by decide) (by decide) _ _ _ rfl hr5 _ yn (cat Ce.enc B) rfl hbr HCL.out.2 (zo Ce.xu _) (by omega) hB5 hB5.size ?_));intro v6 w6 hr6 _ hB6;obtain⟨q1,q2,q3⟩:=FIN.out v6 w6 hr6 hB6;have FQ:=lhd (aiq q1 (aiq q2 q3));clear hr5 hB5 hr6 hB6 hbr q1 q2 q3;go_wp2;go_ret;exact⟨_,_,rfl,FQ.out.1,FQ.out.2.1,FQ.out.2.2⟩
     ·clear hxy;go_wp2_with (at_builtin;go_loud (refine qm (W:=w2) rfl _ _ 24 rfl w2.heap.size 75 Tryz.ke Tryz.underlying24 rfl (by decide) (by decide) _ _ _ rfl HO.out _ xn (cat Ce.enc A) rfl HAr.out HCL.out.1 (zo Ce.xu _) (by omega) hB hz2 ?_));intro v5 w5 hr5 _ hB5;have hbr:=HB.out.q8 hB5;go_wp2_with (at_builtin;go_loud (refine qm (W:=w2) rfl _ _ 24 rfl w2.heap.size 75 Tryz.ke Tryz.underlying24 rfl (by decide) (by decide) _ _ _ rfl hr5 _ yn (cat Ce.enc B) rfl hbr HCL.out.2 (zo Ce.xu _) (by omega) hB5 hB5.size ?_));intro v6 w6 hr6 _ hB6;obtain⟨q1,q2,q3⟩:=FIN.out v6 w6 hr6 hB6;have FQ:=lhd (aiq q1 (aiq q2 q3));clear hr5 hB5 hr6 hB6 hbr q1 q2 q3;go_wp2;go_ret;exact⟨_,_,rfl,FQ.out.1,FQ.out.2.1,FQ.out.2.2⟩
end Go.Proofs.YtlhicnfeajejhaaGreatDoor
