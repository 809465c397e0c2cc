/- Steps towards SequenceChecks. Conditions: none. -/
import Derived.Test.YtmkpbhaoalbhjaaGreatDoorXQf
import Derived.Test.YtmkpbhaoalbhjaaGreatDoorXRm
set_option maxRecDepth 1000000
set_option maxHeartbeats 0
open Go.Value renaming slice→O,agg→I,pointer→σ,bool→τ,int→H,tuple→ψ,string→ω
open Option renaming none→Z,some→Y
open Go renaming undef→V,World→δ,Value→ε
open Go.IntKind renaming i64→φ
open Go.Cx renaming keep→J
namespace Go.Proofs.YtmkpbhaoalbhjaaGreatDoor
open Go.RowKit Go.Cx
attribute [local go_sem ↓] Go.wp_at_zero Go.wp_at_succ
theorem qvo (v:ε)(ls:List (List Int))(n m:Nat)(w:δ)(h:SlI w v ls)(hn:ls.length=n)(hm:∀l∈ls,l.length=m)(cY:0<n)(bZ:n<=200)(dE:m<=200)(hI:∀l∈ls,∀x∈l,I64 x) :
  Calls Tryz.prog 69 #[v] w fun e w'=>∃E:Nat,e=.returned (I #[n,m,O E (n*m) (n*m)])/\w<=E/\E<w'/\EW w' E (n*m) (fun i=>(ls.getD (i / m) []).getD (i%m) 0)/\Below w w w':=by
 obtain⟨vs,hv,yJ,fZ⟩:=h;obtain⟨a,n',cap,rfl⟩:=qg hv;have B9:n'=n:=by obtain⟨_,_,h3,_⟩:=hv.open;omega
 subst B9;obtain⟨fx,fO,_⟩:=hv.open;unfold maxLen at fO;obtain⟨ad,sA⟩:=sadq hv.open.2.2.2.1 (by omega)
 subst sA;have al:∀k,k<n'->∃(ra:Option Addr) (rc:Nat) (l:List Int),ls[k]? =Y l/\w (ad.add k)=O ra m rc/\Sl w 1 (O ra m rc) (ints l):=fun k hk=>by
  obtain⟨l,hl⟩:∃l,ls[k]? =Y l:=⟨_,gg (by rw[hn];exact hk)⟩
  obtain⟨u,hu⟩:∃u,vs[k]? =Y u:=⟨_,gg (by rw[yJ,hn];exact hk)⟩
  have hs:=fZ k u l hu hl;obtain⟨ra,rl,rc,rfl⟩:=qg hs;have CI:rl=m:=by obtain⟨_,_,h3,_⟩:=hs.open;rw[xl,hm l (gi hl)]at h3;omega
  subst CI;refine⟨ra,rc,l,hl,?_,hs⟩;have:=hv.open.2.2.2.2 ad rfl k _ hu;exact this
 have HR:=yh al hI hm;clear al hv yJ fZ hI hm;go_enter Tryz.func69,Tryz.ntmps69;go_wp2_with fail;obtain⟨W,hW⟩:=x4 (w.alloc (.cells #[H φ 0,H φ 0,O Z 0 0] 75));rw[<-hW];have c0:W w=H φ 0:=by rw[hW];exact qd w _ _ (0,0) 0
 have c1:W ⟨w,1,Z⟩=H φ 0:=by rw[hW];exact qd w _ _ (0,0) 1
 have c2:W ⟨w,2,Z⟩=O Z 0 0:=by rw[hW];exact qd w _ _ (0,0) 2
 have z0:W.frozen? w=false:=by rw[hW];exact jz (heap_alloc_new w _) 0
 have z1:W.frozen? ⟨w,1,Z⟩=false:=by rw[hW];exact jz (heap_alloc_new w _) 1
 have z2:W.frozen? ⟨w,2,Z⟩=false:=by rw[hW];exact jz (heap_alloc_new w _) 2
 have hw:Below w w W:=by rw[hW];exact(q9).alloc (nlr _) _
 have ak:w.heap.size<W:=by rw[hW];simp
 have HC:=q5h c0 c1 c2 z0 z1 z2 hw ak;clear hW c0 c1 c2 z0 z1 z2 hw ak;go_loopw [3,13] (fun p q wr=>∃k:Nat,q=k/\k<=n'/\p=((if k=0 then 0 else m:Nat):Int)/\Below W W wr) (fun _ q _=>n'-(vI q).toNat)
 case atStart=>exact⟨0,rfl,gm _,rfl,q9⟩
 case round =>
  obtain⟨k,rfl,hk,rfl,hB⟩:=hrel;by_cases ak:k<n'
  ·obtain⟨ra,rc,l,hl,hc,hs⟩:=HR.out.1 k ak;have d0:wr (ad.add k)=O ra m rc:=J hB (J HC.a6 hc);obtain⟨cur,Ai⟩:=x4 (if k=0 then 0 else m:Nat);rw[<-Ai];have Dv:max (cur:Int) (m:Int)=(m:Int):=by rw[Ai];split <;> omega
   clear hl hc hs Ai;go_wp2;go_roundw
   case measure=>simp[vI];omega
   case rel=>exact⟨k+1,qh (by omega),by omega,by simp,hB⟩
  ·have dy:k=n':=by omega
   have ej:(if k=0 then 0 else m:Nat)=m:=if_neg (by omega);rw[ej];clear ej;go_wp2_with fail;refine(qqn n' m _ bZ dE).mono ?_;rintro e w1 ⟨E,rfl,dr,dN,nW,ae⟩;have aF:Below W W w1:=(btr hB ae);have HZ:=jg nW aF;have jQ:W<=E:=gd hB.size dr;clear nW ae aF hB;obtain⟨N,hN⟩:=x4 (n'*m);have DY:N<=40000:=by rw[hN];exact gd (Nat.mul_le_mul bZ dE) (by decide)
   rw[<-hN]at HZ ⊢;have fb:=lhd hN;clear hN;by_cases sB:N=0
   ·have DY:((N:Int) == 0)=true:=by simpa using sB
    have iJ:=HC.b7;have aF:=HZ.out.2;have r0:∀o,(w1.alloc o) w=H φ 0:=fun o=>qk (J aF HC.out.1) o
    have r1:∀o,(w1.alloc o) ⟨w,1,Z⟩=H φ 0:=fun o=>qk (J aF HC.a1) o
    have r2:∀o,(w1.alloc o) ⟨w,2,Z⟩=O Z 0 0:=fun o=>qk (J aF HC.a2) o
    have f0:∀o,(w1.alloc o).frozen? w=false:=fun o=>xf (aF.alloc aF.size o) iJ HC.a3
    have f1:∀o,(w1.alloc o).frozen? ⟨w,1,Z⟩=false:=fun o=>xf (aF.alloc aF.size o) iJ HC.a4
    have f2:∀o,(w1.alloc o).frozen? ⟨w,2,Z⟩=false:=fun o=>xf (aF.alloc aF.size o) iJ HC.a5
    have sC:=yh sB aF iJ;clear sB aF iJ;go_wp2_with fail;obtain⟨e0,e1,e2⟩:=qds (r0 (.cells #[n',m,O E N N] 75)) (r1 _) (r2 _);have aT:Below w w (w1.alloc (.cells #[n',m,O E N N] 75)):=((btr HC.a6 sC.a1)).alloc (by have:=HC.a6.size;have:=sC.a1.size;omega) _;have TC:=HC.a6.size;refine bodyPost_ret (v:=I #[n',m,O E N N]) (by simp[results,Tryz.results69,go_sem,e0,e1,e2]) rfl ⟨E,by rw[fb.out],by omega,?_,?_,q28 aT (nlr _) _ _ _⟩
    ·simp[World.setCell];omega
    ·rw[<-fb.out,sC.out.1];exact fun i hi=>absurd hi (Nat.not_lt_zero _)
   have DY:((N:Int) == 0)=false:=by simpa using sB
   clear sB;go_wp2_with fail;obtain⟨W5,dZ⟩:=x4 (w1.alloc (.cells #[n',m,O E N N] 75));rw[<-dZ];have b0:W5 w1=n':=by rw[dZ];exact qd w1 _ _ (0,0) 0
   have b1:W5 ⟨w1,1,Z⟩=m:=by rw[dZ];exact qd w1 _ _ (0,0) 1
   have b2:W5 ⟨w1,2,Z⟩=O E N N:=by rw[dZ];exact qd w1 _ _ (0,0) 2
   have mW:Below w1 w1 W5:=by rw[dZ];exact(q9).alloc (nlr _) _
   have bT:EW W5 E N (fun _=>0):=HZ.out.1.keep mW dN;have dG:Below W W W5:=(btr HZ.out.2 mW);have HB:=kg b0 b1 b2 bT dG;have aL:w1≠E:=by omega
   clear b0 b1 b2 bT dG mW dZ;obtain⟨F,hF⟩:∃F:Nat->Int,F=fun i=>(ls.getD (i / m) []).getD (i%m) 0:=⟨_,rfl⟩
   have HF:=lhd hF;clear hF;go_loopw [33] (fun q wr=>∃k:Nat,q=k/\k<=n'/\Hid (EW wr E N (fun i=>if i<k*m then F i else 0))/\Hid (Kp E W5 wr)/\Below W W wr) (fun q _=>n'-(vI q).toNat)
   case atStart=>exact⟨0,rfl,gm _,(lhd (HB.a3.congr fun i _=>by simp)),(lhd (Kp.refl _ _)),HB.b4⟩
   case round =>
    obtain⟨k,rfl,hk,HE,HK,hB⟩:=hrel;have b0:=HK.out.cell _ _ aL HB.out.1;have b2:=HK.out.cell _ _ aL HB.a2;by_cases ak:k<n'
    ·obtain⟨ra,rc,l,hl,hc,hs⟩:=HR.out.1 k ak;have aW:l.length=m:=HR.b2 l (gi hl);have l6:m<=rc/\rc<=maxLen:=by obtain⟨g1,g2,_⟩:=hs.open;exact⟨g1,g2⟩
     unfold maxLen at l6;obtain⟨km,cd⟩:=x4 (k*m);have Xq:km+m<=N:=by rw[cd,fb.out];have:(k+1)*m<=n'*m:=gI m ak;rw[Nat.add_mul,Nat.one_mul]at this;exact this
     have KM:IntKind.i64.wrap ((k:Int)*(m:Int))=(km:Int):=by rw[cd,Int.natCast_mul];exact IntWalk.i64_in _ (by rw[<-Int.natCast_mul,<-cd];omega)
     rw[<-cd]at HE;have HL:=kg hl hc hs aW cd;clear hl hc hs aW cd b0 b2;obtain⟨wo,eE⟩:=x4 wr;subst eE;have b0:=HK.out.cell _ _ aL HB.out.1;have Ih:wo (ad.add k)=O ra m rc:=J ((btr HC.a6 hB)) HL.a1;go_wp2_with fail;go_loopw [40] (fun q wr=>∃j:Nat,q=j/\j<=m/\Hid (EW wr E N (fun i=>if i<km+j then F i else 0))/\Hid (Kp E W5 wr)/\Below W W wr) (fun q _=>m-(vI q).toNat)
     case atStart=>exact⟨0,rfl,gm _,HE,HK,hB⟩
     case round =>
      clear HE HK hB b0;obtain⟨j,rfl,hj,HE,HK,hB⟩:=hrel;have b2:=HK.out.cell _ _ aL HB.a2;have aT:Below w w wr:=(btr HC.a6 hB);have d0:wr (ad.add k)=O ra m rc:=J aT HL.a1;by_cases cj:j<m
      ·obtain⟨rd,kZ⟩:=sadq HL.a2.open.2.2.2.1 (by omega)
       subst kZ;obtain⟨x,hx⟩:∃x,l[j]? =Y x:=⟨_,gg (by rw[HL.a3];exact cj)⟩
       have d1:wr (rd.add j)=x:=J aT (HL.a2.open.2.2.2.2 rd rfl _ _ (by rw[q9r _ _ (by rw[HL.a3];exact cj),gb,hx];rfl));have HD:=lhd (HL.a2.open.2.2.2.2 rd rfl _ _ (show (ints l)[j]? =x by rw[q9r _ _ (by rw[HL.a3];exact cj),gb,hx];rfl));have kE:=HR.a1 l (gi HL.out.1) x (gi hx);unfold I64 at kE;obtain⟨q,hq⟩:=x4 (km+j);have O1:q<N:=by omega
       have Xr:IntKind.i64.wrap ((km:Int)+(j:Int))=(q:Int):=by rw[hq,Int.natCast_add];exact IntWalk.i64_in _ (by omega)
       have Du:(q:Int)<N:=by omega
       have BX:F q=x:=by
        rw[HF.out];show (ls.getD (q / m) []).getD (q%m) 0=x;have h1:(k*m+j) / m=k:=by rw[Nat.mul_comm,Nat.mul_add_div (by omega),Nat.div_eq_of_lt cj,Nat.add_zero]
        have h2:(k*m+j)%m=j:=by rw[Nat.mul_comm,Nat.mul_add_mod,Nat.mod_eq_of_lt cj]
        have h3:ls.getD k []=l:=by rw[gb,HL.out.1];rfl
        rw[hq,HL.b4,h1,h2,h3,gb,hx];rfl
       have HQ:=jg hq BX;clear hq BX hx;have fR:E<wr:=by have:=HK.out.size;have h2:=HZ.out.1;have h3:=World.block_lt_of_cell? wr ⟨E,q*2,Z⟩ (HE.out q O1).1;exact h3
       have eG:Below wr wr wr.drew:=qb (Below.refl _ wr) 1;have kF:(ad.add k).block≠E:=by have h1:=World.block_lt_of_cell? w _ HL.a1;have h2:=HC.b7;omega
       have Xs:(rd.add j).block≠E:=by have h1:=World.block_lt_of_cell? w _ HD.out;have h2:=HC.b7;omega
       clear HD;go_upto_region 16 with fail
       go_region_held3 (fun w'=>w' ⟨w1,2,Z⟩=O E N N)
        (first|assumption|exact xe (xe a0 aL) aL)
        (first
         |(go_at_call 64;refine(qgv x _ kE.1 kE.2).mono ?_;rintro e w2 ⟨rfl,aj⟩;rw[show wv x=I #[τ (decide (x<0)),ω (mg x)]from rfl];have aI:Below wr wr w2:=(btr eG aj);have a0:=J aI b2;have DT:=lhd (HE.out.keep aI fR);obtain⟨t0,t1,t2,t3⟩:=DT.out q O1;have aR:=lhd aI))
       go_wp2;go_roundw
       case measure=>simp[vI];omega
       case rel =>
        refine⟨j+1,qh (by omega),by omega,(lhd ((DT.out.put q x).congr fun i hi=>?_)),(lhd (((HK.out.below aR.out).set _ _).set _ _)),(((btr hB aR.out)).setCell jQ _).setCell jQ _⟩;have h1:=HQ.out.1;by_cases KN:i=q
        ·rw[if_pos KN,if_pos (by omega),KN,HQ.out.2]
        ·rw[if_neg KN];by_cases h2:i<km+j
         ·rw[if_pos h2,if_pos (by omega)]
         ·rw[if_neg h2,if_neg (by omega)]
      ·have KP:j=m:=by omega
       go_wp2;go_roundw
       case measure=>simp[vI];omega
       case rel =>refine⟨k+1,qh (by omega),by omega,(show Hid _ from ?_),HK,hB⟩;rw[Nat.add_mul,Nat.one_mul,<-HL.b4];rw[KP]at HE;exact HE.out
    ·have dy:k=n':=by omega
     have b1:=HK.out.cell _ _ aL HB.a1;have ah:∀k:Nat,(⟨w,k,Z⟩ : Addr).block≠E:=fun k=>by have:=HC.b7;show w≠E;omega
     have iJ:=HC.b7;have r0:=HK.out.cell _ _ (ah 0) (J HB.b4 HC.out.1);have r1:=HK.out.cell _ _ (ah 1) (J HB.b4 HC.a1);have r2:=HK.out.cell _ _ (ah 2) (J HB.b4 HC.a2);have f0:=HK.out.q5d _ (ah 0) (gz iJ HB.b4.size) (xf HB.b4 iJ HC.a3);have f1:=HK.out.q5d _ (ah 1) (gz iJ HB.b4.size) (xf HB.b4 iJ HC.a4);have f2:=HK.out.q5d _ (ah 2) (gz iJ HB.b4.size) (xf HB.b4 iJ HC.a5);go_wp2_with fail;have e0:∀(x y z:ε),(((wr.setCell w x).setCell ⟨w,1,Z⟩ y).setCell ⟨w,2,Z⟩ z) w=Y x:=fun x y z =>x8 (x8 (World.cell?_setCell_same' _ _ _ (by rw[r0];rfl)) (by simp)) (by simp)
     have e1:∀(x y z:ε),(((wr.setCell w x).setCell ⟨w,1,Z⟩ y).setCell ⟨w,2,Z⟩ z) ⟨w,1,Z⟩=Y y:=fun x y z =>x8 (World.cell?_setCell_same' _ _ _ (by rw[x8 r1 (by simp)];rfl)) (by simp)
     have e2:∀(x y z:ε),(((wr.setCell w x).setCell ⟨w,1,Z⟩ y).setCell ⟨w,2,Z⟩ z) ⟨w,2,Z⟩=Y z:=fun x y z =>World.cell?_setCell_same' _ _ _ (by rw[x8 (x8 r2 (by simp)) (by simp)];rfl)
     refine bodyPost_ret (v:=I #[n',m,O E N N]) (by simp[results,Tryz.results69,go_sem,e0,e1,e2]) rfl ⟨E,by rw[fb.out],by omega,?_,?_,?_⟩
     ·have:=HK.out.size;have h2:=HB.b4.size;have h3:=World.block_lt_of_cell? _ w1 HB.out.1;have h4:w1.heap.size<W5:=h3;simp only [World.size_setCell];omega
     ·have Ii:EW (((wr.setCell w n').setCell ⟨w,1,Z⟩ m).setCell ⟨w,2,Z⟩ (O E N N)) E N (fun i=>if i<k*m then F i else 0):=fun i hi=>by
       obtain⟨g1,g2,g3,g4⟩:=HE.out i hi;have Aj:(⟨E,i*2,Z⟩ : Addr).block≠w:=by show E≠w;omega
       have Ak:(⟨E,i*2+1,Z⟩ : Addr).block≠w:=by show E≠w;omega
       exact⟨xe (xe (xe g1 Aj) Aj) Aj,xe (xe (xe g2 Ak) Ak) Ak,by simpa [World.frozen?_setCell]using g3,by simpa [World.frozen?_setCell]using g4⟩
      rw[<-fb.out];refine Ii.congr fun i hi=>?_
      rw[if_pos (by rw[dy,<-fb.out];exact hi),HF.out];simp[List.getD_eq_getElem?_getD]
     ·have h1:=(btr HC.a6 hB);exact((h1.setCell (nlr _) _).setCell (nlr _) _).setCell (nlr _) _
theorem qpi (v:ε)(L:List Int)(x:Int)(w:δ)(h:Sl w 1 v (ints L))(hL:L.length<=1000000)(hs:L.Pairwise (· < ·)) :
  Calls Tryz.prog 68 #[v,x] w fun e w'=>∃k:Nat,e=.returned (ψ #[k,τ (L.contains x)])/\(x∈L->L[k]? =Y x)/\Below w w w':=by
 obtain⟨a,n,cap,rfl⟩:=qg h;have hl:L.length=n:=by have:=h.open.2.2.1;rw[xl,gK]at this;exact this
 have HH:=yh h hl hs;have hn:n<=1000000:=by omega
 obtain⟨q,hq⟩:=x4 (L.contains x);rw[<-hq];have HQ:=lhd hq;clear h hl hs hL hq;go_enter Tryz.func68,Tryz.ntmps68;go_wp2;go_loopw [7,8] (fun p q wr=>∃i j:Nat,p=i/\q=j/\i<=j/\j<=n/\Hid (∀k y,L[k]? =Y y->(k<i->y<x)/\(j<=k->x<=y))/\Below w w wr) (fun p q _=>(vI q).toNat-(vI p).toNat)
 case atStart=>exact⟨0,n,rfl,rfl,gm _,nlr _,(lhd (fun k y hk=>⟨fun h=>by omega,fun h=>by have:=(gk.1 hk).1;rw[HH.a1]at this;omega⟩)),q9⟩
 case round =>
  obtain⟨i,j,rfl,rfl,iu,hj,HF,hB⟩:=hrel;by_cases ak:i<j
  ·have KJ:(i:Int)<j:=by omega
   obtain⟨c,hc⟩:=x4 ((i+j) / 2);have fx:i<=c/\c<j:=by omega
   have TD:c<n:=by omega
   have w0:IntKind.i64.wrap ((i:Int)+(j:Int))=(i:Int)+(j:Int):=IntWalk.i64_in _ (by omega);have w1:IntKind.u64.wrap ((i:Int)+(j:Int))=(i:Int)+(j:Int):=by rw[IntKind.wrap_u64];omega
   have w2:((i:Int)+(j:Int)) / 2=(c:Int):=by omega
   obtain⟨ad,y,rfl,hy,d0⟩:=q00 HH.out.1 TD
   replace d0:=J hB d0
   have HY:=lhd hy;have HC:=lhd hc;clear hy hc;have DZ:∀k k' y y',k<=k'->L[k]? =Y y->L[k']? =Y y'->y<=y':=fun k k' y y' h1 h2 h3=>by
    rcases Nat.lt_or_eq_of_le h1 with h|h
    ·obtain⟨g1,g2⟩:=gk.1 h2;obtain⟨g3,g4⟩:=gk.1 h3;have:=bb.1 HH.b2 k k' g1 g3 h;omega
    ·rw[<-h,h2]at h3;injection h3 with h3
     exact Int.le_of_eq h3
   have HO:=lhd DZ;clear DZ;by_cases rN:y<x
   ·go_wp2;refine⟨⟨c+1,j,qh (by omega),rfl,by omega,hj,(lhd (fun k y' hk=>⟨fun h=>?_,(HF.out k y' hk).2⟩)),hB⟩,by simp[vI];omega⟩;have:=HO.out k c y' y (by omega) hk HY.out;omega
   ·go_wp2;refine⟨⟨i,c,rfl,rfl,by omega,by omega,(lhd (fun k y' hk=>⟨(HF.out k y' hk).1,fun h=>?_⟩)),hB⟩,by simp[vI];omega⟩;have:=HO.out c k y y' h HY.out hk;omega
  ·have KQ:i=j:=by omega
   subst KQ;by_cases eN:i<n
   ·have KR:(i:Int)<n:=by omega
    obtain⟨ad,y,rfl,hy,d0⟩:=q00 HH.out.1 eN
    replace d0:=J hB d0
    have HY:=lhd hy;clear hy;by_cases rN:y=x
    ·have hb:(y == x)=true:=by simpa using rN
     have Ij:=lhd rN;clear rN;go_wp2;go_ret2;have hm:L.contains x=true:=by simpa using gi (Ij.out ▸ HY.out)
     exact⟨i,by rw[HQ.out,hm];rfl,fun _=>by rw[HY.out,Ij.out],hB⟩
    ·have hb:(y == x)=false:=by simpa using rN
     have Ij:=lhd rN;clear rN;go_wp2
     all_goals
      go_ret2;have fk:x ∉ L:=fun hm=>by
       obtain⟨k,hk⟩:=bh hm;have h1:=HF.out k x hk;have h2:=HF.out i y HY.out;have h3:k ≥ i:=by apply gN;intro h;have:=h1.1 (by omega);omega
       have h4:=h2.2 (nlr _);rcases gG i k with h5|h5
       ·obtain⟨g1,g2⟩:=gk.1 HY.out;obtain⟨g3,g4⟩:=gk.1 hk;have:=bb.1 HH.b2 i k g1 g3 h5;omega
       ·obtain rfl:k=i:=by omega
        rw[HY.out]at hk;injection hk with hk
        exact Ij.out hk
      have hc:L.contains x=false:=by simpa using fk
      exact⟨i,by rw[HQ.out,hc];rfl,fun h=>absurd h fk,by assumption⟩
   ·have KR:¬((i:Int)<n):=by omega
    go_wp2;go_ret2;have fk:x ∉ L:=fun hm=>by
     obtain⟨k,hk⟩:=bh hm;have h1:=HF.out k x hk;have h3:k<i:=by have:=(gk.1 hk).1;rw[HH.a1]at this;omega
     have:=h1.1 h3;omega
    have hc:L.contains x=false:=by simpa using fk
    exact⟨i,by rw[HQ.out,hc];rfl,fun h=>absurd h fk,hB⟩
end Go.Proofs.YtmkpbhaoalbhjaaGreatDoor
namespace Go.Cx
open Go.Proofs.YtmkpbhaoalbhjaaGreatDoor
def qac (K:List Cl)(d:Int)(i k:Nat):Int:=se (zq K ((q04 K d).getD k 0)) ((q04 K (d-1)).getD i 0)
theorem qh6 {K:List Cl}(G:Good K)(d:Int):(q04 K d).Pairwise (· < ·):=by rw[G.ids,List.pairwise_map];exact G.asc.filter _
theorem qdv {K:List Cl}(G:Good K)(c r:Int):(se (zq K c) r).natAbs<=1:=by
 unfold zq;cases hf:K.find? (fun x=>x.id == c)with
 |none=>simp[se,co]
 |some x =>
  have hx:=gR hf;show (se x.s r).natAbs<=1;rw[qcp (G.sasc x hx)];by_cases h0:sgL x.s r=0
  ·rw[h0];decide
  ·obtain⟨s,hs,_,hg⟩:=qll h0;have:=G.sg x hx s hs;omega
end Go.Cx
namespace Go.Proofs.YtmkpbhaoalbhjaaGreatDoor
open Go.RowKit Go.Cx Go.Maps
attribute [local go_sem ↓] Go.wp_at_zero Go.wp_at_succ
theorem q6x {w:δ}{v:ε}{K:List Cl}(h:Kx w v K)(d:Int)(hd : -1000<=d/\d<=1000)(cY:nId K (d-1)<=200)(iG:nId K d<=200) :
  Calls Tryz.prog 37 #[v,d] w fun e w'=>∃u,e=.returned (I #[(nId K (d-1):Int),(nId K d:Int),u]) ∧
   Sl w' 2 u (wvs ((List.range (nId K (d-1)*nId K d)).map fun t=>qac K d (t / nId K d) (t%nId K d)))/\Below w w w':=by
 obtain⟨a,len,cap,rfl⟩:=h.shape;have G:=h.q1v;have HH:=jg h G;clear h;obtain⟨rows,sD⟩:=x4 (q04 K (d-1));obtain⟨nX,sE⟩:=x4 (q04 K d);obtain⟨n,hn⟩:=x4 rows.length;obtain⟨m,hm⟩:=x4 nX.length;have en:nId K (d-1)=n:=by rw[hn,sD];rfl
 have em:nId K d=m:=by rw[hm,sE];rfl
 rw[en]at cY ⊢;rw[em]at iG ⊢;have oH:=kp sD sE hn hm en em;clear sD sE hn hm en em;have KS:IntKind.i64.wrap (d-1)=d-1:=IntWalk.i64_in _ (by omega);go_enter Tryz.func37,Tryz.ntmps37;go_wp2_with fail;obtain⟨W,hW⟩:=x4 ((w.alloc (.cells #[O a len cap] 36)).alloc (.cells #[H φ 0,H φ 0,O Z 0 0] 75));rw[<-hW];have cU:(w.alloc (.cells #[O a len cap] 36)).heap.size=w+1:=by simp
 have b0:W w=O a len cap:=by rw[hW];exact qk (qd w #[O a len cap] 36 (0,0) 0) _
 have s:∀i,W ⟨w+1,i,Z⟩=(#[H φ 0,H φ 0,O Z 0 0] : Array ε)[i]?:=fun i=>by have h0:=qd (w.alloc (.cells #[O a len cap] 36)) #[H φ 0,H φ 0,O Z 0 0] 75 (0,0) i;rw[cU]at h0;rw[hW];exact h0
 have z:∀i,W.frozen? ⟨w+1,i,Z⟩=false:=fun i=>by have h0:=heap_alloc_new (w.alloc (.cells #[O a len cap] 36)) (.cells #[H φ 0,H φ 0,O Z 0 0] 75);rw[cU]at h0;rw[hW];exact jz h0 i
 have hw:Below w w W:=by rw[hW];exact((q9).alloc (nlr _) _).alloc (by rw[cU];omega) _
 have aG:W.heap.size=w+2:=by rw[hW];simp
 have HW:=kg b0 s z hw aG;have O2:=HH.out.1.keep hw;have pE:=lhd O2;clear hW cU s z hw aG O2;refine(qng pE.out).mono ?_;rintro e w0 ⟨T,rfl,hT,Ik,dS⟩;have KT:=lhd (pE.out.keep dS)
 replace b0:=J dS b0
 have HT:=yh hT Ik dS;clear hT Ik dS;go_upto_region 2 with fail
 go_cut [6,7]from 18 to 24 (fun x y wx=>∃(ra:Option Addr) (rc:Nat) (ca:Option Addr) (cc:Nat),x=O ra n rc/\y=O ca m cc/\Hid (Sl wx 1 (O ra n rc) (ints rows)/\Sl wx 1 (O ca m cc) (ints nX)/\Below w0 w0 wx))
 case first =>
  rename_i At K2 hJ aQ;have G0:∀(d':Int) (L:List Int) (k:Nat),L=q04 K d'->k=L.length->∀w',Below w0 w0 w'->Calls Tryz.prog 33 #[I #[O a len cap],d'] w' fun e w2=>∃x,e=.returned x/\(∃b1 b2,x=O b1 k b2/\Sl w2 1 x (ints L))/\Below w' w' w2:=fun d' L k hL hk w' hb=>by
   refine(qbb (KT.out.keep hb) d').mono ?_;rintro e w2 ⟨x,rfl,hx,aj⟩;obtain⟨b1,b2,rfl⟩:=qj hx;have e2:nId K d'=k:=by rw[hk,hL];rfl
   rw[e2]at hx ⊢;rw[<-hL]at hx;exact⟨_,rfl,⟨b1,b2,rfl,Sl.qc hx⟩,aj⟩
  have hld:∀w',Below w0 w0 w'->(Instr.loadAt 36 (σ w)).run Tryz.prog w'=.ok (I #[O a len cap]) w':=fun w' hb=>by have:=J hb b0;simp[go_sem,this]
  refine q0m rfl (fun i v w'=>match i with
   |0=>v=I #[O a len cap]
   |1=>v=d
   |2=>v=(d-1:Int)
   |3=>∃b1 b2,v=O b1 n b2/\Sl w' 1 v (ints rows)
   |4=>v=I #[O a len cap]
   |5=>v=d
   |6=>∃b1 b2,v=O b1 m b2/\Sl w' 1 v (ints nX)
   |7=>∃b1 b2,v=O b1 n b2/\Sl w' 1 v (ints rows)
   |8=>∃b1 b2,v=O b1 m b2/\Sl w' 1 v (ints nX)
   |_=>True) 97 rfl (by kernel_rfl) (by kernel_rfl) ?keep ?step ?done
  case keep =>
   intro i v w1 w2 h hb
   match i,h with
   |0,h=>exact h
   |1,h=>exact h
   |2,h=>exact h
   |3,⟨b1,b2,h1,h2⟩=>exact⟨b1,b2,h1,h2.mono fun q u hq=>J hb hq⟩
   |4,h=>exact h
   |5,h=>exact h
   |6,⟨b1,b2,h1,h2⟩=>exact⟨b1,b2,h1,h2.mono fun q u hq=>J hb hq⟩
   |7,⟨b1,b2,h1,h2⟩=>exact⟨b1,b2,h1,h2.mono fun q u hq=>J hb hq⟩
   |8,⟨b1,b2,h1,h2⟩=>exact⟨b1,b2,h1,h2.mono fun q u hq=>J hb hq⟩
   |i+9,h=>trivial
  case step =>
   intro i o ho b w' hw hd ab hsz
   match i,ho,hd with
   |0,rfl,_ =>exact⟨rfl,q8o _ _ rfl _ (zr qu ab 2) _ (hld w' hw) ⟨_,rfl,rfl,q9⟩⟩
   |1,rfl,_ =>exact⟨rfl,q1b _ (.inl rfl) ⟨_,rfl,ab 1 (qu (by kernel_rfl)),q9⟩⟩
   |2,rfl,hd =>exact⟨rfl,qnf _ _ _ _ _ rfl _ _ (zf hd 1) rfl _ rfl (q91 KS w') ⟨_,rfl,rfl,q9⟩⟩
   |3,rfl,hd =>have f0:b 18 V=I #[O a len cap]:=zf hd 0;have f2:b 20 V=(d-1:Int):=zf hd 2;exact⟨rfl,qdj _ _ _ rfl (fun _ _=>rfl) #[I #[O a len cap],(d-1:Int)] (by rw[<-f0,<-f2];simp[Act.eval]) ((G0 (d-1) rows n oH.out.1 oH.a2 w' hw).mono fun e w2 ⟨x,h1,h2,h3⟩=>⟨x,h1,x,rfl,h2,h3⟩)⟩
   |4,rfl,_ =>exact⟨rfl,q8o _ _ rfl _ (zr qu ab 2) _ (hld w' hw) ⟨_,rfl,rfl,q9⟩⟩
   |5,rfl,_ =>exact⟨rfl,q1b _ (.inl rfl) ⟨_,rfl,ab 1 (qu (by kernel_rfl)),q9⟩⟩
   |6,rfl,hd =>have f4:b 22 V=I #[O a len cap]:=zf hd 4;have f5:b 23 V=d:=zf hd 5;exact⟨rfl,qdj _ _ _ rfl (fun _ _=>rfl) #[I #[O a len cap],d] (by rw[<-f4,<-f5];simp[Act.eval]) ((G0 d nX m oH.a1 oH.a3 w' hw).mono fun e w2 ⟨x,h1,h2,h3⟩=>⟨x,h1,x,rfl,h2,h3⟩)⟩
   |7,rfl,hd =>exact⟨rfl,q1b _ (.inr rfl) ⟨_,rfl,hd 3 _ _ rfl rfl (by kernel_rfl),q9⟩⟩
   |8,rfl,hd =>exact⟨rfl,q1b _ (.inr rfl) ⟨_,rfl,hd 6 _ _ rfl rfl (by kernel_rfl),q9⟩⟩
   |i+9,ho,hd =>have:i+9<9:=(gh.1 ho).1;omega
  case done =>intro b w2 hsz aO hf ab hw;obtain⟨b1,b2,t1,t2⟩:∃b1 b2,b 6 V=O b1 n b2/\Sl w2 1 (b 6 V) (ints rows):=hf 7 _ _ rfl rfl;obtain⟨b3,b4,t3,t4⟩:∃b1 b2,b 7 V=O b1 m b2/\Sl w2 1 (b 7 V) (ints nX):=hf 8 _ _ rfl rfl;refine aQ _ _ (Met.intro (hJ _ _ ⟨b 6 V,b 7 V,b 18 V,b 19 V,b 20 V,b 21 V,b 22 V,b 23 V,b 24 V,⟨b1,b2,b3,b4,t1,t3,(lhd ⟨t1 ▸ t2,t3 ▸ t4,hw⟩)⟩,(q8z hsz aO ab).trans ?_⟩));kernel_rfl
 case rest =>
  obtain⟨ra,rc,ca,cc,rfl,rfl,HS⟩:=hcut;obtain⟨B,nB,vv,mm,t0,t1,t2,t3,t4,t5,t6⟩:=HT.out.1.keep HS.b2;have wK:=kg t0 t2 t4 t5 t6;obtain⟨Xt,TE,_⟩:=HS.out.1.open;obtain⟨Xu,TF,_⟩:=HS.a1.open;unfold maxLen at TE TF;have uH:(n:Int)<=200:=by omega
  have TG:(m:Int)<=200:=by omega
  have O3:Below w w wc:=HW.a3.trans (((btr HT.b2 HS.b2)).mono HW.a3.size);have Ea:Below W W wc:=(btr HT.b2 HS.b2);have aV:w.heap.size+1<W:=by have:=HW.b4;omega
  have s0:W (w+1:Nat)=H φ 0:=by have:=HW.a1 0;simpa using this
  have s1:W ⟨w+1,1,Z⟩=H φ 0:=by have:=HW.a1 1;simpa using this
  have s2:W ⟨w+1,2,Z⟩=O Z 0 0:=by have:=HW.a1 2;simpa using this
  have lg:=kp O3 Ea aV s0 s1 s2;clear t0 t1 t2 t3 t4 t5 t6 O3 Ea aV s0 s1 s2;by_cases hz:n=0
  ·have o4:((n:Int) == 0)=true:=by simpa using hz
   have O4:∀w',Calls Tryz.prog 67 #[H φ 0,m] w' fun e w2=>∃E:Nat,e=.returned (I #[H φ 0,m,O E 0 0])/\Below w' w' w2:=fun w'=>by refine(qqn 0 m w' (by omega) iG).mono ?_;rintro e w2 ⟨E,rfl,_,_,_,hb⟩;rw[Nat.zero_mul];exact⟨E,rfl,hb⟩
   have HZ:=jg O4 hz;clear O4 hz;go_wp2_with fail;refine(HZ.out.1 wc).mono ?_;rintro e w9 ⟨E,rfl,ei⟩;have lF:Below W W w9:=(btr lg.a1 ei);have r0:=J lF lg.a3;have r1:=J lF lg.a4;have r2:=J lF lg.b5;have f0:=xf lF lg.a2 (HW.a2 0);have f1:=xf lF lg.a2 (HW.a2 1);have f2:=xf lF lg.a2 (HW.a2 2);have H9:=lhd ((btr lg.out.1 ei));clear ei lF;go_wp2_with fail;obtain⟨e0,e1,e2⟩:=qds r0 r1 r2;refine bodyPost_ret (v:=I #[H φ 0,m,O E 0 0]) (by simp[results,Tryz.results37,go_sem,e0,e1,e2]) rfl ⟨O E 0 0,by rw[HZ.out.2];rfl,?_,q28 H9.out (by omega) _ _ _⟩;rw[HZ.out.2,Nat.zero_mul];exact⟨_,0,0,rfl,nlr _,by unfold maxLen;omega,rfl,(fun e=>by cases e),fun ad bR j u hj=>by cases hj⟩
  ·have o4:((n:Int) == 0)=false:=by simpa using hz
   have KU:=quc n (by omega);have KV:=qp7 m (by omega);go_wp2_with fail;obtain⟨W3,cH⟩:=x4 (wc.alloc (.cells (madeCells #[O Z 0 0] n) 23));rw[<-cH];obtain⟨P,hP⟩:=x4 wc.heap.size;rw[<-hP];have Ec:Below wc wc W3:=by rw[cH];exact(q9).alloc (nlr _) _
   have O5:P<W3:=by rw[cH,hP];simp
   have O6:∀i,i<n->(∃u,W3 ⟨P,i,Z⟩=Y u)/\W3.frozen? ⟨P,i,Z⟩=false:=fun i hi=>by rw[cH,hP];exact⟨⟨_,(qd wc _ _ _ i).trans (qi6 _ _ _ hi)⟩,jz (heap_alloc_new wc _) i⟩
   have H3:=yt Ec O6 hP O5;clear Ec O6 cH hP;go_loopw [45] (fun p wr=>∃(j:Nat) (R:Nat->Nat),p=j/\j<=n/\Hid (GR wr W3 P j m R (fun _ _=>0))/\Hid (∀i,i<n->(∃u,wr ⟨P,i,Z⟩=Y u)/\wr.frozen? ⟨P,i,Z⟩=false)/\Hid (W3.heap.size<=wr/\Below wc wc wr)) (fun p _=>n-(vI p).toNat)
   case atStart=>exact⟨0,fun _=>0,rfl,gm _,(lhd ⟨fun i hi=>by omega,fun i j hi=>by omega,fun i hi=>by omega,fun i k hi=>by omega⟩),(lhd H3.a1),(lhd ⟨nlr _,H3.out.1⟩)⟩
   case round =>
    obtain⟨j,R,rfl,hj,HG,HP,HB⟩:=hrel;by_cases ak:j<n
    ·obtain⟨⟨u,hu⟩,hf⟩:=HP.out j ak;have pk:(j:Int)<n:=by omega
     have O7:P<wr:=gz O5 HB.out.1;go_wp2;go_roundw
     case measure=>simp[vI];omega
     case rel =>
      refine⟨j+1,_,qh (by omega),by omega,(lhd (HG.out.grow HB.out.1 O7 hu _)),(lhd (fun i hi=>?_)),(lhd ⟨by simp;have:=HB.out.1;omega,?_⟩)⟩
      ·obtain⟨⟨x,hx⟩,TH⟩:=HP.out i hi;refine⟨?_,xf ((Below.refl _ (wr.setCell ⟨P,j,Z⟩ (O wr m m))).alloc (nlr _) _) (by simpa using O7) (by simpa [World.frozen?_setCell]using TH)⟩;by_cases iu:i=j
       ·exact⟨_,qk (by rw[iu];exact World.cell?_setCell_same' _ _ _ (by rw[hu];rfl)) _⟩
       ·exact⟨_,qk (x8 hx (by simp <;> omega)) _⟩
      ·exact(HB.out.2.setCell (by show wc<=P;rw[H3.a2];exact nlr _) _).alloc (by simpa using HB.out.2.size) _
    ·have ly:j=n:=by omega
     subst ly;have xJ:∀i i':Nat,i<j->i'<j->rows.getD i 0=rows.getD i' 0->i=i':=by
      have kG:rows.Pairwise (· < ·):=by rw[oH.out.1];exact qh6 HH.out.2 _
      have key:∀i i':Nat,i<i'->i'<rows.length->rows.getD i 0<rows.getD i' 0:=fun i i' h1 h2=>by have:=bb.1 kG i i' (by omega) h2 h1;simpa [List.getD_eq_getElem?_getD,h2,show i<rows.length by omega]using this
      intro i i' hi pY he;rw[oH.a2]at hi pY;rcases Nat.lt_trichotomy i i' with h|h|h
      ·have:=key i i' h pY;omega
      ·exact h
      ·have:=key i' i h hi;omega
     have TI:=lhd xJ;have yU:=lhd (HG.out.rng);have O8:P=wc:=H3.a2;have Xv:=lhd O8;clear xJ O8 KU KV;go_wp2_with fail;go_loopw [57] (fun p wr=>∃(k:Nat) (g:Nat->Nat->Int),p=k/\k<=m/\Hid (GR wr W3 P j m R g)/\Hid (∀i k',i<j->k'<m->g i k'=if k'<k then qac K d i k' else 0)/\Hid (Below wc wc wr)) (fun p _=>m-(vI p).toNat)
     case atStart=>exact⟨0,fun _ _=>0,rfl,gm _,(lhd HG.out),(lhd (fun i k' _ _=>by simp)),(lhd HB.out.2)⟩
     case round =>
      obtain⟨k,g,rfl,hk,CM,HE,aR⟩:=hrel;by_cases cd:k<m
      ·have cV:(k:Int)<m:=by omega
       obtain⟨Xw,Al,KW,hcid,d0⟩:=q00 HS.a1 cd;subst KW
       replace d0:=J aR.out d0
       have ej:Al∈q04 K d:=by rw[<-oH.a1];exact gi hcid
       obtain⟨x0,sF,uW⟩:∃x0∈mm,x0.id=Al:=by obtain⟨x,hx,e,_⟩:=HH.out.2.qlt.1 ej;rw[<-wK.a2]at hx;obtain⟨x0,lS,rfl⟩:=gj.1 hx;exact⟨x0,lS,e⟩
       have hA:Asc (mm.map Ce.cl):=by rw[wK.a2];exact HH.out.2.asc
       have fq:gOf mm Al=Y x0.v:=by rw[<-uW];exact qb1 hA sF
       have xK:I64 Al:=by rw[<-uW];exact(wK.b4 x0 sF).1.1
       have eh:(Instr.lookup 88 (.map (Y B)) Al false).run Tryz.prog wr=.ok (I #[x0.id,x0.dim,O x0.a x0.n x0.c]) wr:=by have:=(wK.a1.keep aR.out).look (e:=52) Tryz.underlying3 Tryz.underlying88 (zeroCell wr) (yx xK);rw[this,fq];rfl
       have tT:=J aR.out wK.out.1;have KX:=qin x0.id x0.dim x0.a x0.n x0.c;have lh:Sl wc 2 (O x0.a x0.n x0.c) (cat Sd.enc x0.s):=wK.a3 x0 sF;have Il:x0.s.length=x0.n:=by obtain⟨_,_,h3,_⟩:=lh.open;rw[qt Sd.qp]at h3;omega
       have Io:x0.cl∈K:=by rw[<-wK.a2];exact gj.2 ⟨x0,sF,rfl⟩
       have pe:zq K Al=x0.s:=by rw[<-uW];exact q0b HH.out.2.asc (x:=x0.cl) Io
       have ug:=HH.out.2.sg x0.cl Io;have uV:=HH.out.2.few x0.cl Io;have dF:x0.cl.s=x0.s:=rfl;rw[dF]at ug uV;obtain⟨xa,hxa⟩:=x4 x0.a;obtain⟨xn,dO⟩:=x4 x0.n;obtain⟨xc,fs⟩:=x4 x0.c;obtain⟨xs,O9⟩:=x4 x0.s;rw[<-hxa,<-dO,<-fs]at eh KX lh;rw[<-O9]at lh Il pe ug uV;rw[<-dO]at Il;have OA:xn<=64:=by omega
       have TJ:xn<=xc:=lh.open.1;have HX:=kg pe ug Il lh hcid;clear hcid ej sF uW hA fq xK lh Il Io pe ug uV dF hxa dO fs O9;obtain⟨wo,eE⟩:=x4 wr;subst eE;go_wp2_with fail;go_loopw [70] (fun p wr=>∃(q:Nat) (g':Nat->Nat->Int),p=q/\q<=xn/\Hid (GR wr W3 P j m R g')/\Hid (∀i k',i<j->k'<m->g' i k'=if k'<k then qac K d i k' else if k'=k then se (xs.take q) (rows.getD i 0)else 0)/\Hid (Below wc wc wr)) (fun p _=>xn-(vI p).toNat)
       case atStart=>exact⟨0,g,rfl,gm _,(lhd CM.out),(lhd (fun i k' hi jT=>by
        rw[HE.out i k' hi jT];by_cases h1:k'<k
        ·rw[if_pos h1,if_pos h1]
        ·rw[if_neg h1,if_neg h1];split <;> rfl)),(lhd aR.out)⟩
       case round =>
        obtain⟨q,g',rfl,hq,KY,Ed,dh⟩:=hrel;by_cases hqn:q<xn
        ·have Du:(q:Int)<xn:=by omega
         obtain⟨y,hy⟩:∃y,xs[q]? =Y y:=⟨_,gg (by rw[HX.a2];exact hqn)⟩
         obtain⟨_,_,_,h5,h6⟩:=HX.a3.open;obtain⟨Ee,KZ⟩:=sadq h5 (by omega)
         subst KZ;obtain⟨e0,e1⟩:=zw xs q y hy;have c0:wr (Ee.add (q*2))=y.c:=J dh.out (h6 Ee rfl _ _ e0);have c1:wr ⟨(Ee.add (q*2)).block,(Ee.add (q*2)).off+1,Z⟩=y.g:=by rw[qi _ _ _ (by omega)];exact J dh.out (h6 Ee rfl _ _ e1)
         have qB:∀r,se (xs.take (q+1)) r=se (xs.take q) r+if y.c=r then y.g else 0:=fun r=>by rw[gC,hy];exact qr3 _ _ _
         have OB:=HX.a1 y (gi hy);have HY:=jg qB OB;clear e0 e1 h5 h6 qB OB hy;obtain⟨wp,fB⟩:=x4 wr;subst fB;go_wp2_with fail;have aA:Below wp wp (wp.alloc (.cells #[y.c,y.g] 54)):=bal wp _;have xL:Below wc wc (wp.alloc (.cells #[y.c,y.g] 54)):=(btr dh.out aA);refine(qpi (O ra j rc) rows y.c _ (HS.out.1.keep xL) (by rw[<-oH.a2];omega) (by rw[oH.out.1];exact qh6 HH.out.2 _)).mono ?_;rintro e w7 ⟨i1,rfl,eu,cq⟩;have uX:Below wp wp w7:=(btr aA cq);have s7:w7 ⟨wp,1,Z⟩=y.g:=J cq (xz wp _ _ 1 rfl);have H7:=jg uX ((btr dh.out uX));clear aA xL cq uX;by_cases cG:y.c∈rows
         ·have DH:rows.contains y.c=true:=by simpa using cG
          rw[DH];have eu:=eu cG;have pF:i1<j:=by rw[oH.a2];exact(gk.1 eu).1
          have BY:=KY.out.keep H7.out.1;obtain⟨gv,BZ⟩:=x4 (g' i1 k);have p0:=BY.ptr i1 pF;obtain⟨g0,gf⟩:=BY.cel i1 k pF cd;rw[<-BZ]at g0;have qY:gv.natAbs<=64:=by rw[BZ,Ed.out i1 k pF cd,if_neg (Nat.lt_irrefl k),if_pos rfl];have:=qnw (xs.take q) (rows.getD i1 0) (fun y hy=>HX.a1 y (gX hy));rw[gD]at this;omega
          have Xx:IntKind.i64.wrap (gv+y.g)=gv+y.g:=IntWalk.i64_in _ (by rcases HY.out.2 with h|h <;> rw[h] <;> omega);have La:(i1:Int)<j:=by omega
          have Ef:(k:Int)<m:=by omega
          have H8:=yh eu BY BZ;obtain⟨R1,BU⟩:=x4 (R i1);rw[<-BU]at p0 g0 gf;have Eg:=lhd BU;clear eu BY BZ qY c0 c1 BU DH cG;have eG:Below w7 w7 w7.drew:=qb (Below.refl _ w7) 1;go_upto_region 21 with fail
          go_still_tail 11,(by kernel_rfl)
          change wpList _ _ _ _ _ w7.drew;obtain⟨w8,fJ⟩:=x4 w7.drew;rw[<-fJ]at eG ⊢
          replace p0:=J eG p0
          replace gf:=xf eG (World.block_lt_of_cell? w7 ⟨R1,k,Z⟩ g0) gf
          replace g0:=J eG g0
          replace s7:=J eG s7
          have H9:=lhd eG;clear eG fJ;go_wp2;go_roundw
          case measure=>simp[vI];omega
          case rel =>
           obtain⟨eu,BY,BZ⟩:=H8.out;refine⟨q+1,fun i k'=>if i=i1/\k'=k then gv+y.g else g' i k',qh (by omega),by omega,(show Hid _ from ?_),(lhd (fun i k' hi jT=>?_)),(show Hid _ from ?_)⟩
           ·rw[Eg.out];exact(BY.keep H9.out).put pF cd _
           ·have hn:=oH.a2;have Am:rows.getD i1 0=y.c:=by rw[gb,eu];rfl
            show (if i=i1/\k'=k then gv+y.g else g' i k')=_;by_cases he:i=i1/\k'=k
            ·obtain⟨rfl,rfl⟩:=he;rw[if_pos ⟨rfl,rfl⟩,if_neg (Nat.lt_irrefl _),if_pos rfl,HY.out.1,Am,if_pos rfl,BZ,Ed.out i k' hi jT,if_neg (Nat.lt_irrefl _),if_pos rfl,Am]
            ·rw[if_neg he,Ed.out i k' hi jT];by_cases h1:k'<k
             ·rw[if_pos h1,if_pos h1]
             ·by_cases h2:k'=k
              ·have h3:i≠i1:=fun e=>he ⟨e,h2⟩
               rw[if_neg h1,if_neg h1,if_pos h2,if_pos h2,HY.out.1];have ah:¬y.c=rows.getD i 0:=fun e=>h3 (TI.out i i1 hi pF (by rw[Am,e]))
               rw[if_neg ah,bA]
              ·rw[if_neg h1,if_neg h1,if_neg h2,if_neg h2]
           ·refine((btr H7.out.2 H9.out)).setCell (p:=⟨R1,k,Z⟩) ?_ _;show wc<=R1;rw[Eg.out];exact gd H3.out.1.size (yU.out i1 pF).1
         ·have pf:rows.contains y.c=false:=by simpa using cG
          rw[pf];have TK:=lhd cG;clear eu cG pf;go_wp2;go_roundw
          case measure=>simp[vI];omega
          case rel =>
           refine⟨q+1,g',qh (by omega),by omega,(lhd (KY.out.keep H7.out.1)),(lhd (fun i k' hi jT=>?_)),(lhd H7.out.2)⟩;rw[Ed.out i k' hi jT,HY.out.1];have ah:¬y.c=rows.getD i 0:=fun e=>TK.out (by rw[e,gb,gg (by rw[<-oH.a2];exact hi)];exact List.getElem_mem _)
           rw[if_neg ah,bA]
        ·have KA:q=xn:=by omega
         go_wp2;go_roundw
         case measure=>simp[vI];omega
         case rel =>
          refine⟨k+1,g',qh (by omega),by omega,KY,(lhd (fun i k' hi jT=>?_)),dh⟩;rw[Ed.out i k' hi jT,KA,gr (by rw[HX.a2];exact nlr _)];by_cases h1:k'<k
          ·rw[if_pos h1,if_pos (by omega)]
          ·by_cases h2:k'=k
           ·rw[if_neg h1,if_pos h2,if_pos (by omega),h2];unfold qac;rw[<-oH.out.1,<-oH.a1,show nX.getD k 0=Al by rw[gb,HX.b4];rfl,HX.out.1]
           ·rw[if_neg h1,if_neg h2,if_neg (by omega)]
      ·have Eh:k=m:=by omega
       have Ei:=CM.out.sli (by omega) (by omega);have yO:=lhd Ei;have aT:Below w w wr:=(btr lg.out.1 aR.out);have bV:Below W W wr:=(btr lg.a1 aR.out);have pd:=jg aT bV;have DD:=lhd Eh;clear Ei aT bV Eh;go_wp2_with fail;refine(qvo _ _ j m _ yO.out (by simp) (fun l' nc=>by obtain⟨i,_,rfl⟩:=gj.1 nc;simp) (by omega) (by omega) (by omega) (fun l' nc x hx=>?_)).mono ?_
       ·obtain⟨i,hi,rfl⟩:=gj.1 nc;obtain⟨k',jT,rfl⟩:=gj.1 hx;have h1:=HE.out i k' (gF.1 hi) (gF.1 jT);rw[h1,if_pos (by rw[DD.out];exact gF.1 jT)];have h2:=qdv HH.out.2 ((q04 K d).getD k' 0) ((q04 K (d-1)).getD i 0);unfold qac I64;omega
       rintro e w9 ⟨E,rfl,dr,dN,nW,ei⟩;have uY:EW w9 E (j*m) (fun t=>qac K d (t / m) (t%m)):=nW.congr fun t ht=>by
        have iG:0<m:=by
         rcases Nat.eq_zero_or_pos m with h|h
         ·rw[h,Nat.mul_zero]at ht;omega
         ·exact h
        have h1:t / m<j:=by rw[Nat.div_lt_iff_lt_mul iG];exact ht
        have h2:t%m<m:=Nat.mod_lt _ iG;have h3:=HE.out (t / m) (t%m) h1 h2;rw[if_pos (by rw[DD.out];exact h2)]at h3;rw[<-h3];simp[List.getD_eq_getElem?_getD,h1,h2]
       have lF:Below W W w9:=(btr pd.out.2 ei);have jQ:W<=E:=gd pd.out.2.size dr;have TL:=lhd uY;have r0:=J lF lg.a3;have r1:=J lF lg.a4;have r2:=J lF lg.b5;have f0:=xf lF lg.a2 (HW.a2 0);have f1:=xf lF lg.a2 (HW.a2 1);have f2:=xf lF lg.a2 (HW.a2 2);have Ej:=lhd ((btr pd.out.1 ei));obtain⟨N,hN⟩:=x4 (j*m);rw[<-hN];have fb:=lhd hN;have Ip:=jg dN jQ;clear nW uY ei hN lF dr dN jQ;go_wp2_with fail;obtain⟨e0,e1,e2⟩:=qds r0 r1 r2;refine bodyPost_ret (v:=I #[j,m,O E N N]) (by simp[results,Tryz.results37,go_sem,e0,e1,e2]) rfl ⟨_,rfl,?_,q28 Ej.out (by omega) _ _ _⟩;have hsz:=HW.b4;have fS:E≠w+1:=by have:=Ip.out.2;omega
       have Ao:EW (((w9.setCell (w+1:Nat) j).setCell ⟨w+1,1,Z⟩ m).setCell ⟨w+1,2,Z⟩ (O E N N)) E (j*m) (fun t=>qac K d (t / m) (t%m)):=fun t ht=>by obtain⟨g1,g2,g3,g4⟩:=TL.out t ht;exact⟨xe (xe (xe g1 fS) fS) fS,xe (xe (xe g2 fS) fS) fS,by simpa [World.frozen?_setCell]using g3,by simpa [World.frozen?_setCell]using g4⟩
       have sH:=Ao.sl (gd (Nat.mul_le_mul cY iG) (by decide));rw[<-fb.out]at sH ⊢;exact sH
end Go.Proofs.YtmkpbhaoalbhjaaGreatDoor
namespace Go.Cx
open Go.Proofs.YtmkpbhaoalbhjaaGreatDoor
theorem qio (R C:List Int)(f:Int->Int->Int):(R.map fun r=>C.map fun c=>f c r).flatten=(List.range (R.length*C.length)).map fun t=>f (C.getD (t%C.length) 0) (R.getD (t / C.length) 0):=by
 have hw:∀x∈(R.map fun r=>C.map fun c=>f c r),x.length=C.length:=fun x hx=>by obtain⟨r,_,rfl⟩:=gj.1 hx;simp
 refine List.ext_getElem? fun t=>?_
 by_cases ht:t<R.length*C.length
 ·have hm:0<C.length:=by
   rcases Nat.eq_zero_or_pos C.length with h|h
   ·rw[h,Nat.mul_zero]at ht;omega
   ·exact h
  have h1:t / C.length<R.length:=Nat.div_lt_of_lt_mul (by rw[Nat.mul_comm];exact ht);have h2:t%C.length<C.length:=Nat.mod_lt _ hm;have e:t=t / C.length*C.length+t%C.length:=by rw[Nat.mul_comm];exact(Nat.div_add_mod t _).symm
  rw[List.getElem?_map,List.getElem?_range ht];have hg:=flat_get hw (i:=t / C.length) (c:=t%C.length) (by simpa using h1) h2;rw[<-e]at hg;rw[hg]
  congr 1
  unfold zm j6;simp[List.getD_eq_getElem?_getD,h1,h2]
 ·rw[List.getElem?_eq_none (by rw[q6u hw,gp];omega),List.getElem?_eq_none (by simp;omega)]
theorem q6y (p:Int)(K:List Cl)(d:Int):((List.range (nId K (d-1)*nId K d)).map fun t=>qac K d (t / nId K d) (t%nId K d)).map (fun x=>x%p)=(bdP p K d).flatten:=by unfold bdP;rw[qio (q04 K (d-1)) (q04 K d) fun c r=>se (zq K c) r%p,List.map_map];rfl
end Go.Cx
namespace Go.Proofs.YtmkpbhaoalbhjaaGreatDoor
open Go.RowKit Go.Cx Go.Maps
attribute [local go_sem ↓] Go.wp_at_zero Go.wp_at_succ
theorem qpj {w:δ}{v:ε}{K:List Cl}(h:Kx w v K):Calls Tryz.prog 24 #[v] w fun e w'=>e=.returned (q5i K:Int)/\Below w w w':=by
 obtain⟨a,len,cap,rfl⟩:=h.shape;have G:=h.q1v;have HH:=jg (h.alloc (.cells #[O a len cap] 36)) G;clear h;go_enter Tryz.func24,Tryz.ntmps24;go_wp2_with fail;have fe:Below w w (w.alloc (.cells #[O a len cap] 36)):=(q9).alloc (nlr _) _;refine(qng HH.out.1).mono ?_;rintro e w1 ⟨T,rfl,⟨B,nB,vv,m,t1,t2,t3,t4,t5,t6,t7⟩,Ik,ae⟩;obtain⟨D,af,hD⟩:=t3;have uq:=int_keyed (P:=Tryz.prog) (k:=3) Tryz.underlying3;have HX:=yt hD t5 t7 ((btr fe ae));clear hD t2 t4 t5 t6 t7 ae fe Ik;go_wp2_with (first
  |(at_range;refine wpList_range_own _ rfl _ 88 rfl 3 52 uq Tryz.underlying88 hld B nB D rfl af ?_;intro wq jW kR dg)
  |fail)
 go_frame
 obtain⟨r,hr⟩:=x4 w1.heap.size;rw[<-hr]at jW ⊢;have Ap:Below w1 w1 wq:=⟨kR.os,kR.tape,kR.output,kR.size,fun b hb=>kR.block b hb (by simp)⟩
 have aT:Below w w wq:=(btr HX.b3 Ap);have rH:w<=r:=by rw[hr];exact HX.b3.size
 have lY:=lhd aT;clear af kR dg Ap aT hr t1;go_loopw [3] (fun q wr=>∃(nn:Int) (left:Lit->Bool) (cnt:Nat),q=.int .i64 nn/\wr.ranges Tryz.prog 3 hld B r nB D left cnt/\Hid (-1<=nn/\(∀x∈m,left (.int .i64 x.id)=false->x.dim<=nn)/\(nn=-1\/∃x∈m,x.dim=nn))/\Hid (Below w.heap.size w wr)) (fun _ wr=>wr.rangeLeft B r)
 case atStart =>refine⟨-1,_,_,rfl,jW,(lhd ⟨Int.le_refl _,fun x hx hl=>?_,.inl rfl⟩),lY⟩;have h1:=(HX.out.1 x.id).1;have h2:(gOf m x.id).isSome=true:=(qa6 m x.id).2 ⟨x,hx,rfl⟩;rw[hl,h2]at h1;cases h1
 case round =>
  clear jW;obtain⟨nn,left,cnt,rfl,lL,HF,HB⟩:=hrel;have yU:=lhd lL;go_wp2_with (first
   |(at_next;refine wpList_next_ranges _ rfl _ rfl 3 uq hld (H φ) (fun v:ε=>v) (fun key kl av=>by obtain⟨x,rfl,_⟩:=Maps.keyOf_int_inv Tryz.underlying3 av;exact⟨x,rfl⟩) (fun v y _=>⟨v,rfl⟩) B r nB D left cnt rfl lL ?_ ?_)
   |fail)
  ·intro lO iV;have Lb:=lhd iV;clear lO iV lL;go_wp2_with fail;go_ret;refine⟨?_,HB.out⟩;obtain⟨h1,h2,h3⟩:=HF.out;have e:q5i K=nn:=qrc h1 (fun x hx=>by rw[<-HX.a1]at hx;obtain⟨y,hy,rfl⟩:=gj.1 hx;exact h2 y hy (Lb.out _)) (h3.imp id fun ⟨x,hx,e⟩=>⟨x.cl,by rw[<-HX.a1];exact gj.2 ⟨x,hx,rfl⟩,e⟩)
   rw[e];rfl
  ·intro nx cv kl y1 y2 w2 ur av eh hv bY mz ak fp cU ru;obtain⟨x',oU,rfl,yV⟩:=Maps.keyOf_int_inv Tryz.underlying3 av;have wR:nx=x':=by injection oU
   subst wR;have lv:y1=.held cv:=by have:hld cv=Y (.held cv,[]):=rfl;rw[this]at hv;injection hv with hv;injection hv with hv _;exact hv.symm
   subst lv;have fq:=(show Hg D (gOf m)from HX.out.1).qh3 bY;obtain⟨x,ee,dW,Ig⟩:∃x∈m,x.id=nx/\cv=x.v:=by
    unfold gOf at fq;cases hf:m.find? (fun y=>y.id == nx)with
    |none=>rw[hf]at fq;cases fq
    |some x =>rw[hf]at fq;exact⟨x,gR hf,by simpa using List.find?_some hf,(osi fq).symm⟩
   subst Ig;have yX:(Instr.entry (σ r)).run Tryz.prog w2=.ok (ψ #[nx,I #[x.id,x.dim,O x.a x.n x.c]]) w2:=ru;have aI:Below w w w2:=HB.out.grown fp HB.out.size (fun k e=>by cases e;omega);have aA:Below w2 w2 (w2.alloc (.cells #[x.id,x.dim,O x.a x.n x.c] 52)):=(q9).alloc (nlr _) _;have mC:=kg mz ak aI ee dW;obtain⟨xd,Aq⟩:=x4 x.dim;obtain⟨mx,Bp⟩:∃z,max nn xd=z:=⟨_,rfl⟩
   rw[<-Aq]at yX;have HM:=jg Aq Bp;clear av eh hv bY mz ak fq oU yV ru lL fp cU aI aA ee dW Aq;go_wp2_with fail;go_roundw
   case measure=>rw[(mC.out.1.alloc _).left_eq,yU.out.left_eq];exact mC.a1
   case rel =>
    obtain⟨h1,h2,h3⟩:=HF.out;obtain⟨m1,m2⟩:=HM.out;obtain⟨_,_,q1,q2,q3⟩:=mC.out;have e1:nn<=mx:=by rw[<-m2];exact Int.le_max_left _ _
    have e2:xd<=mx:=by rw[<-m2];exact Int.le_max_right _ _
    refine⟨mx,_,_,rfl,mC.out.1.alloc _,(lhd ⟨by omega,fun y hy hl=>?_,?_⟩),(lhd (q1.alloc q1.size _))⟩
    ·by_cases jZ:y.id=nx
     ·have jY:y=x:=by
       have h5:gOf m y.id=Y y.v:=qb1 (by rw[HX.a1];exact HH.out.2.asc) hy;have h6:y.cl=x.cl:=q6c (K:=m.map Ce.cl) (by rw[HX.a1];exact HH.out.2.asc) (gj.2 ⟨y,hy,rfl⟩) (gj.2 ⟨x,q2,rfl⟩) (show y.id=x.id by omega);have h7:gOf m x.id=Y x.v:=qb1 (by rw[HX.a1];exact HH.out.2.asc) q2;have h8:y.id=x.id:=by omega
       rw[h8,h7]at h5;have h9:y.dim=x.dim:=congrArg Cl.dim h6;have mh:y.s=x.s:=congrArg Cl.s h6;have jI:x.v=y.v:=osi h5;unfold Ce.v at jI;cases x;cases y
       simp at jI mh ⊢
       simp_all
      rw[jY,<-m1];exact e2
     ·have:(Lit.int .i64 y.id).sameKey (.int .i64 nx)=false:=by simp[Lit.sameKey,jZ]
      rw[this]at hl;exact Int.le_trans (h2 y hy (by simpa using hl)) e1
    ·rcases Int.le_total nn xd with h|h
     ·right
      exact⟨x,q2,by rw[<-m1,<-m2,Int.max_eq_right h]⟩
     ·rw[Int.max_eq_left h]at m2;rw[<-m2];exact h3
