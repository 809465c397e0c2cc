/- Steps towards MorseChecks. Conditions: none. -/
import Derived.Test.YtlhicnfeajejhaaGreatDoorFQp
set_option maxRecDepth 1000000
set_option maxHeartbeats 16000000
namespace Go.Cx
theorem q2f {T:Int->Option Cl} {x:Cl} (h:xx T x=0):((x.dim=0/\x.s.length=0)\/(x.dim=1/\x.s.length=2)\/(1 < x.dim/\x.dim<=8/\2<=x.s.length/\x.s.length<=64))/\(∀ s∈x.s,s.g=1\/s.g = -1)/\(x.dim=1->(x.s.map Sd.g).sum=0):=by
 have hg:=(q1l h).2.1;unfold xx at h;split at h
 ·cases h
 rename_i h1;split at h
 ·cases h
 rename_i h2;split at h
 ·cases h
 split at h
 ·cases h
 split at h
 ·cases h
 rename_i h5;refine⟨by omega,hg,fun hd=>?_⟩;exact gR fun e=>h5 ⟨hd,e⟩
theorem qjj {T:Int->Option Cl} {x:Cl} {k:Nat} {s:Sd} (hs:x.s[k]? = some s) (h:xq T x k=false):(∃ y,T s.c=some y/\y.dim=x.dim - 1)/\∀ (m:Nat) (r:Sd),k=m+1->x.s[m]? = some r->(s.c == r.c)=false:=by
 unfold xq at h;rw[hs] at h;simp only [Bool.or_eq_false_iff,Bool.and_eq_false_iff,decide_eq_false_iff_not] at h;refine⟨?_,fun m r hk hr=>?_⟩
 ·cases hT:T s.c with
  | none=>rw[hT] at h;cases h.1
  | some y=>rw[hT] at h;exact⟨y,rfl,by simpa using h.1⟩
 ·subst hk;rw[Nat.add_sub_cancel,hr] at h;have:=h.2.resolve_left (by omega);simp at this ⊢;exact fun e=>this e.symm
end Go.Cx
namespace Go.Proofs.YtlhicnfeajejhaaGreatDoor
open Go.RowKit Go.Cx
attribute [local go_sem ↓] Go.wp_at_zero Go.wp_at_succ
theorem qm7 (v:Value) (l:List Ce) (x:Ce) (w:World) (h:Sl w 3 v (cat Ce.enc l)) (hl:l.length<=1000000) (eF:l.Pairwise fun x y=>x.id < y.id) (hs:Sl w 2 x.sl (cat Sd.enc x.s)) (hE:xx (fun c=>(l.map Ce.cl).find? fun y=>y.id == c) x.cl=0) :
  Calls Tryz.prog 156 #[v,x.v] w fun e w'=>e = .returned (.int .i64 0)/\Below w.heap.size w w':=by
 obtain⟨la,ln,lc,rfl⟩:=qg h;have fS:l.length=ln:=by
  obtain⟨_,_,h3,_⟩:=h.open;rw[qt Ce.qp] at h3;omega
 unfold Ce.sl at hs;obtain⟨h1,h2,h3,h4,h5⟩:=hs.open;rw[qt Sd.qp] at h3;have dx:x.s.length=x.n:=by omega
 unfold maxLen at h2;unfold Ce.v;obtain⟨q1,q2,q3⟩:=q2f hE;have dE:=q2u hE;obtain⟨d,dn⟩ : ∃ d,d=x.dim:=⟨_,rfl⟩
 obtain⟨xn,eL⟩ : ∃ xn,xn=x.n:=⟨_,rfl⟩
 have q1:(d=0/\xn=0)\/(d=1/\xn=2)\/(1 < d/\d<=8/\2<=xn/\xn<=64):=by
  rw[dn,eL,<-dx];exact q1
 rw[<-dn,<-eL];rw[<-eL] at hs h1;obtain⟨W,hW⟩ : ∃ W,W=w.alloc (.cells #[.int .i64 x.id,.int .i64 d,.slice x.a xn x.c] 75):=⟨_,rfl⟩
 have aK:Below w.heap.size w W:=by rw[hW];exact(Below.refl _ w).alloc (nlr _) _
 have k1:W.cell? ⟨w.heap.size,1,none⟩=some (.int .i64 d):=by rw[hW];exact qd w _ _ (0,0) 1
 have k2:W.cell? ⟨w.heap.size,2,none⟩=some (.slice x.a xn x.c):=by rw[hW];exact qd w _ _ (0,0) 2
 have jO:=lhd aK;have HX:=lhd (aiq (h.q8 aK) (aiq (hs.q8 aK) (aiq eF (aiq (dx.trans eL.symm) (aiq dE (aiq q2 (aiq q3 (aiq dn fS))))))));have bH:ln<=1000000:=by omega
 have Ac:0<=d/\d<=8:=by omega
 have Uw:xn<=64:=by omega
 have pC:IntKind.i64.wrap (d - 1)=d - 1:=(IntWalk.i64_left _).trans (IntWalk.wrap64_in _ (by omega));have Px:=lhd Ac;have zA:¬ d < 0:=by omega
 have zB:¬ 8 < d:=by omega
 clear h3 h4 h5 hs eF hE dE q2 q3 dn eL dx fS h aK Ac hl;go_enter Tryz.func156,Tryz.ntmps156;go_upto_region 4 with fail;rw[<-hW];clear hW
 go_cut [48] from 20 to 47 (fun p wx=>p = .bool false/\wx=W)
 case first =>
  rcases q1 with ⟨rfl,rfl⟩ | ⟨rfl,rfl⟩ | ⟨ep,fU,dh,fT⟩
  ·go_wp2_with fail
   go_meet
   case rel=>exact⟨rfl,rfl⟩
  ·go_wp2_with fail
   go_meet
   case rel=>exact⟨rfl,rfl⟩
  ·have bL:(d == 0)=false:=by simp;omega
   have bT:(d == 1)=false:=by simp;omega
   have kI:¬ (xn:Int) < 2:=by omega
   have mh:¬ (64:Int) < (xn:Int):=by omega
   go_wp2_with fail
   go_meet
   case rel=>exact⟨rfl,rfl⟩
 case rest =>
  obtain⟨rfl,rfl⟩:=hcut;have DT:=lhd q1;have Aa:=jO.out.size;clear q1 zA zB;go_wp2_with fail;go_loopw [6] (fun p wr=>∃ k:Nat,p = .int .i64 k/\k<=xn/\Hid (Below wc.heap.size wc wr)) (fun p _=>xn - (vI p).toNat)
  case atStart=>exact⟨0,rfl,gp _,(show Hid _ from Below.refl _ _)⟩
  case round =>
   obtain⟨k,rfl,hk,HB⟩:=hrel;by_cases hlt:k < xn
   ·obtain⟨s,hs⟩ : ∃ s,x.s[k]? = some s:=⟨_,g8 (by have:=HX.out.2.2.2.1;omega)⟩
    obtain⟨⟨y,hy,jJ⟩,lH⟩:=qjj (x:=x.cl) hs (HX.out.2.2.2.2.1 k (by show k < x.s.length;have:=HX.out.2.2.2.1;omega));obtain⟨yc,sE,nD⟩:=go.1 (gT hy);have lT:yc.id=s.c:=by
     have:=List.find?_some hy;rw[<-nD] at this;simpa [Ce.cl] using this
    obtain⟨i0,hi0⟩:=gY sE;have dN:i0 < ln:=by have:=(gc.1 hi0).1;have:=HX.out.2.2.2.2.2.2.2.2;omega
    have bK:=qnm _ l i0 yc wr (HX.out.1.q8 HB.out) (by have:=HX.out.2.2.2.2.2.2.2.2;omega) HX.out.2.2.1 hi0;rw[lT] at bK;obtain⟨_,_,_,h5,h6⟩:=(HX.out.2.1.q8 HB.out).open;obtain⟨ad,bI⟩ : ∃ ad,x.a=some ad:=by
     cases ha:x.a with
     | none=>have:=h5 ha;omega
     | some ad=>exact⟨ad,rfl⟩
    obtain⟨e0,e1⟩:=zw x.s k s hs;have g0:wr.cell? (ad.add (k*2))=some (.int .i64 s.c):=h6 ad bI _ _ e0;obtain⟨_,_,_,m5,m6⟩:=(HX.out.1.q8 HB.out).open;obtain⟨ld,hld⟩ : ∃ ad,la=some ad:=by
     cases la with
     | none=>have:=m5 rfl;omega
     | some ad=>exact⟨ad,rfl⟩
    subst hld;obtain⟨_,f1,_⟩:=zh l i0 yc hi0;have dK:yc.dim=d - 1:=by
     have:yc.cl.dim=x.cl.dim - 1:=by rw[nD];exact jJ
     rw[HX.out.2.2.2.2.2.2.2.1];exact this
    have j1:wr.cell? ⟨(ld.add (i0*3)).block,(ld.add (i0*3)).off+1,none⟩=some (.int .i64 yc.dim):=by rw[qi _ _ _ (by omega)];exact m6 ld rfl _ _ f1
    have pM:wr.cell? ⟨w.heap.size,1,none⟩=some (.int .i64 d):=Cx.q8 HB.out k1;have jS:wr.cell? ⟨w.heap.size,2,none⟩=some (.slice x.a xn x.c):=Cx.q8 HB.out k2;have K9:(i0:Int) < ln:=by omega
    have Ux:decide ((i0:Int) < 0)=false:=by simp
    have e9:(yc.dim != d - 1)=false:=by simp[dK]
    rw[bI] at jS;have HC:=lhd (aiq bK (aiq lH (aiq bI hs)));clear bK lH hs hy jJ sE nD lT hi0 h5 h6 e0 e1 m5 m6 f1 dK bI;go_wp2_with fail;refine HC.out.1.mono ?_;rintro e w2 ⟨rfl,ag⟩;have aF:=lhd (HB.out.trans (ag.mono HB.out.size))
    replace pM:=Cx.q8 ag pM
    replace jS:=Cx.q8 ag jS
    replace j1:=Cx.q8 ag j1
    replace g0:=Cx.q8 ag g0
    by_cases dr:0 < k
    ·obtain⟨mm,cC⟩ : ∃ mm,k=mm+1:=⟨k - 1,by omega⟩
     have kR:decide ((0:Int) < (k:Int))=true:=by simpa using dr
     have Np:(0:Int) < (k:Int):=by omega
     have eO:IntKind.i64.wrap ((k:Int) - 1)=(mm:Int):=by rw[IntWalk.i64_left,IntWalk.wrap64_in _ (by omega)];omega
     have ru:(0:Int)<=(mm:Int):=by omega
     have cO:(mm:Int) < (xn:Int):=by omega
     obtain⟨r,hr⟩ : ∃ r,x.s[mm]? = some r:=⟨_,g8 (by have:=HX.out.2.2.2.1;omega)⟩
     obtain⟨_,_,_,h5,h6⟩:=(HX.out.2.1.q8 aF.out).open;obtain⟨e0,e1⟩:=zw x.s mm r hr;have r0:w2.cell? (ad.add (mm*2))=some (.int .i64 r.c):=h6 ad HC.out.2.2.1 _ _ e0;have hq:=HC.out.2.1 mm r cC hr;clear ag h5 h6 e0 e1 hr cC;go_wp2_with fail
     go_quiet (fail)
     go_wp2;go_roundw
     case measure=>simp[vI];omega
     case rel=>exact⟨k+1,qh (by omega),by omega,(show Hid _ from qb aF.out _)⟩
    ·have kR:decide ((0:Int) < (k:Int))=false:=by simpa using dr
     clear ag;go_wp2_with fail
     go_quiet (fail)
     go_wp2;go_roundw
     case measure=>simp[vI];omega
     case rel=>exact⟨k+1,qh (by omega),by omega,(show Hid _ from qb aF.out _)⟩
   ·have HW:=lhd HB.out;obtain⟨wo,db⟩ : ∃ wo,wo=wr:=⟨_,rfl⟩
    subst db;go_wp2_with fail;go_loopw [8] (fun p wr=>∃ k:Nat,p = .int .i64 k/\k<=xn/\Hid (Below wc.heap.size wc wr)) (fun p _=>xn - (vI p).toNat)
    case atStart=>exact⟨0,rfl,gp _,(show Hid _ from HW.out)⟩
    case round =>
     obtain⟨k,rfl,hk,HB⟩:=hrel;have pM:wr.cell? ⟨w.heap.size,1,none⟩=some (.int .i64 d):=Cx.q8 HB.out k1;have jS:wr.cell? ⟨w.heap.size,2,none⟩=some (.slice x.a xn x.c):=Cx.q8 HB.out k2;by_cases hlt:k < xn
     ·obtain⟨s,hs⟩ : ∃ s,x.s[k]? = some s:=⟨_,g8 (by have:=HX.out.2.2.2.1;omega)⟩
      obtain⟨_,_,_,h5,h6⟩:=(HX.out.2.1.q8 HB.out).open;obtain⟨ad,bI⟩ : ∃ ad,x.a=some ad:=by
       cases ha:x.a with
       | none=>have:=h5 ha;omega
       | some ad=>exact⟨ad,rfl⟩
      obtain⟨e0,e1⟩:=zw x.s k s hs;have g1:wr.cell? ⟨(ad.add (k*2)).block,(ad.add (k*2)).off+1,none⟩=some (.int .i64 s.g):=by rw[qi _ _ _ (by omega)];exact h6 ad bI _ _ e1
      have cr:=HX.out.2.2.2.2.2.1 s (gd hs);rw[bI] at jS;clear h5 h6 e0 e1 hs bI;rcases cr with cr | cr
      ·rw[cr] at g1;clear cr;go_wp2_with fail;go_roundw
       case measure=>simp[vI];omega
       case rel=>exact⟨k+1,qh (by omega),by omega,HB⟩
      ·rw[cr] at g1;clear cr;go_wp2_with fail;go_roundw
       case measure=>simp[vI];omega
       case rel=>exact⟨k+1,qh (by omega),by omega,HB⟩
     ·have HF:=lhd (jO.out.trans (HB.out.mono jO.out.size));by_cases bZ:d=1
      ·have rZ:xn=2:=by have:=DT.out;omega
       have fQ:=HX.out.2.2.2.2.2.2.1 (by show x.dim=1;rw[<-HX.out.2.2.2.2.2.2.2.1];exact bZ);obtain⟨_,_,_,h5,h6⟩:=(HX.out.2.1.q8 HB.out).open;obtain⟨ad,bI⟩ : ∃ ad,x.a=some ad:=by
        cases ha:x.a with
        | none=>have:=h5 ha;omega
        | some ad=>exact⟨ad,rfl⟩
       obtain⟨s,hs⟩ : ∃ s,x.s[0]? = some s:=⟨_,g8 (by have:=HX.out.2.2.2.1;omega)⟩
       obtain⟨r,hr⟩ : ∃ r,x.s[1]? = some r:=⟨_,g8 (by have:=HX.out.2.2.2.1;omega)⟩
       obtain⟨e0,e1⟩:=zw x.s 0 s hs;obtain⟨e2,e3⟩:=zw x.s 1 r hr;have g1:wr.cell? ⟨ad.block,ad.off+1,none⟩=some (.int .i64 s.g):=by
        have:=h6 ad bI _ _ e1;exact this
       have g3:wr.cell? ⟨(ad.add 2).block,(ad.add 2).off+1,none⟩=some (.int .i64 r.g):=by rw[qi _ _ _ (by omega)];exact h6 ad bI _ _ e3
       have g4:wr.cell? ⟨ad.block,ad.off+2+1,none⟩=some (.int .i64 r.g):=by
        have:=qi ad 2 1 (by omega);rw[qi _ _ _ (by omega)] at g3;have h7:ad.add (2+1)=⟨ad.block,ad.off+2+1,none⟩:=rfl;rw[<-h7];exact g3
       have th:x.s=[s,r]:=by
        have hl:x.s.length=2:=by have:=HX.out.2.2.2.1;omega
        match h:x.s,hl with
        | [a,b],_ =>
         rw[h] at hs hr;simp at hs hr;rw[hs,hr]
       have ak:(s.g == r.g)=false:=by
        have h1:=HX.out.2.2.2.2.2.1 s (by show s∈x.s;rw[th];simp);have h2:=HX.out.2.2.2.2.2.1 r (by show r∈x.s;rw[th];simp);have h3:=(ql1 (x:=x.cl) th h1 h2)
        simp only [beq_eq_false_iff_ne];exact fun e=>h3.2 e fQ
       rw[bI] at jS;subst bZ rZ;clear h5 h6 e0 e1 e2 e3 hs hr bI fQ th;go_wp2_with fail
       go_quiet (fail)
       go_wp2;go_ret;exact⟨rfl,qb HF.out _⟩
      ·have bQ:(d == 1)=false:=by simpa using bZ
       clear bZ;go_wp2_with fail
       go_quiet (fail)
       go_wp2;go_ret;exact⟨rfl,qb HF.out _⟩
theorem q5i (l:List (Int×Int)):∀ u∈pv l,u.oneCell'=true:=fun u hu=>by
 obtain⟨p,_,hp⟩:=List.mem_flatMap.1 hu;simp at hp;rcases hp with rfl | rfl <;> rfl
theorem q6z (l m:List (Int×Int)):pv (l++m)=pv l++pv m:=by simp[pv]
theorem qbl (l:List (Int×Int)) (k:Nat) (hk:k<=l.length):(pv l).take (k*2)=pv (l.take k):=by
 conv=>lhs;rw[<-gr k l,q6z]
 rw[List.take_left' (by rw[kf,gh];omega)]
theorem qjk (l:List (Int×Int)) (k:Nat) (hk:k<=l.length):(pv l).drop (k*2)=pv (l.drop k):=by
 conv=>lhs;rw[<-gr k l,q6z]
 rw[List.drop_left' (by rw[kf,gh];omega)]
def qg3 (K:List Cl) (ps:List (Int×Int)):Bool:=!(q1h (ldP K) ps.length ps).isEmpty
theorem qjl {K:List Cl} (G:Cx.Good K) {m:List (Int×Int)} {st:(Int->Int)×(Int->Int)} (h:xk K zz zz m=some st):qg3 K m=true↔∃ c,yp K st.1 c:=by
 rw[<-qcy G h];unfold qg3;simp
theorem qm8 (v pvv:Value) (l:List Ce) (ps:List (Int×Int)) (w:World) (h:SlC w v l) (hl:l.length<=1000000) (aX:∀ x∈l,x.s.length<=1099511627776) (G:Cx.Good (l.map Ce.cl)) (hp:Sl w 2 pvv (pv ps)) (cD:ps.length<=1000000) :
  Calls Tryz.prog 108 #[.agg #[v],pvv] w fun e w'=>e = .returned (.bool (qg3 (l.map Ce.cl) ps))/\Below w.heap.size w w':=by
 obtain⟨a,len,cap,rfl⟩:=qg h.1;obtain⟨pa,pn,pc,rfl⟩:=qg hp;have jN:ps.length=pn:=by
  obtain⟨_,_,h3,_⟩:=hp.open;rw[kf] at h3;omega
 rw[jN] at cD;obtain⟨W,hW⟩ : ∃ W,W=w.alloc (.cells #[.slice a len cap] 26):=⟨_,rfl⟩
 have hB:Below w.heap.size w W:=by rw[hW];exact(Below.refl _ w).alloc (nlr _) _
 have b0:W.cell? ⟨w.heap.size,0,none⟩=some (.slice a len cap):=by rw[hW];exact qd w _ _ (0,0) 0
 have hz:W.heap.size=w.heap.size+1:=by rw[hW];simp
 have HH:=lhd (aiq (h.q8 hB) (aiq aX (aiq G (aiq (hp.q8 hB) (aiq jN (aiq hB (aiq b0 hz)))))));have Py:(pv ps).length=pn*2:=by rw[kf,jN]
 have Uy:=lhd Py;have DF:=lhd hW;clear h aX G hp jN hB b0 hz Py hW;go_enter Tryz.func108,Tryz.ntmps108;go_upto_region 1 with fail;rw[<-DF.out];have Pz:Sl (W.alloc (.cells #[] 50)) 2 (.slice pa pn pc) (pv ps):=HH.out.2.2.2.1.alloc _;go_wp2_with (at_builtin;refine qm (W:=W) rfl _ _ 48 rfl W.heap.size 50 jw Tryz.underlying48 rfl (by decide) (by decide) _ _ _ rfl (zj W 50 2) _ pn (pv ps) rfl Pz Uy.out (q5i _) ?apAa (((Below.refl _ W).alloc (nlr _) _)) ?apBa ?_)
 case apAa=>omega
 case apBa=>simp
 intro v1 w1 fj _ al;obtain⟨a1,c1,he1⟩:=qj fj;subst he1;have fj:=zm (m:=ps.length) fj (by have:=HH.out.2.2.2.2.1;omega);have bV:=lhd (aiq fj al);clear fj al Pz;go_wp2_with fail;go_loopg [5,6] (pn+1) (fun g so sb wx=>∃ (L:List (Int×Int)) (b:Bool),sb = .bool b/\(if b=true then g=L.length+1 else g=0)/\L.length<=pn/\Hid ((q1h (ldP (l.map Ce.cl)) L.length L=q1h (ldP (l.map Ce.cl)) ps.length ps)/\(b=false->q1h (ldP (l.map Ce.cl)) L.length L=L)/\wx.ownsRow W.heap.size 50 2 so L.length (pv L)/\Below W.heap.size W wx))
 case atStart =>
  refine⟨ps,true,rfl,by simp[HH.out.2.2.2.2.1],by have:=HH.out.2.2.2.2.1;omega,(show Hid _ from⟨rfl,fun h=>(by cases h),bV.out.1,bV.out.2⟩)⟩
 case round =>
  obtain⟨L,b,rfl,hg,rf,HI⟩:=hrel;obtain⟨la,lc,hle⟩:=qj HI.out.2.2.1;subst hle;obtain⟨m,hm⟩ : ∃ m,m=L.length:=⟨_,rfl⟩
  have HM:=lhd hm;rw[<-hm] at hg rf ⊢;clear hm;cases b with
  | false =>
   have HR:=lhd (show qg3 (l.map Ce.cl) ps=decide (0 < m) by
    unfold qg3;rw[<-HI.out.1,HI.out.2.1 rfl,HM.out];cases L <;> simp)
   go_wp2_with fail;go_ret;refine⟨?_,HH.out.2.2.2.2.2.1.trans (HI.out.2.2.2.mono HH.out.2.2.2.2.2.1.size)⟩;rw[HR.out];rfl
  | true =>
   simp only [if_true] at hg;subst hg;go_wp2_with fail;obtain⟨wo,db⟩ : ∃ wo,wo=wr:=⟨_,rfl⟩
   subst db;go_loopg [5,6,7] m (fun g sl sf sk wx=>∃ k:Nat,k+g=m/\sk = .int .i64 k/\sl = .slice la m lc/\sf = .bool false/\Hid ((∀ j,j < k->leads (ldP (l.map Ce.cl)) L j=true)/\Below wo.heap.size wo wx))
   case atStart=>exact⟨0,by omega,rfl,rfl,rfl,(show Hid _ from⟨fun j hj=>by omega,Below.refl _ _⟩)⟩
   case round =>
    obtain⟨k,AE,rfl,rfl,rfl,HK⟩:=hrel;cases gk with
    | zero =>
     have oz:¬ ((k:Int) < (m:Int)):=by omega
     go_wp2_with fail;go_roundg 0
     case measure=>omega
     case rel =>
      refine⟨L,false,rfl,by simp,by have:=HM.out;omega,(show Hid _ from⟨HI.out.1,fun _=>qg0 _ _ fun j hj=>HK.out.1 j (by have:=HM.out;omega),?_,HI.out.2.2.2.trans (HK.out.2.mono HI.out.2.2.2.size)⟩)⟩;have:=qa HI.out.2.2.1 HK.out.2;rw[<-HM.out] at this ⊢;exact this
    | succ g2 =>
     have oz:k < m:=by omega
     obtain⟨p,hp⟩ : ∃ p,L[k]? = some p:=⟨_,g8 (by rw[<-HM.out];exact oz)⟩
     obtain⟨lg,WQ,hle,_,_⟩:=HI.out.2.2.1.form (by rw[<-HM.out];omega);have KA:la=some ⟨lg,0,none⟩:=by injection hle
     subst KA;have bK:∀ (U:World),Below wo.heap.size wo U->∀ (j:Nat) (q:Int×Int),L[j]? = some q->U.cell? ⟨lg,j*2,none⟩=some (.int .i64 q.1)/\U.cell? ⟨lg,j*2+1,none⟩=some (.int .i64 q.2):=fun U hU j q hq=>by
      have hr:=qa HI.out.2.2.1 hU;have hj:=(gc.1 hq).1;have hg:=kv L j q hq;exact⟨(hr.cellAt _ (by omega)).trans hg.1,(hr.cellAt _ (by omega)).trans hg.2⟩
     have iR:=lhd bK;have HP:=lhd hp;clear bK hp hle;go_wp2_with fail;go_loopg [8,9] m (fun g sb sj wx=>∃ (j:Nat) (b:Bool),j+g=m/\sj = .int .i64 j/\sb = .bool b/\Hid ((b=true↔∃ (j':Nat) (q:Int×Int),j' < j/\j'≠k/\L[j']? = some q/\ldP (l.map Ce.cl) p q=true)/\Below wo.heap.size wo wx))
     case atStart=>exact⟨0,false,by omega,rfl,rfl,(show Hid _ from⟨⟨(fun h=>by cases h),fun ⟨j,_,hj,_⟩=>by omega⟩,HK.out.2⟩)⟩
     case round =>
      obtain⟨j,b,Pj,rfl,rfl,HJ⟩:=hrel;cases gk with
      | zero =>
       have mU:¬ ((j:Int) < (m:Int)):=by omega
       have hld:b=leads (ldP (l.map Ce.cl)) L k:=by
        rw[Bool.eq_iff_iff,qg1 _ _ _ _ HP.out,HJ.out.1];exact⟨fun ⟨j',q,_,h2,h3,h4⟩=>⟨j',q,h2,h3,h4⟩,fun ⟨j',q,h2,h3,h4⟩=>⟨j',q,by have:=(gc.1 h3).1;rw[<-HM.out] at this;omega,h2,h3,h4⟩⟩
       have P0:=lhd hld;clear hld;cases b with
       | true =>
        go_wp2_with fail;go_roundg g2
        case measure=>omega
        case rel =>
         exact⟨k+1,by omega,qh (by omega),rfl,rfl,(show Hid _ from⟨fun i hi=>by
          rcases gL i k with h | h
          ·exact HK.out.1 i h
          ·rw[show i=k by omega];exact P0.out.symm,HJ.out.2⟩)⟩
       | false =>
        have hr:=qa HI.out.2.2.1 HJ.out.2;rw[<-HM.out] at hr;obtain⟨ug,jI,_⟩:=(Sl.qc hr).open;have l5:Sl ((wr.alloc (.cells #[] 50)).drew) 2 (.slice (some ⟨lg,0,none⟩) m lc) (pv L):=((Sl.qc hr).alloc _).drew;have ep:Sl ((wr.alloc (.cells #[] 50)).drew) 2 (.slice (some ⟨lg,0,none⟩) k lc) (pv (L.take k)):=by
         have:=l5.take (k:=k) (by omega);rw[qbl L k (by rw[<-HM.out];omega)] at this;exact this
        have ux:(pv (L.take k)).length=k*2:=by rw[kf,gh,<-HM.out,bB (by omega)]
        have pt:(pv (L.drop (k+1))).length=(m - (k+1))*2:=by rw[kf,gC,<-HM.out]
        have dh:∀ U,Below wr.heap.size wr U->Sl U 2 (.slice (if lc=k+1 then some ⟨lg,0,none⟩ else some ⟨lg,(k+1)*2,none⟩) (m - (k+1)) (lc - (k+1))) (pv (L.drop (k+1))):=fun U hU=>by
         have:=(Sl.qc (qa hr hU)).qho (k+1) (by omega) jI (lc=k+1) Iff.rfl ((k+1)*2) rfl;rw[qjk L (k+1) (by rw[<-HM.out];omega)] at this;exact this
        have HS:=lhd (aiq ep (aiq ux (aiq pt dh)));have ca:Below wr.heap.size wr ((wr.alloc (.cells #[] 50)).drew):=qb ((Below.refl _ wr).alloc (nlr _) _) 1;have i7:=lhd ca;have Uz:Hid ((wr.alloc (.cells #[] 50)).drew.ownsRow wr.heap.size 50 2 (.slice (some ⟨wr.heap.size,0,none⟩) 0 0) 0 []):=World.ownsRow.drew (zj wr 50 2);have WR:(0:Int)<=(k:Int)+1:=by omega
        have WS:(k:Int)+1<=lc:=by omega
        have WT:IntKind.i64.wrap ((k:Int)+1)=(k:Int)+1:=IntWalk.i64_in _ (by omega);unfold maxLen at jI;have ey:(k:Int)<=lc:=by omega
        have dG:(k:Int)+1<=m:=by omega
        have Ez:(m:Int)<=lc:=by omega
        clear hr l5 ep ux pt dh ca;go_wp2_with fail
        go_region_held3 (fun _=>True) (trivial)
         (first
          |((refine ju ((wr.alloc (.cells #[] 50)).drew) rfl _ _ 48 rfl wr.heap.size 50 jw Tryz.underlying48 rfl (by decide) (by decide) (.slice (some ⟨wr.heap.size,0,none⟩) 0 0) 0 [] (by simp[Act.eval]) Uz.out (.slice (some ⟨lg,0,none⟩) k lc) k (pv (L.take k)) (by simp[Act.eval]) HS.out.1 HS.out.2.1 (q5i _) (by omega) (by show wr.heap.size<=(wr.alloc (.cells #[] 50)).heap.size;simp) ?_;intro r2 w2 cB ag;have R2:=lhd (aiq cB (i7.out.trans ag));clear cB ag))
          |(go_must (refine ju w2 rfl _ _ 48 rfl wr.heap.size 50 jw Tryz.underlying48 rfl (by decide) (by decide) r2 (0+k) _ (by simp[Act.eval]) R2.out.1 (.slice (if lc=k+1 then some ⟨lg,0,none⟩ else some ⟨lg,(k+1)*2,none⟩) (m - (k+1)) (lc - (k+1))) (m - (k+1)) (pv (L.drop (k+1))) (by simp[Act.eval]) (HS.out.2.2.2 _ R2.out.2) HS.out.2.2.1 (q5i _) (by omega) R2.out.2.size ?_;intro r3 w3 cY ct;have R3:=lhd (aiq cY (R2.out.2.trans ct));clear cY ct)))
        have hlen:(L.eraseIdx k).length=m - 1:=by rw[List.length_eraseIdx_of_lt (by rw[<-HM.out];exact oz),<-HM.out]
        have eo:w3.ownsRow W.heap.size 50 2 r3 (L.eraseIdx k).length (pv (L.eraseIdx k)):=by
         have h1:=R3.out.1;rw[List.nil_append,<-q6z,<-List.eraseIdx_eq_take_drop_succ] at h1;exact zm (qf h1 (gn HI.out.2.2.2.size HJ.out.2.size)) (by rw[hlen];omega)
        obtain⟨WU,WV,KB⟩:=qj eo;subst KB;have H4:=lhd (aiq eo hlen);rw[hlen];clear eo hlen;generalize (if lc=k+1 then (some (⟨lg,0,none⟩ : Addr)) else some ⟨lg,(k+1)*2,none⟩)=s53;go_wp2_with fail;go_roundg m
        case measure=>omega
        case rel =>
         have aB:=HJ.out.2.trans (R3.out.2.mono HJ.out.2.size);have aS:=qfz (ldP (l.map Ce.cl)) L k (by rw[<-HM.out];exact oz) P0.out.symm HK.out.1;refine⟨L.eraseIdx k,true,rfl,by rw[if_pos rfl,H4.out.2];omega,by rw[H4.out.2];omega,(show Hid _ from⟨aS.symm.trans HI.out.1,fun h=>(by cases h),?_,HI.out.2.2.2.trans (aB.mono HI.out.2.2.2.size)⟩)⟩;rw[<-H4.out.2];exact H4.out.1
      | succ g3 =>
       have mU:j < m:=by omega
       obtain⟨q,hq⟩ : ∃ q,L[j]? = some q:=⟨_,g8 (by rw[<-HM.out];exact mU)⟩
       by_cases kT:j=k
       ·have ca:((j:Int) != (k:Int))=false:=by simp[kT]
        have U0:=lhd kT;clear kT hq;go_wp2_with fail
        go_quiet (fail)
        go_wp2_with fail;go_roundg g3
        case measure=>omega
        case rel =>
         refine⟨j+1,b,by omega,qh (by omega),rfl,(show Hid _ from⟨HJ.out.1.trans ⟨fun ⟨j',r,h1,h2⟩=>⟨j',r,by omega,h2⟩,fun ⟨j',r,h1,h2,h3⟩=>⟨j',r,by have:=U0.out;omega,h2,h3⟩⟩,qb HJ.out.2 _⟩)⟩
       ·have ca:((j:Int) != (k:Int))=true:=by simp;omega
        have vF:Below W.heap.size W wr:=HI.out.2.2.2.trans (HJ.out.2.mono HI.out.2.2.2.size);have hS:∀ U,Below wr.heap.size wr U->U.cell? ⟨w.heap.size,0,none⟩=some (.slice a len cap)/\U.cell? ⟨lg,j*2,none⟩=some (.int .i64 q.1)/\U.cell? ⟨lg,k*2+1,none⟩=some (.int .i64 p.2):=fun U hU=>by
         have hb:=HJ.out.2.trans (hU.mono HJ.out.2.size);exact⟨Cx.q8 hU (Cx.q8 vF HH.out.2.2.2.2.2.2.1),(iR.out U hb j q hq).1,(iR.out U hb k p HP.out).2⟩
        have ae:∀ U,Below wr.heap.size wr U->Calls Tryz.prog 114 #[.agg #[.slice a len cap],.int .i64 q.1,.int .i64 p.2] U fun e w'=>e = .returned (.int .i64 (sgn (l.map Ce.cl) p.2 q.1))/\Below U.heap.size U w':=fun U hU=>qjb _ l q.1 p.2 U ((HH.out.1.q8 vF).q8 hU) hl HH.out.2.1 HH.out.2.2.1
        obtain⟨sv,oJ⟩ : ∃ sv,sv=sgn (l.map Ce.cl) p.2 q.1:=⟨_,rfl⟩
        obtain⟨bv,lV⟩ : ∃ bv,(sv != 0)=bv:=⟨_,rfl⟩
        have bM:ldP (l.map Ce.cl) p q=bv:=by unfold ldP;rw[<-oJ];exact lV
        rw[<-oJ] at ae;have ur:=lhd hS;have tJ:=lhd ae;have HQ:=lhd (aiq hq (aiq kT bM));have B8:Below wr.heap.size wr wr.drew:=qb (Below.refl _ wr) 1;clear hS ae oJ bM hq kT vF;go_upto_region 12 with fail
        go_region_held_law (fun U=>U.cell? ⟨w.heap.size,0,none⟩=some (.slice a len cap)/\U.cell? ⟨lg,j*2,none⟩=some (.int .i64 q.1)/\U.cell? ⟨lg,k*2+1,none⟩=some (.int .i64 p.2)) (first | exact ur.out _ B8 | exact ur.out _ B9 | fail)
         (first | (go_at_call 114;refine(tJ.out _ B8).mono ?_;rintro e w9 ⟨rfl,nU⟩;have B9:Below wr.heap.size wr w9:=B8.trans (nU.mono B8.size)))
        have P1:=lhd B9;clear nU B9 B8;cases bv with
        | false =>
         go_wp2_with fail;go_roundg g3
         case measure=>omega
         case rel =>
          refine⟨j+1,b,by omega,qh (by omega),rfl,(show Hid _ from⟨HJ.out.1.trans ⟨fun ⟨j',r,h1,h2⟩=>⟨j',r,by omega,h2⟩,fun ⟨j',r,h1,h2,h3,h4⟩=>⟨j',r,?_,h2,h3,h4⟩⟩,HJ.out.2.trans (P1.out.mono HJ.out.2.size)⟩)⟩;rcases gL j' j with h | h
          ·exact h
          ·have mi:j'=j:=by omega
           subst mi;rw[HQ.out.1] at h3;cases h3
           rw[HQ.out.2.2] at h4;cases h4
        | true =>
         go_wp2_with fail;go_roundg g3
         case measure=>omega
         case rel =>
          exact⟨j+1,true,by omega,qh (by omega),rfl,(show Hid _ from⟨⟨fun _=>⟨j,q,by omega,HQ.out.2.1,HQ.out.1,HQ.out.2.2⟩,fun _=>rfl⟩,HJ.out.2.trans (P1.out.mono HJ.out.2.size)⟩)⟩
end Go.Proofs.YtlhicnfeajejhaaGreatDoor
