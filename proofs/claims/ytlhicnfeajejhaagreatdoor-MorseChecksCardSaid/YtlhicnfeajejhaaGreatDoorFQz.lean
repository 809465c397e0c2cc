/- Steps towards MorseChecks. Conditions: none. -/
import Derived.Deep.CutBlock
import Derived.Test.YtlhicnfeajejhaaGreatDoorFQx
set_option maxRecDepth 1000000
set_option maxHeartbeats 16000000
namespace Go.Cx
open Go.Proofs.YtlhicnfeajejhaaGreatDoor
structure qku (K:List Cl):Prop where
 asc:Asc K
 pos:∀ x∈K,0 < x.id
 sasc:∀ x∈K,x.s.Pairwise fun s t=>s.c < t.c
 len:K.length<=4000
 few:∀ x∈K,x.s.length<=64
 all:∀ x∈K,∀ s∈x.s,∃ y∈K,y.id=s.c
 dim:∀ x∈K,0<=x.dim/\x.dim<=8
 err:∀ x∈K,xx (fun c=>K.find? fun y=>y.id == c) x=0\/xx (fun c=>K.find? fun y=>y.id == c) x=22
 bad:∃ x∈K,xx (fun c=>K.find? fun y=>y.id == c) x≠0
theorem qqs {T:Int->Option Cl} {x:Cl} (h0:0<=x.dim) (h8:x.dim<=8) (hg:∀ s∈x.s,s.g=1\/s.g = -1) (hs:x.dim=1->x.s.length=2->(x.s.map Sd.g).sum=0):xx T x=0\/xx T x=22:=by
 unfold xx;rw[if_neg (by omega)];split
 ·exact .inr rfl
 rename_i h2;split
 ·exact .inr rfl
 have h3:¬ x.s.any (fun s=>s.g != 1 && s.g != -1)=true:=fun h=>by
  obtain⟨s,hm,he⟩:=List.any_eq_true.1 h;rcases hg s hm with e | e <;> rw[e] at he <;> simp at he
 rw[if_neg h3,if_neg (fun h=>h.2 (hs h.1 (by omega)))];exact .inl rfl
theorem qmj {K:List Cl} (h:Asc K) (hs:∀ x∈K,x.s.Pairwise fun s t=>s.c < t.c):q26 K=K:=by
 rw[qap h]
 conv=>rhs;rw[<-List.map_id K]
 refine List.map_congr_left fun x hx=>?_
 show (⟨x.id,x.dim,zx x.s⟩ : Cl)=x;rw[qek ((hs x hx).imp fun h=>by omega)]
theorem qg8 {K:List Cl} (h:Asc K) (hs:∀ x∈K,x.s.Pairwise fun s t=>s.c < t.c):canon K=K/\cellsOf K=K:=by
 have h1:canon K=K:=q1j h fun x hx=>(hs x hx).imp fun h=>by omega
 refine⟨h1,?_⟩;unfold cellsOf;rw[h1,q08 h]
theorem qh0 {K:List Cl} (h:Asc K) {x y:Cl} (hx:x∈K) (hy:y∈K) (he:x.id=y.id):x=y:=by
 obtain⟨i,hi,rfl⟩:=List.getElem_of_mem hx;obtain⟨j,hj,rfl⟩:=List.getElem_of_mem hy;rcases Nat.lt_trichotomy i j with hl | hl | hl
 ·have:=gG.1 h i j hi hj hl;omega
 ·subst hl;rfl
 ·have:=gG.1 h j i hj hi hl;omega
theorem qku.chk {K:List Cl} (B:qku K):∃ i,Go.Cx.chk K=(i,22):=by
 obtain⟨h1,h2⟩:=qg8 B.asc B.sasc;have h3:cAt K=fun c=>K.find? fun y=>y.id == c:=by
  funext c
  unfold cAt;rw[h2]
 have key:∀ (L:List Cl) (last:Int),(∀ x∈L,last < x.id)->Asc L->(∀ x∈L,x∈K)->(∃ x∈L,xx (fun c=>K.find? fun y=>y.id == c) x≠0)->∃ i,q0a (fun c=>K.find? fun y=>y.id == c) last L=some (i,22):=fun L=>by
  induction L with
  | nil=>intro _ _ _ _ ⟨x,hx,_⟩;cases hx
  | cons x L ih =>
   intro last hl ha hm ⟨y,hy,ak⟩;unfold q0a;rw[if_neg (by have:=hl x (by simp);omega)];by_cases hx:xx (fun c=>K.find? fun y=>y.id == c) x≠0
   ·rw[if_pos hx];exact⟨x.id,by rw[(B.err x (hm x (by simp))).resolve_left hx]⟩
   ·rw[if_neg hx];have PM:=gx.1 ha;refine ih x.id (fun z hz=>PM.1 z hz) PM.2 (fun z hz=>hm z (by simp[hz])) ⟨y,?_,ak⟩;rcases gt.1 hy with rfl | hy
    ·exact absurd ak hx
    ·exact hy
 obtain⟨i,hi⟩:=key K 0 (fun x hx=>B.pos x hx) B.asc (fun _ h=>h) B.bad;refine⟨i,?_⟩;unfold Go.Cx.chk;rw[if_neg (by have:=B.len;omega),h1,h3,hi]
theorem Good.bump {K:List Cl} (G:Good K) (hc:Go.Cx.chk K=(0,0)) (hd:∀ x∈K,0<=x.dim/\x.dim<=5) {j:Nat} {z:Cl} (hz:K[j]? = some z):qku (K.set j ⟨z.id,z.dim+1,z.s⟩):=by
 obtain⟨gf,_⟩:=qcz G hc;obtain⟨hj,PN⟩:=gc.1 hz;have vK:z∈K:=PN ▸ List.getElem_mem hj;obtain⟨z',eQ⟩ : ∃ z':Cl,z'=⟨z.id,z.dim+1,z.s⟩:=⟨_,rfl⟩
 have e1:z'.id=z.id:=by rw[eQ]
 have e2:z'.dim=z.dim+1:=by rw[eQ]
 have e3:z'.s=z.s:=by rw[eQ]
 rw[<-eQ];have qF:(K.set j z').map Cl.id=K.map Cl.id:=by
  rw[List.map_set,e1,<-PN];exact List.ext_getElem? fun i=>by
   rw[List.getElem?_set];split
   ·rename_i dS;subst dS;rw[gm,if_pos hj,List.getElem?_map,g8 hj];rfl
   ·rfl
 have pW:Asc (K.set j z'):=by
  have h1:=(List.pairwise_map (f:=Cl.id) (R:=fun a b:Int=>a < b) (l:=K)).2 G.asc;rw[<-qF] at h1;exact(List.pairwise_map (f:=Cl.id) (R:=fun a b:Int=>a < b)).1 h1
 have aZ:∀ y∈K.set j z',y=z'\/y∈K:=fun y hy=>(List.mem_or_eq_of_mem_set hy).symm
 have Nx:z'∈K.set j z':=List.mem_set hj z';have Er:∀ y0∈K,∃ y∈K.set j z',y.id=y0.id:=fun y0 h0=>by
  have:y0.id∈(K.set j z').map Cl.id:=by rw[qF];exact gE h0
  obtain⟨y,hy,he⟩:=go.1 this;exact⟨y,hy,he⟩
 have KU:=(q2f (gf z vK))
 have hok:∀ x∈K.set j z',(0<=x.dim/\x.dim<=8)/\(∀ s∈x.s,s.g=1\/s.g = -1)/\(x.dim=1->x.s.length=2->(x.s.map Sd.g).sum=0):=fun x hx=>by
  rcases aZ x hx with rfl | hx
  ·have:=hd z vK;refine⟨by rw[e2];omega,by rw[e3];exact KU.2.1,fun h1 h2=>?_⟩;rw[e3] at h2;have:=KU.1;omega
  ·have:=hd x hx;have hp:=q2f (gf x hx);exact⟨by omega,hp.2.1,fun h1 _=>hp.2.2 h1⟩
 refine⟨pW,fun x hx=>?_,fun x hx=>?_,by rw[List.length_set];exact G.len,fun x hx=>?_,fun x hx s hs=>?_,fun x hx=>(hok x hx).1,fun x hx=>qqs (hok x hx).1.1 (hok x hx).1.2 (hok x hx).2.1 (hok x hx).2.2,⟨z',Nx,fun h0=>?_⟩⟩
 ·rcases aZ x hx with rfl | hx
  ·rw[e1];exact G.pos z vK
  ·exact G.pos x hx
 ·rcases aZ x hx with rfl | hx
  ·rw[e3];exact G.sasc z vK
  ·exact G.sasc x hx
 ·rcases aZ x hx with rfl | hx
  ·rw[e3];exact G.few z vK
  ·exact G.few x hx
 ·have:∃ y0∈K,y0.id=s.c:=by
   rcases aZ x hx with rfl | hx
   ·rw[e3] at hs;obtain⟨y,hy,h1,_⟩:=G.sub z vK s hs;exact⟨y,hy,h1⟩
   ·obtain⟨y,hy,h1,_⟩:=G.sub x hx s hs;exact⟨y,hy,h1⟩
  obtain⟨y0,h0,h1⟩:=this;obtain⟨y,hy,h2⟩:=Er y0 h0;exact⟨y,hy,h2.trans h1⟩
 ·have hp:=q2f h0;have hb:=q2u h0;cases hs:z.s with
  | nil =>
   have h1:=hp.1;have h2:=KU.1;rw[e3,e2,hs] at h1;rw[hs] at h2;simp at h1 h2;omega
  | cons s l =>
   have l5:z'.s[0]? = some s:=by rw[e3,hs];rfl
   obtain⟨⟨y,hy,jJ⟩,_⟩:=qjj l5 (hb 0 (by rw[e3,hs];simp));have Bj:=gT hy;have lT:y.id=s.c:=by simpa using List.find?_some hy
   obtain⟨y0,Aj,h1,h2⟩:=G.sub z vK s (by rw[hs];simp);rw[e2] at jJ;rcases aZ y Bj with rfl | UF
   ·have:=qh0 G.asc Aj vK (h1.trans (lT.symm.trans e1));rw[this] at h2;omega
   ·have:=qh0 G.asc Aj UF (h1.trans lT.symm);rw[this] at h2;omega
end Go.Cx
namespace Go.Cx
theorem qg9 {T:Int->Option Cl} {x:Cl} (h:xx T x=22):((x.dim=0/\0 < x.s.length)\/(x.dim=1/\x.s.length≠2)\/(1 < x.dim/\(x.s.length < 2\/64 < x.s.length)))\/∃ k,k < x.s.length/\xq T x k=true:=by
 unfold xx at h;split at h
 ·cases h
 split at h
 ·rename_i h1;exact .inl h1
 split at h
 ·rename_i h1;obtain⟨k,hk,hb⟩:=List.any_eq_true.1 h1;exact .inr ⟨k,gy.1 hk,hb⟩
 split at h
 ·cases h
 split at h
 ·cases h
 ·cases h
theorem qos {l:List Ce} {x:Ce} (eF:l.Pairwise fun x y=>x.id < y.id) (fs:x.s.Pairwise fun s t=>s.c < t.c) {k:Nat} {s:Sd} (hs:x.s[k]? = some s) {y:Ce} (hy:y∈l) (hi:y.id=s.c):xq (fun c=>(l.map Ce.cl).find? fun y=>y.id == c) x.cl k=(y.dim != x.dim - 1):=by
 have hf:((l.map Ce.cl).find? fun z=>z.id == s.c)=some y.cl:=by
  have:=qar (K:=l.map Ce.cl) (List.pairwise_map.2 eF) (gE (f:=Ce.cl) hy);rw[show y.cl.id=s.c from hi] at this;exact this
 unfold xq;rw[show x.cl.s[k]? = some s from hs];show ((match ((l.map Ce.cl).find? fun z=>z.id == s.c) with
  | none=>true
  | some y=>y.dim != x.cl.dim - 1) || _)=_
 rw[hf];have h2:(decide (0 < k) && (match x.cl.s[k - 1]? with
  | some r=>r.c == s.c
  | none=>false))=false:=by
  rcases Nat.eq_zero_or_pos k with h0 | h0
  ·simp[h0]
  ·obtain⟨h3,e3⟩:=gc.1 hs;have h4:k - 1 < x.s.length:=by omega
   have:=gG.1 fs (k - 1) k h4 h3 (by omega);rw[e3] at this;rw[show x.cl.s[k - 1]? = some x.s[k - 1] from g8 h4];simp;omega
 exact Eq.trans (congrArg (fun z:Bool=>(y.dim != x.dim - 1) || z) h2) (Bool.or_false _)
end Go.Cx
namespace Go.Proofs.YtlhicnfeajejhaaGreatDoor
open Go.RowKit Go.Cx
attribute [local go_sem ↓] Go.wp_at_zero Go.wp_at_succ
theorem qml (v:Value) (l:List Ce) (x:Ce) (w:World) (h:Sl w 3 v (cat Ce.enc l)) (hl:l.length<=1000000) (eF:l.Pairwise fun x y=>x.id < y.id) (hs:Sl w 2 x.sl (cat Sd.enc x.s)) (rQ:0<=x.dim) (Ac:x.dim<=8) (aH:∀ s∈x.s,∃ y∈l,y.id=s.c) (fs:x.s.Pairwise fun s t=>s.c < t.c) (o7:x.s.length<=64) (hE:xx (fun c=>(l.map Ce.cl).find? fun y=>y.id == c) x.cl=22) :
  Calls Tryz.prog 156 #[v,x.v] w fun e w'=>e = .returned (.int .i64 22)/\Below w.heap.size w w':=by
 obtain⟨la,ln,lc,rfl⟩:=qg h;have fS:l.length=ln:=by
  obtain⟨_,_,h3,_⟩:=h.open;rw[qt Ce.qp] at h3;omega
 unfold Ce.sl at hs;obtain⟨h1,h2,h3,h4,h5⟩:=hs.open;rw[qt Sd.qp] at h3;have dx:x.s.length=x.n:=by omega
 unfold maxLen at h2;unfold Ce.v;have dE:=qg9 hE;obtain⟨d,dn⟩ : ∃ d,d=x.dim:=⟨_,rfl⟩
 obtain⟨xn,eL⟩ : ∃ xn,xn=x.n:=⟨_,rfl⟩
 have dE:((d=0/\0 < xn)\/(d=1/\xn≠2)\/(1 < d/\(xn < 2\/64 < xn)))\/∃ k,k < xn/\xq (fun c=>(l.map Ce.cl).find? fun y=>y.id == c) x.cl k=true:=by
  rw[dn,eL,<-dx];exact dE
 rw[<-dn,<-eL];rw[<-eL] at hs h1;obtain⟨W,hW⟩ : ∃ W,W=w.alloc (.cells #[.int .i64 x.id,.int .i64 d,.slice x.a xn x.c] 75):=⟨_,rfl⟩
 have aK:Below w.heap.size w W:=by rw[hW];exact(Below.refl _ w).alloc (nlr _) _
 have k1:W.cell? ⟨w.heap.size,1,none⟩=some (.int .i64 d):=by rw[hW];exact qd w _ _ (0,0) 1
 have k2:W.cell? ⟨w.heap.size,2,none⟩=some (.slice x.a xn x.c):=by rw[hW];exact qd w _ _ (0,0) 2
 have jO:=lhd aK;have HX:=lhd (aiq (h.q8 aK) (aiq (hs.q8 aK) (aiq eF (aiq (dx.trans eL.symm) (aiq aH (aiq fs (aiq trivial (aiq dn fS))))))));have bH:ln<=1000000:=by omega
 have Es:0<=d/\d<=8:=by omega
 have Uw:xn<=64:=by omega
 have pC:IntKind.i64.wrap (d - 1)=d - 1:=(IntWalk.i64_left _).trans (IntWalk.wrap64_in _ (by omega));have Px:=lhd Es;have zA:¬ d < 0:=by omega
 have zB:¬ 8 < d:=by omega
 clear h3 h4 h5 hs eF hE dn eL dx fS h aK Es rQ Ac hl aH fs o7;go_enter Tryz.func156,Tryz.ntmps156;go_upto_region 4 with fail;rw[<-hW];clear hW;by_cases KW:(d=0/\0 < xn)\/(d=1/\xn≠2)\/(1 < d/\(xn < 2\/64 < xn))
 ·clear dE
  go_cut [48] from 20 to 47 (fun p wx=>p = .bool true/\wx=W)
  case first =>
   rcases KW with ⟨rfl,h1⟩ | ⟨rfl,h1⟩ | ⟨ep,h1⟩
   ·have cG:(0:Int) < (xn:Int):=by omega
    go_wp2_with fail
    go_meet
    case rel=>exact⟨rfl,rfl⟩
   ·have rZ:((xn:Int) != 2)=true:=by simp;omega
    go_wp2_with fail
    go_meet
    case rel=>exact⟨rfl,rfl⟩
   ·have bL:(d == 0)=false:=by simp;omega
    have bT:(d == 1)=false:=by simp;omega
    have kI:(xn:Int) < 2:=by omega
    go_wp2_with fail
    go_meet
    case rel=>exact⟨rfl,rfl⟩
  case rest =>
   obtain⟨rfl,rfl⟩:=hcut;go_wp2_with fail;go_ret;exact⟨rfl,jO.out⟩
 have dE:=dE.resolve_left KW;have q1:(d=0/\xn=0)\/(d=1/\xn=2)\/(1 < d/\d<=8/\2<=xn/\xn<=64):=by
  have:=Px.out;omega
 have KX:=lhd dE;clear KW dE
 go_cut [48] from 20 to 47 (fun p wx=>p = .bool false/\wx=W)
 case first =>
  rcases q1 with ⟨h0,rfl⟩ | ⟨rfl,rfl⟩ | ⟨ep,fU,dh,fT⟩
  ·have e1:(d == 0)=true:=by simp[h0]
   have e3:(d == 1)=false:=by simp[h0]
   have e4:¬ (1:Int) < d:=by omega
   clear h0;go_wp2_with fail
   go_meet
   case rel=>exact⟨rfl,rfl⟩
  ·go_wp2_with fail
   go_meet
   case rel=>exact⟨rfl,rfl⟩
  ·have bL:(d == 0)=false:=by simp;omega
   have bT:(d == 1)=false:=by simp;omega
   have kI:¬ (xn:Int) < 2:=by omega
   have mh:¬ (64:Int) < (xn:Int):=by omega
   go_wp2_with fail
   go_meet
   case rel=>exact⟨rfl,rfl⟩
 case rest =>
  obtain⟨rfl,rfl⟩:=hcut;have DT:=lhd q1;have Aa:=jO.out.size;clear q1 zA zB;go_wp2_with fail;go_loopw [6] (fun p wr=>∃ k:Nat,p = .int .i64 k/\k<=xn/\Hid (Below wc.heap.size wc wr)/\Hid (∀ j,j < k->xq (fun c=>(l.map Ce.cl).find? fun y=>y.id == c) x.cl j=false)) (fun p _=>xn - (vI p).toNat)
  case atStart=>exact⟨0,rfl,gp _,(show Hid _ from Below.refl _ _),(show Hid _ from fun j hj=>by omega)⟩
  case round =>
   obtain⟨k,rfl,hk,HB,zI⟩:=hrel;by_cases hlt:k < xn
   ·obtain⟨s,hs⟩ : ∃ s,x.s[k]? = some s:=⟨_,g8 (by have:=HX.out.2.2.2.1;omega)⟩
    obtain⟨yc,sE,lT⟩:=HX.out.2.2.2.2.1 s (gd hs);have uF:=qos (l:=l) HX.out.2.2.1 HX.out.2.2.2.2.2.1 hs sE lT;have lH:∀ (m:Nat) (r:Sd),k=m+1->x.s[m]? = some r->(s.c == r.c)=false:=fun m r hm hr=>by
     obtain⟨h1,e1⟩:=gc.1 hr;obtain⟨h2,e2⟩:=gc.1 hs;have:=gG.1 HX.out.2.2.2.2.2.1 m k h1 h2 (by omega);rw[e1,e2] at this;simp;omega
    obtain⟨i0,hi0⟩:=gY sE;have dN:i0 < ln:=by have:=(gc.1 hi0).1;have:=HX.out.2.2.2.2.2.2.2.2;omega
    have bK:=qnm _ l i0 yc wr (HX.out.1.q8 HB.out) (by have:=HX.out.2.2.2.2.2.2.2.2;omega) HX.out.2.2.1 hi0;rw[lT] at bK;obtain⟨_,_,_,h5,h6⟩:=(HX.out.2.1.q8 HB.out).open;obtain⟨ad,bI⟩ : ∃ ad,x.a=some ad:=by
     cases ha:x.a with
     | none=>have:=h5 ha;omega
     | some ad=>exact⟨ad,rfl⟩
    obtain⟨e0,e1⟩:=zw x.s k s hs;have g0:wr.cell? (ad.add (k*2))=some (.int .i64 s.c):=h6 ad bI _ _ e0;obtain⟨_,_,_,m5,m6⟩:=(HX.out.1.q8 HB.out).open;obtain⟨ld,hld⟩ : ∃ ad,la=some ad:=by
     cases la with
     | none=>have:=m5 rfl;omega
     | some ad=>exact⟨ad,rfl⟩
    subst hld;obtain⟨_,f1,_⟩:=zh l i0 yc hi0;have j1:wr.cell? ⟨(ld.add (i0*3)).block,(ld.add (i0*3)).off+1,none⟩=some (.int .i64 yc.dim):=by rw[qi _ _ _ (by omega)];exact m6 ld rfl _ _ f1
    have pM:wr.cell? ⟨w.heap.size,1,none⟩=some (.int .i64 d):=Cx.q8 HB.out k1;have jS:wr.cell? ⟨w.heap.size,2,none⟩=some (.slice x.a xn x.c):=Cx.q8 HB.out k2;have K9:(i0:Int) < ln:=by omega
    have Ux:decide ((i0:Int) < 0)=false:=by simp
    rw[bI] at jS;have HC:=lhd (aiq bK (aiq lH (aiq bI (aiq hs uF))));clear bK lH hs sE lT hi0 h5 h6 e0 e1 m5 m6 f1 bI uF;go_wp2_with fail;refine HC.out.1.mono ?_;rintro e w2 ⟨rfl,ag⟩;have aF:=lhd (HB.out.trans (ag.mono HB.out.size))
    replace pM:=Cx.q8 ag pM
    replace jS:=Cx.q8 ag jS
    replace j1:=Cx.q8 ag j1
    replace g0:=Cx.q8 ag g0
    by_cases tp:yc.dim=d - 1
    case neg =>
     have e9:(yc.dim != d - 1)=true:=by simpa using tp
     clear ag tp;go_wp2_with fail
     go_quiet (fail)
     go_wp2;go_ret;exact⟨rfl,qb (jO.out.trans (aF.out.mono jO.out.size)) _⟩
    have e9:(yc.dim != d - 1)=false:=by simp[tp]
    have tq:Hid (∀ j,j < k+1->xq (fun c=>(l.map Ce.cl).find? fun y=>y.id == c) x.cl j=false):=fun j hj=>by
     rcases gL j k with h | h
     ·exact zI.out j h
     ·rw[show j=k by omega,HC.out.2.2.2.2];have:x.dim=d:=HX.out.2.2.2.2.2.2.2.1.symm;simp[tp,this]
    clear tp;by_cases dr:0 < k
    ·obtain⟨mm,cC⟩ : ∃ mm,k=mm+1:=⟨k - 1,by omega⟩
     have kR:decide ((0:Int) < (k:Int))=true:=by simpa using dr
     have Np:(0:Int) < (k:Int):=by omega
     have eO:IntKind.i64.wrap ((k:Int) - 1)=(mm:Int):=by rw[IntWalk.i64_left,IntWalk.wrap64_in _ (by omega)];omega
     have ru:(0:Int)<=(mm:Int):=by omega
     have cO:(mm:Int) < (xn:Int):=by omega
     obtain⟨r,hr⟩ : ∃ r,x.s[mm]? = some r:=⟨_,g8 (by have:=HX.out.2.2.2.1;omega)⟩
     obtain⟨_,_,_,h5,h6⟩:=(HX.out.2.1.q8 aF.out).open;obtain⟨e0,e1⟩:=zw x.s mm r hr;have r0:w2.cell? (ad.add (mm*2))=some (.int .i64 r.c):=h6 ad HC.out.2.2.1 _ _ e0;have hq:=HC.out.2.1 mm r cC hr;clear ag h5 h6 e0 e1 hr cC;go_wp2_with fail
     go_quiet (fail)
     go_wp2;go_roundw
     case measure=>simp[vI];omega
     case rel=>exact⟨k+1,qh (by omega),by omega,(show Hid _ from qb aF.out _),tq⟩
    ·have kR:decide ((0:Int) < (k:Int))=false:=by simpa using dr
     clear ag;go_wp2_with fail
     go_quiet (fail)
     go_wp2;go_roundw
     case measure=>simp[vI];omega
     case rel=>exact⟨k+1,qh (by omega),by omega,(show Hid _ from qb aF.out _),tq⟩
   ·exfalso
    obtain⟨j,hj,hb⟩:=KX.out;rw[zI.out j (by omega)] at hb;cases hb
theorem q9w {K:List Cl} (h:Asc K) (hs:∀ x∈K,x.s.Pairwise fun s t=>s.c < t.c):qc5 K=K:=by
 unfold qc5;rw[qap h,qkz (h.map (fun x=>⟨x.id,x.dim,zx x.s⟩) fun _=>rfl) none (fun _ _ e=>by cases e)]
 conv=>rhs;rw[<-List.map_id K]
 refine List.map_congr_left fun x hx=>?_
 show (⟨x.id,x.dim,zx x.s⟩ : Cl)=x;rw[qek ((hs x hx).imp fun h=>by omega)]
theorem qmz (v:Value) (l:List Ce) (w:World) (h:SlC w v l) (hl:l.length<=4000) (aX:∀ x∈l,x.s.length<=1099511627776) (G:Cx.qku (l.map Ce.cl)) :
  Calls Tryz.prog 104 #[.agg #[v]] w fun e w'=>(∃ i:Int,e = .returned (.tuple #[.int .i64 i,.int .i64 22]))/\Below w.heap.size w w':=by
 obtain⟨a,n,cap,rfl⟩:=qg h.1;have hlen:l.length=n:=by
  obtain⟨_,_,h3,_⟩:=h.1.open;rw[qt Ce.qp] at h3;omega
 obtain⟨W,hW⟩ : ∃ W:World,W=w.alloc (.cells #[.slice a n cap] 26):=⟨_,rfl⟩
 have hB:Below w.heap.size w W:=by rw[hW];exact(Below.refl _ w).alloc (nlr _) _
 have b0:W.cell? ⟨w.heap.size,0,none⟩=some (.slice a n cap):=by rw[hW];exact qd w _ _ (0,0) 0
 have HH:=lhd (aiq (h.q8 hB) (aiq aX (aiq G (aiq trivial (aiq trivial (aiq hlen hB))))));have hn:n<=4000:=by omega
 have UD:¬ (4000:Int) < n:=by omega
 clear h aX G hlen hB hl;go_enter Tryz.func104,Tryz.ntmps104;go_upto_region 3 with fail;rw[<-hW];clear hW;go_wp2_with fail;refine(q7s n _ l W HH.out.2.2.2.2.2.1 HH.out.1 (by have:=HH.out.2.2.2.2.2.1;omega) HH.out.2.1).mono ?_;rintro e w1 ⟨r,M,rfl,hM,hR,ai⟩;rw[qmj HH.out.2.2.1.asc HH.out.2.2.1.sasc] at hM;have px:M.length=n:=by have:=congrArg List.length hM;rw[gm,gm,HH.out.2.2.2.2.2.1] at this;exact this
 obtain⟨ma,mc,fM⟩:=qj hR.1;subst fM;rw[px] at hR ⊢;have al:Below w.heap.size w w1:=HH.out.2.2.2.2.2.2.trans (ai.mono HH.out.2.2.2.2.2.2.size);have eI:=HH.out.1.q8 ai
 replace b0:=Cx.q8 ai b0
 have Ei:SlC w1 (.slice ma n mc) M:=⟨Sl.qc hR.1,fun x hx=>Sl.qc (hR.2 x hx)⟩
 have H1:=lhd (aiq hM (aiq px (aiq Ei (aiq al eI))));clear hM px hR al eI Ei ai;go_wp2_with fail;refine(qdz _ l w1 H1.out.2.2.2.2 (by have:=HH.out.2.2.2.2.2.1;omega) HH.out.2.1).mono ?_;rintro e w2 ⟨r2,O,rfl,hO,qU,ag⟩;rw[q9w HH.out.2.2.1.asc HH.out.2.2.1.sasc] at hO;have oE:O.length=n:=by have:=congrArg List.length hO;rw[gm,gm,HH.out.2.2.2.2.2.1] at this;exact this
 obtain⟨oa,oc,fM⟩:=qj qU.1;subst fM;rw[oE] at qU ⊢;have Ej:O.Pairwise fun x y=>x.id < y.id:=by
  have h3:=HH.out.2.2.1.asc;rw[<-hO] at h3;exact(List.pairwise_map (f:=Ce.cl) (R:=fun x y:Cl=>x.id < y.id)).1 h3
 have Ek:M.Pairwise fun x y=>x.id < y.id:=by
  have h3:=HH.out.2.2.1.asc;rw[<-H1.out.1] at h3;exact(List.pairwise_map (f:=Ce.cl) (R:=fun x y:Cl=>x.id < y.id)).1 h3
 have tl:tK O=fun c=>(l.map Ce.cl).find? fun y=>y.id == c:=by unfold tK;rw[hO]
 have El:tK M=fun c=>(l.map Ce.cl).find? fun y=>y.id == c:=by unfold tK;rw[H1.out.1]
 have cV:SlC w2 (.slice ma n mc) M:=H1.out.2.2.1.q8 ag;have Em:SlC w2 (.slice oa n oc) O:=⟨Sl.qc qU.1,fun x hx=>Sl.qc (qU.2 x hx)⟩
 have dN:∀ x∈M,x.cl∈l.map Ce.cl:=fun x hx=>by rw[<-H1.out.1];exact go.2 ⟨x,hx,rfl⟩
 have aw:Below w.heap.size w w2:=H1.out.2.2.2.1.trans (ag.mono H1.out.2.2.2.1.size);obtain⟨_,ug,_⟩:=cV.1.open;unfold maxLen at ug;have H2:=lhd (aiq oE (aiq Ej (aiq Ek (aiq tl (aiq El (aiq cV (aiq Em (aiq dN (aiq aw hO)))))))));clear hO oE Ej Ek tl El cV Em dN aw qU ag b0;have bK:∀ U,Below w2.heap.size w2 U->∀ (i:Nat) (x:Ce),M[i]? = some x->∃ ad,ma=some ad/\U.cell? (ad.add (i*3))=some (.int .i64 x.id)/\U.cell? ⟨(ad.add (i*3)).block,(ad.add (i*3)).off+1,none⟩=some (.int .i64 x.dim)/\U.cell? ⟨(ad.add (i*3)).block,(ad.add (i*3)).off+2,none⟩=some (.slice x.a x.n x.c):=fun U hU i x hx=>by
  obtain⟨_,_,_,h5,h6⟩:=(H2.out.2.2.2.2.2.1.q8 hU).1.open;obtain⟨ad,aM⟩ : ∃ ad,ma=some ad:=by
   cases ma with
   | none=>have h1:=h5 rfl;have h2:=(gc.1 hx).1;have:=H1.out.2.1;omega
   | some ad=>exact⟨ad,rfl⟩
  obtain⟨e0,e1,e2⟩:=zh M i x hx;refine⟨ad,aM,h6 ad aM _ _ e0,?_,?_⟩
  ·rw[qi _ _ _ (by omega)];exact h6 ad aM _ _ e1
  ·rw[qi _ _ _ (by omega)];exact h6 ad aM _ _ e2
 have iR:=lhd bK;clear bK;go_wp2_with fail;go_loopw [6] (fun p wr=>∃ k:Nat,p = .int .i64 k/\k<=n/\Hid (Below w2.heap.size w2 wr)/\Hid (∀ (j:Nat) (x:Ce),j < k->M[j]? = some x->xx (fun c=>(l.map Ce.cl).find? fun y=>y.id == c) x.cl=0)) (fun p _=>n - (vI p).toNat)
 case atStart=>exact⟨0,rfl,gp _,(show Hid _ from Below.refl _ _),(show Hid _ from fun j x hj=>by omega)⟩
 case round =>
  obtain⟨k,rfl,hk,HB,zI⟩:=hrel;by_cases hlt:k < n
  ·obtain⟨x,hx⟩ : ∃ x,M[k]? = some x:=⟨_,g8 (by rw[H1.out.2.1];exact hlt)⟩
   obtain⟨ad,aM,d0,d1,d2⟩:=iR.out wr HB.out k x hx;have dQ:=gd hx;have lC:=HH.out.2.2.1.pos _ (H2.out.2.2.2.2.2.2.2.1 x dQ);have KN:decide (x.id < 1)=false:=by
    have:0 < x.id:=lC;simp;omega
   have om:(k:Int) < n:=by omega
   have mN:=H2.out.2.2.2.2.2.2.2.1 x dQ;have hf:=HH.out.2.2.1.err _ mN;obtain⟨E,hE⟩ : ∃ E,E=xx (fun c=>(l.map Ce.cl).find? fun y=>y.id == c) x.cl:=⟨_,rfl⟩
   rw[<-hE] at hf;have ae:∀ U,Below w2.heap.size w2 U->Calls Tryz.prog 156 #[.slice oa n oc,x.v] U fun e w'=>e = .returned (.int .i64 E)/\Below U.heap.size U w':=fun U hU=>by
    have tl:=H2.out.2.2.2.1;unfold tK at tl;rcases hf with hf | hf
    ·rw[hf];exact qm7 _ O x U (H2.out.2.2.2.2.2.2.1.q8 hU).1 (by have:=H2.out.1;omega) H2.out.2.1 ((H2.out.2.2.2.2.2.1.q8 hU).2 x dQ) (by rw[tl,<-hE];exact hf)
    ·rw[hf];have hd:=HH.out.2.2.1.dim _ mN;refine qml _ O x U (H2.out.2.2.2.2.2.2.1.q8 hU).1 (by have:=H2.out.1;omega) H2.out.2.1 ((H2.out.2.2.2.2.2.1.q8 hU).2 x dQ) hd.1 hd.2 (fun s hs=>?_) (HH.out.2.2.1.sasc _ mN) (HH.out.2.2.1.few _ mN) (by rw[tl,<-hE];exact hf);obtain⟨y,hy,lT⟩:=HH.out.2.2.1.all _ mN s hs;have hy:y∈O.map Ce.cl:=by
      have h3:=H2.out.2.2.2.2.2.2.2.2.2;rw[h3];exact hy
     obtain⟨z,hz,rfl⟩:=go.1 hy;exact⟨z,hz,lT⟩
   unfold Ce.v at ae;have HC:=lhd (aiq hx ae);have HE:=lhd (aiq hE hf);subst aM;clear hx dQ lC hf ae hE mN;by_cases dr:0 < k;obtain⟨mm,cC⟩ : ∃ mm,k=mm+1:=⟨k - 1,by omega⟩
   have kR:decide ((0:Int) < (k:Int))=true:=by simpa using dr
   have eO:IntKind.i64.wrap ((k:Int) - 1)=(mm:Int):=by rw[IntWalk.i64_left,IntWalk.wrap64_in _ (by omega)];omega
   have ru:(0:Int)<=(mm:Int):=by omega
   have cO:(mm:Int) < (n:Int):=by omega
   obtain⟨y,hy⟩ : ∃ y,M[mm]? = some y:=⟨_,g8 (by rw[H1.out.2.1];omega)⟩
   obtain⟨KQ,kE,r0,_⟩:=iR.out wr HB.out mm y hy;have qV:KQ=ad:=by injection kE with e;exact e.symm
   subst qV;have hq:(x.id == y.id)=false:=by
    obtain⟨h1,e1⟩:=gc.1 hy;obtain⟨h2,e2⟩:=gc.1 HC.out.1;have:=gG.1 H2.out.2.2.1 mm k h1 h2 (by omega);rw[e1,e2] at this;simp;omega
   clear hy cC kE;go_wp2_with fail
   go_quiet (fail)
   rotate_left;have kR:decide ((0:Int) < (k:Int))=false:=by simpa using dr
   go_wp2_with fail
   go_quiet (fail)
   all_goals
    obtain⟨V,hV⟩ : ∃ V,V=wr.drewN nq:=⟨_,rfl⟩
    have aD:Below w2.heap.size w2 V:=by rw[hV];exact qb HB.out _
    rw[<-hV];obtain⟨UE,kF,v0,v1,v2⟩:=iR.out V aD k x HC.out.1;obtain rfl:=osi kF;have HV:=lhd aD;clear hV aD kF d0 d1 d2 kR;go_wp2_with fail;refine(HC.out.2 V HV.out).mono ?_;rintro e w4 ⟨rfl,cP⟩;have H4:=lhd (HV.out.trans (cP.mono HV.out.size));obtain⟨Xb,Et,v3,_,_⟩:=iR.out w4 H4.out k x HC.out.1;obtain rfl:=osi Et;clear cP v0 v1 v2;by_cases oq:E=0
    case neg =>
     have hb:(E != 0)=true:=by simpa using oq
     have HN:=lhd oq;clear oq;go_wp2_with fail;go_ret2;exact⟨⟨x.id,by rw[HE.out.2.resolve_left HN.out];rfl⟩,H2.out.2.2.2.2.2.2.2.2.1.trans (H4.out.mono H2.out.2.2.2.2.2.2.2.2.1.size)⟩
    have tq:Hid (∀ (j:Nat) (x:Ce),j < k+1->M[j]? = some x->xx (fun c=>(l.map Ce.cl).find? fun y=>y.id == c) x.cl=0):=fun j y hj hy=>by
     rcases gL j k with h | h
     ·exact zI.out j y h hy
     ·rw[show j=k by omega,HC.out.1] at hy;obtain rfl:=osi hy;rw[<-HE.out.1];exact oq
    have hb:(E != 0)=false:=by simp[oq]
    clear oq v3;go_wp2_with fail;go_roundw
    case measure=>simp[vI];omega
    case rel=>exact⟨k+1,qh (by omega),by omega,(show Hid _ from H4.out),tq⟩
  ·exfalso
   obtain⟨y,hy,ak⟩:=HH.out.2.2.1.bad;rw[<-H1.out.1] at hy;obtain⟨z,hz,rfl⟩:=go.1 hy;obtain⟨i,hi⟩:=gY hz;have dN:i < k:=by
    have h1:=(gc.1 hi).1;rw[H1.out.2.1] at h1;omega
   exact ak (zI.out i z dN hi)
theorem qng (v pvv:Value) (l:List Ce) (w:World) (h:SlC w v l) (hl:l.length<=4000) (aX:∀ x∈l,x.s.length<=1099511627776) (G:Cx.qku (l.map Ce.cl)) (hp:∃ a n c,pvv = .slice a n c) :
  Calls Tryz.prog 50 #[.agg #[v],pvv] w fun e w'=>e = .returned (.int .i64 22)/\Below w.heap.size w w':=by
 obtain⟨a,n,cap,rfl⟩:=qg h.1;obtain⟨pa,pn,pc,rfl⟩:=hp;obtain⟨W,hW⟩ : ∃ W:World,W=w.alloc (.cells #[.slice a n cap] 26):=⟨_,rfl⟩
 have hB:Below w.heap.size w W:=by rw[hW];exact(Below.refl _ w).alloc (nlr _) _
 have rv:=qmz _ l W (h.q8 hB) hl aX G;have HC:=lhd rv;have HB:=lhd hB;have HW:=lhd hW;clear h aX G rv hB hl hW;go_enter Tryz.func50,Tryz.ntmps50;go_wp2_with fail;rw[<-HW.out];refine HC.out.mono ?_;rintro e w1 ⟨⟨i,rfl⟩,ai⟩;have H1:=lhd (HB.out.trans (ai.mono HB.out.size));clear ai;go_wp2_with fail;go_ret;exact⟨rfl,H1.out⟩
end Go.Proofs.YtlhicnfeajejhaaGreatDoor
namespace Go.Cx
theorem q74:∀ (m:List Ce) (i:Nat) (x:Ce) (y:Int),m[i]? = some x->cat Ce.enc (m.set i ⟨x.id,y,x.a,x.n,x.c,x.s⟩)=(cat Ce.enc m).set (i*3+1) (.int .i64 y)
 | [],i,x,y,h=>by cases h
 | a :: m,0,x,y,h=>by
  have h:a=x:=osi h;subst h;rfl
 | a :: m,i+1,x,y,h=>by
  have ih:=q74 m i x y h;show a.enc++cat Ce.enc (m.set i _)=(a.enc++cat Ce.enc m).set _ _;rw[ih,List.set_append_right _ _ (by rw[Ce.qp];omega),Ce.qp,show (i+1)*3+1 - 3=i*3+1 by omega]
end Go.Cx
namespace Go.Proofs.YtlhicnfeajejhaaGreatDoor
open Go.RowKit Go.Cx
attribute [local go_sem ↓] Go.wp_at_zero Go.wp_at_succ
theorem qh1 {w:World} {st:Nat} {v:Value} {xs:List Value} (h:Sl w st v xs) (p:Addr) (u:Value) (hp:∀ ad n c,v = .slice (some ad) n c->ad.block≠p.block):Sl (w.setCell p u) st v xs :=
 Gs.sl (Gs.setCell (S:=fun b=>b=p.block) (Gs.refl _ w) rfl u) h fun ad n c he _ e=>hp ad n c he e
theorem qox {w:World} {b b':Nat} {t t':TypeId} {st UG n n':Nat} {v:Value} {xs UH:List Value} {g:Nat} {k c:Nat} (h:w.ownsRow b t st (.slice (some ⟨g,0,none⟩) k c) n xs) (h':w.ownsRow b' t' UG v n' UH) (ht:t≠t'):∀ ad m d,v = .slice (some ad) m d->ad.block≠g:=fun ad m d he e=>by
 rcases h.2 with ⟨h1,_⟩ | ⟨g1,_,_,h1,_,h2,_⟩
 ·cases h1
 ·rcases h'.2 with ⟨h3,_⟩ | ⟨g2,_,_,h3,_,h4,_⟩
  ·rw[h3] at he;cases he
  ·rw[h3] at he;injection he with he;injection he with he
   subst he;injection h1 with h1;injection h1 with h1;injection h1 with h1
   have e:g2=g:=e;subst h1 e;rw[h2] at h4;injection h4 with h4
   injection h4 with _ h4
   exact ht h4
theorem q1p.bump {w:World} {b:Nat} {g n c:Nat} {m:List Ce} (h:q1p w b (.slice (some ⟨g,0,none⟩) n c) m) {i:Nat} {x:Ce} (hx:m[i]? = some x) (y:Int) :
  SlC (w.setCell ⟨g,i*3+1,none⟩ (.int .i64 y)) (.slice (some ⟨g,0,none⟩) n c) (m.set i ⟨x.id,y,x.a,x.n,x.c,x.s⟩):=by
 have hs:=Sl.qc h.1;obtain⟨h1,h2,h3,h4,h5⟩:=hs.open;have hi:=(gc.1 hx).1;have ec:∀ j,(⟨g,0,none⟩ : Addr).add j=⟨g,j,none⟩:=fun j=>by
  unfold Addr.add;split
  ·rename_i h;rw[h]
  ·simp
 have hk:(cat Ce.enc m)[i*3+1]? = some (.int .i64 x.dim):=(zh m i x hx).2.1;refine⟨⟨some ⟨g,0,none⟩,n,c,rfl,h1,h2,?_,(fun e=>by cases e),fun ad ha j u hj=>?_⟩,fun z hz=>?_⟩
 ·rw[q74 m i x y hx,List.length_set];exact h3
 ·obtain rfl:=osi ha;rw[q74 m i x y hx,List.getElem?_set] at hj;rw[ec];by_cases dS:i*3+1=j
  ·rw[if_pos dS] at hj;split at hj
   ·obtain rfl:=osi hj;rw[<-dS];refine World.cell?_setCell_same' _ _ _ ?_;have:=h5 ⟨g,0,none⟩ rfl _ _ hk;rw[ec] at this;rw[this];rfl
   ·cases hj
  ·rw[if_neg dS] at hj;have:=h5 ⟨g,0,none⟩ rfl _ _ hj;rw[ec] at this;exact js this (fun e=>dS (by injection e with _ e;exact e.symm))
 ·have key:∀ x'∈m,Sl (w.setCell ⟨g,i*3+1,none⟩ (.int .i64 y)) 2 x'.sl (cat Sd.enc x'.s):=fun x' PO=>qh1 (Sl.qc (h.2 x' PO)) _ _ fun ad k d he=>qox h.1 (h.2 x' PO) (by decide) ad k d he
  rcases List.mem_or_eq_of_mem_set hz with hz | hz
  ·exact key z hz
  ·rw[hz];exact key x (gd hx)
end Go.Proofs.YtlhicnfeajejhaaGreatDoor
namespace Go.Proofs.YtlhicnfeajejhaaGreatDoor
open Go.RowKit Go.Cx
theorem qjn {Q:Exit->Act->World->Prop} {K:Act->World->Prop} {o:Oper} {a:Act} {w:World} (x:Operand) (aU:o.op = .call { callee:=.builtin .len,args:=#[x],argTypes:=#[32] }) (hx:(Mok.ch []).holds (a.eval x) w) (h:K (a.put o.dst (.int .i64 0)) w):Oper.wp Tryz.prog o a w K Q:=by
 obtain⟨ad,n,c,he,_,_,h3,_⟩:=hx;have h3:0=n*3:=h3;have hn:n=0:=by omega
 subst hn;exact qi5 x aU Tryz.underlying32 ad 0 c he h
theorem qpu {Q:Exit->Act->World->Prop} {K:Act->World->Prop} {o:Oper} {a:Act} {w:World} (x:Operand) (aU:o.op = .call { callee:=.builtin .len,args:=#[x],argTypes:=#[22] }) (hx:(Mok.idl []).holds (a.eval x) w) (h:K (a.put o.dst (.int .i64 0)) w):Oper.wp Tryz.prog o a w K Q:=by
 obtain⟨ad,n,c,he,_,_,h3,_⟩:=hx;have h3:0=n*1:=h3;have hn:n=0:=by omega
 subst hn;exact qi5 x aU Tryz.underlying22 ad 0 c he h
section
variable (v u:Value) (K:List Cl) (ps:List (Int×Int)) (w:World) (h:(Mok.cx K).holds v w) (hK:KOk K) (hl:K.length<=180) (k:(Mok.prs ps).holds u w) (hp:∀ p∈ps,I64 p.1/\I64 p.2) (hE:opE K ps≠0)
include h hK hl k hp hE
theorem qqu (d:Int):Calls Tryz.prog 45 #[v,u,.int .i64 d] w (Gvs (.idl []) w) :=
 qbf v u K ps w h hK (by omega) k hp d [] (by unfold yt;rw[if_neg hE])
theorem qr1 (d:Int) (hd:I64 d):Calls Tryz.prog 46 #[v,u,.int .i64 d] w (Gvs (.ch []) w) :=
 kUp v u K ps w h hK (by omega) k hp d hd [] Cn.nil (by unfold upX;rw[if_neg (fun x=>hE x.1)];rfl)
theorem qqw (c:Value) (L:List (Int×Int)) (hc:(Mok.ch L).holds c w) (hL:LOk 100 L) (wK:L.length<=1000):Calls Tryz.prog 51 #[v,u,c] w (Gvs (.ch []) w) :=
 qmo v u K ps w h hK (by omega) k hp c L [] hc hL wK Cn.nil (by unfold q4t;rw[if_neg hE];rfl)
theorem qq0 (c:Value) (f:Int->Int) (hc:(Fk.cf f 1 1).holds c w):Calls Tryz.prog 51 #[v,u,c] w (Gvs (.ch []) w):=by
 obtain⟨L,_,_,ux,ht,hs⟩:=hc;refine qqw v u K ps w h hK hl k hp hE c L hs (fun p hp=>?_) (by omega);obtain⟨h1,h2,h3⟩:=ht _ (gE hp);have h3:(mg p.2).size<=1:=h3;rw[j5] at h3;exact⟨⟨h1,h2⟩,by omega⟩
theorem qqz (d:Int) (rQ : -1000<=d) (bZ:d<=1000):Calls Tryz.prog 54 #[v,u,.int .i64 d] w (Gvs (.mat 0 0 []) w):=by
 obtain⟨x,l,rfl,h1,h2⟩:=h;have bH:l.length<=180:=by rw[<-h2,gm] at hl;exact hl
 refine(qf9 x u l ps w h1 (by omega) (hK.cok h2) k hp d ⟨rQ,bZ⟩).mono ?_;rintro e w' ⟨hb,hr⟩;rw[h2] at hr;rcases hr with ⟨_,rfl⟩ | ⟨h0,_⟩
 ·exact⟨_,rfl,⟨.slice none 0 0,rfl,Sl.nil _ _⟩,hb⟩
 ·exact absurd h0 hE
end
theorem qoz (x:Int) (n:Nat) (hn:0 < n) (hx:0<=x) (ir:n<=1000):∃ i:Nat,i < n/\∀ w,(Go.binOp .rem 3 (.int .i64 x) (.int .i64 n)).run Tryz.prog w = .ok (.int .i64 i) w:=by
 have h1:¬ n=0:=by omega
 have h2:=Int.tmod_nonneg (n:Int) hx;have h3:=Int.tmod_lt_of_pos x (show (0:Int) < n by omega);refine⟨(x.tmod n).toNat,by omega,fun w=>?_⟩;have h4:IntKind.i64.wrap (x.tmod n)=x.tmod n:=IntWalk.i64_in _ (by omega);have h5:(((x.tmod n).toNat:Nat):Int)=x.tmod n:=by omega
 rw[h5];simp[go_sem,h1]
theorem qpr (x:Int) (hx:I64 x):∃ y:Int,I64 y/\∀ w,(Go.binOp .quo 3 (.int .i64 x) (.int .i64 2)).run Tryz.prog w = .ok (.int .i64 y) w:=by
 have h1 : -9223372036854775808<=x.tdiv 2/\x.tdiv 2<=9223372036854775807:=by
  obtain⟨a,b⟩:=hx;rcases Int.le_total 0 x with h | h
  ·rw[Int.tdiv_eq_ediv_of_nonneg h];omega
  ·have h2:x.tdiv 2 = -((-x).tdiv 2):=by rw[Int.neg_tdiv,Int.neg_neg]
   rw[h2,Int.tdiv_eq_ediv_of_nonneg (by omega)];omega
 refine⟨x.tdiv 2,h1,fun w=>?_⟩;have h4:IntKind.i64.wrap (x.tdiv 2)=x.tdiv 2:=IntWalk.i64_in _ h1;simp[go_sem,h4]
theorem qjt (w:World) (p:Addr) (x y:Int) (h1:w.cell? p=some (.int .i64 y)) (h2:w.frozen? p=false):(Instr.storeAt 3 (.pointer (some p)) (.int .i64 x)).run Tryz.prog w = .ok () (w.setCell p (.int .i64 x)):=by
 simp[go_sem,h1,h2]
theorem kz (w:World) (q:Nat):(Instr.fieldAt 26 (.pointer (some ⟨q,0,none⟩)) 0).run Tryz.prog w = .ok (.pointer (some ⟨q,0,none⟩)) w:=by simp[go_sem]
theorem q60 (w:World) (q:Nat) (a:Option Addr) (n c:Nat) (h:w.cell? ⟨q,0,none⟩=some (.slice a n c)):(Instr.loadAt 24 (.pointer (some ⟨q,0,none⟩))).run Tryz.prog w = .ok (.slice a n c) w:=by simp[go_sem,h]
theorem q7b (w:World) (g n c i:Nat) (hi:i < n):(Instr.indexAt 24 (.slice (some ⟨g,0,none⟩) n c) (.int .i64 i)).run Tryz.prog w = .ok (.pointer (some ⟨g,i*3,none⟩)) w:=by
 have h1:(0:Int)<=i:=by omega
 have h2:(i:Int) < n:=by omega
 simp[go_sem,h1,h2]
theorem qbr (w:World) (g o:Nat):(Instr.fieldAt 75 (.pointer (some ⟨g,o,none⟩)) 0).run Tryz.prog w = .ok (.pointer (some ⟨g,o,none⟩)) w:=by simp[go_sem]
theorem q6b (w:World) (g o:Nat):(Instr.fieldAt 75 (.pointer (some ⟨g,o,none⟩)) 1).run Tryz.prog w = .ok (.pointer (some ⟨g,o+1,none⟩)) w:=by simp[go_sem]
theorem qqo (a b:Value) (w:World):(Instr.index 50 (.agg #[a,b]) (.int .i64 0)).run Tryz.prog w = .ok a w:=by kernel_rfl
theorem qqp (a b:Value) (w:World):(Instr.index 50 (.agg #[a,b]) (.int .i64 1)).run Tryz.prog w = .ok b w:=by kernel_rfl
theorem qpt (w:World):(Instr.build 44 #[]).run Tryz.prog w = .ok (.agg #[.int .i64 0,.int .i64 0,.slice none 0 0]) w:=by simp[go_sem]
theorem qr2 (w:World) (x:Int) (h:x≠0):(Go.binOp .eql 61 (.int .i64 x) (.int .i64 0)).run Tryz.prog w = .ok (.bool false) w:=by
 have h:(x == 0)=false:=by simpa using h
 simp[go_sem,h]
theorem qr0 (g j:Nat):(⟨g,0,none⟩ : Addr).add j=⟨g,j,none⟩:=by
 unfold Addr.add;split
 ·rename_i h;rw[h]
 ·simp
theorem q1p.at {w:World} {b:Nat} {a:Option Addr} {n c:Nat} {m:List Ce} (h:q1p w b (.slice a n c) m) (hn:0 < m.length):∃ g,a=some ⟨g,0,none⟩/\b<=g/\g < w.heap.size/\∀ j,w.frozen? ⟨g,j,none⟩=false:=by
 rcases h.1.2 with ⟨_,h0⟩ | ⟨g,cap,cur,h1,h2,h3,_⟩
 ·omega
 ·injection h1 with h1
  exact⟨g,h1,h2,(gw.1 h3).1,fun j=>jz h3 j⟩
end Go.Proofs.YtlhicnfeajejhaaGreatDoor
namespace Go.Proofs.YtlhicnfeajejhaaGreatDoor
open Go.RowKit Go.Cx
attribute [local go_sem ↓] Go.wp_at_zero Go.wp_at_succ
theorem qd0 (v0 v1:Value) (l:List Int) (la:List (Int×Int)) (qq:Int) (w:World) (h0:Sl w 1 v0 (ints l)) (h1:Sl w 2 v1 (pv la)) (r1:∀ p∈la,I64 p.1/\I64 p.2) (nz:I64 qq) :
  Calls Tryz.prog 7 #[v0,v1,.int .i64 qq] w fun e w'=>e = .returned (.bool true)/\Below w.heap.size w w':=by
 obtain⟨a0,k0,c0,rfl⟩:=qg h0;obtain⟨a1,k1,c1,rfl⟩:=qg h1;have ey:la.length=k1:=by
  obtain⟨_,_,h3,_⟩:=h1.open;rw[kf] at h3;omega
 obtain⟨rl,jI,_⟩:=h1.open;unfold maxLen at jI;have H:=lhd (aiq h0 (aiq h1 (aiq ey r1)));have UI:=lhd nz;clear h0 h1 ey r1 nz;go_enter Tryz.func7,Tryz.ntmps7;go_wp2_with fail;refine(qj7 _).mono ?_;rintro e w1 ⟨rfl,ai⟩;have H1:=lhd ai;clear ai;go_wp2_with fail;refine(qai _ l _ (H.out.1.q8 H1.out)).mono ?_;rintro e w2 ⟨r,m,rfl,hm,hR,ag⟩;obtain⟨ua,uc,wV⟩:=qj hR.1;subst wV;have aw:Below w.heap.size w w2:=H1.out.trans (ag.mono H1.out.size);obtain⟨K,hK⟩ : ∃ K,K=q25 l:=⟨_,rfl⟩
 have hok:=qht l;have hG:=qcx l;have fy:=q8a l;have tp:=qor l;rw[<-hK] at hok hG fy hm tp;have eV:m.length<=180:=by
  have:=congrArg List.length hm;rw[gm] at this;have:=hok.2.2;omega
 obtain⟨mn,rO⟩ : ∃ mn,mn=m.length:=⟨_,rfl⟩
 have ug:mn<=uc:=by rw[rO];exact(Sl.qc hR.1).open.1
 have lk:uc<=maxLen:=(Sl.qc hR.1).open.2.1;unfold maxLen at lk;rw[<-rO] at eV;have HC:=lhd (aiq hm (aiq hR (aiq aw (aiq hok (aiq hG (aiq fy (aiq tp rO)))))));rw[<-rO];clear hm hR ag aw hK hok hG fy tp rO;go_upto_region 3 with fail;obtain⟨W0,ig⟩ : ∃ W0,W0=w2.alloc (.cells #[.slice ua mn uc] 26):=⟨_,rfl⟩
 obtain⟨q,hq⟩ : ∃ q,q=w2.heap.size:=⟨_,rfl⟩
 rw[<-ig,<-hq];have ca:Below w2.heap.size w2 W0:=by rw[ig];exact(Below.refl _ w2).alloc (nlr _) _
 have bq:Bv W0 q (.slice ua mn uc):=by rw[ig,hq];exact Bv.new w2 _ _
 have aK:Below w.heap.size w W0:=HC.out.2.2.1.trans (ca.mono HC.out.2.2.1.size);have PQ:w2.heap.size<=q/\q < W0.heap.size:=by rw[ig,hq];simp
 have KY:q1p W0 w1.heap.size (.slice ua m.length uc) m:=⟨qa HC.out.2.1.1 ca,fun x hx=>qa (HC.out.2.1.2 x hx) ca⟩
 rw[<-HC.out.2.2.2.2.2.2.2] at KY;have H0:=lhd (aiq bq (aiq aK (aiq PQ KY)));clear ig hq ca bq aK PQ KY;obtain⟨n20,Eu⟩ : ∃ n20,n20=min k1 20:=⟨_,rfl⟩
 have qX:=lhd Eu;clear Eu;go_wp2_with fail;go_loopg [9,10] n20 (fun g o i wr=>∃ k:Nat,k+g=n20/\i = .int .i64 k/\Hid (∃ Ps:List (Int×Int),Ps.length=k/\(∀ p∈Ps,I64 p.1/\I64 p.2)/\wr.ownsRow W0.heap.size 50 2 o Ps.length (pv Ps))/\Hid (Below W0.heap.size W0 wr))
 case atStart=>exact⟨0,by omega,rfl,(show Hid _ from⟨[],rfl,(fun p hp=>by cases hp),World.ownsRow_nil _ _ _ _⟩),(show Hid _ from Below.refl _ _)⟩
 case round =>
  obtain⟨k,AE,rfl,PR,oK⟩:=hrel;obtain⟨Ps,KZ,PS,FV⟩:=PR.out;obtain⟨oa,oc,nw⟩:=qj FV;subst nw;rw[KZ] at FV ⊢;have HP:=lhd (aiq KZ (aiq PS FV));clear PR KZ PS FV;cases gk with
  | zero =>
   go_upto_region 5 with fail
   go_cut [25] from 18 to 24 (fun x wx=>x=Value.bool false/\wx=wr)
   case first =>
    have oC:k=n20:=by omega
    have PT:=qX.out;by_cases aR:k < k1
    ·have h1:(k:Int) < k1:=by omega
     have h2:¬ (k:Int) < 20:=by omega
     clear oC PT aR AE;go_wp2_with fail
     go_meet
     exact⟨rfl,rfl⟩
    ·have h1:¬ (k:Int) < k1:=by omega
     clear oC PT aR AE;go_wp2_with fail
     go_meet
     exact⟨rfl,rfl⟩
   case rest =>
    obtain⟨rfl,rfl⟩:=hcut;obtain⟨wr,l6⟩ : ∃ v,v=wc:=⟨_,rfl⟩
    subst l6;have cq:=(H0.out.1.q8 oK.out).1;have UJ:=lhd AE;clear AE;go_upto_region 15 with fail
    go_cut [70] from 62 to 69 (fun x wx=>∃ bb:Bool,x=Value.bool bb/\Hid (bb=true->0 < mn)/\wx=wr)
    case first =>
     go_wp2_with fail
     all_goals
      go_meet
      exact⟨_,rfl,lhd (fun e=>by first | cases e;done | simpa using e),rfl⟩
    case rest =>
     obtain⟨bb,rfl,FW,rfl⟩:=hcut;obtain⟨wr,l6⟩ : ∃ v,v=wc:=⟨_,rfl⟩
     subst l6;have Lc:=lhd (H0.out.2.1.trans (oK.out.mono H0.out.2.1.size))
     go_upto_if 70 with fail
     go_cut [] from 71 to 84 (fun wx=>Hid (∃ m1,(m1=m\/∃ (i:Nat) (x:Ce),m[i]? = some x/\m1=m.set i ⟨x.id,x.dim+1,x.a,x.n,x.c,x.s⟩)/\SlC wx (.slice ua mn uc) m1)/\Hid (Bv wx q (.slice ua mn uc))/\Hid (Sl wx 2 (.slice oa k oc) (pv Ps))/\Hid (Below w.heap.size w wx))
     case first =>
      rename_i J K2 hJ jC;cases bb with
      | false =>
       clear cq;go_wp2_with fail
       go_meet
       exact⟨(show Hid _ from⟨m,.inl rfl,(q1p.slc H0.out.2.2.2).q8 oK.out⟩),(show Hid _ from H0.out.1.q8 oK.out),(show Hid _ from Sl.qc HP.out.2.2),Lc⟩
      | true =>
       have g2:=FW.out rfl;obtain⟨yq,UK,UL⟩ : ∃ y:Int,I64 y/\∀ U,(Go.binOp .quo 3 (.int .i64 qq) (.int .i64 2)).run Tryz.prog U = .ok (.int .i64 y) U:=qpr qq UI.out;obtain⟨i0,hi0,oe⟩ : ∃ i:Nat,yq % (mn:Int)=(i:Int)/\i < mn:=⟨(yq % (mn:Int)).toNat,by have:=Int.emod_nonneg yq (show (mn:Int)≠0 by omega);omega,by have:=Int.emod_lt_of_pos yq (show (0:Int) < (mn:Int) by omega);have:=Int.emod_nonneg yq (show (mn:Int)≠0 by omega);omega⟩
       have ae:∀ U,Calls Tryz.prog 17 #[.int .i64 yq,.int .i64 mn] U fun e w'=>e = .returned (.int .i64 i0)/\Below U.heap.size U w':=fun U=>by
        rw[<-hi0];exact qoq yq mn U (by omega) (by omega)
       have nG:=H0.out.2.2.2;obtain⟨g,Ld,cA,dH,_⟩:=q1p.at HC.out.2.1 (by rw[<-HC.out.2.2.2.2.2.2.2];exact g2);subst Ld;obtain⟨x,hx⟩ : ∃ x,m[i0]? = some x:=⟨_,g8 (by rw[<-HC.out.2.2.2.2.2.2.2];exact oe)⟩
       have uA:q1p wr w1.heap.size (.slice (some ⟨g,0,none⟩) mn uc) m:=⟨qa nG.1 oK.out,fun x hx=>qa (nG.2 x hx) oK.out⟩
       have e0:wr.cell? ⟨g,i0*3+1,none⟩=some (.int .i64 x.dim):=by
        have:=(Sl.qc uA.1).open.2.2.2.2 ⟨g,0,none⟩ rfl _ _ (zh m i0 x hx).2.1;rw[qr0] at this;exact this
       have uu:0<=x.dim/\x.dim<=5:=HC.out.2.2.2.2.2.2.1 x.cl (by rw[<-HC.out.1];exact gE (gd hx));obtain⟨iU,ij,_,o4,FX⟩:=uA.at (by rw[<-HC.out.2.2.2.2.2.2.2];exact g2);have ij:iU=g:=by injection ij with e;injection e with e;exact e.symm
       subst ij;have rE:I64 (x.dim+1):=⟨by omega,by omega⟩
       obtain⟨xd,qY⟩ : ∃ xd,xd=x.dim:=⟨_,rfl⟩
       rw[<-qY] at e0 rE;have HG:=lhd (aiq hx (aiq qY (aiq uA (aiq cA (aiq dH (aiq o4 FX))))));clear hx uu qY uA cA dH o4 FX nG UK hi0 FW;go_upto_region 16 with fail;refine qbs rfl (fun i' v=>∀ x',([some (.pointer (some ⟨q,0,none⟩)),some (.slice (some ⟨iU,0,none⟩) mn uc),some (.int .i64 qq),some (.int .i64 yq),some (.pointer (some ⟨q,0,none⟩)),some (.slice (some ⟨iU,0,none⟩) mn uc),some (.int .i64 mn),some (.int .i64 i0),some (.pointer (some ⟨iU,i0*3,none⟩)),some (.pointer (some ⟨iU,i0*3+1,none⟩)),some (.int .i64 xd),some (.int .i64 (xd+1)),some (.pointer (some ⟨iU,i0*3,none⟩)),some (.pointer (some ⟨iU,i0*3+1,none⟩))] : List (Option Value)).getD i' none=some x'->v=x') 14 15 123 rfl (by kernel_rfl) (by kernel_rfl) (by decide) (by kernel_rfl) (by kernel_rfl) (fun a w''=>K2 a w'') ?step6 ?store6 (fun a w'' h=>h)
       case step6 =>
        intro i' o ho ak a w' hw hd af ao
        match i',ho,hd with
        | 0,ho,hd =>
         obtain rfl:=osi ho;exact⟨rfl,gv _,q8b _ _ _ rfl _ (af 8 (qu (by kernel_rfl))) _ (kz _ _) ⟨_,rfl,fun _ h=>osi h,Below.refl _ _⟩⟩
        | 1,ho,hd =>
         obtain rfl:=osi ho;have f0:a.tmps.getD 71 undef = .pointer (some ⟨q,0,none⟩):=hd 0 _ _ rfl rfl (by kernel_rfl) _ rfl;exact⟨rfl,gv _,q8o _ _ rfl _ f0 _ (q60 _ _ _ _ _ (Cx.q8 hw cq)) ⟨_,rfl,fun _ h=>osi h,Below.refl _ _⟩⟩
        | 2,ho,hd =>
         obtain rfl:=osi ho;exact⟨rfl,gv _,q1b _ (.inl rfl) ⟨_,rfl,fun _ h=>(af 2 (qu (by kernel_rfl))).trans (osi h),Below.refl _ _⟩⟩
        | 3,ho,hd =>
         obtain rfl:=osi ho;have f2:a.tmps.getD 73 undef = .int .i64 qq:=hd 2 _ _ rfl rfl (by kernel_rfl) _ rfl;exact⟨rfl,gv _,qnf _ _ _ _ _ rfl _ _ f2 rfl _ rfl (UL _) ⟨_,rfl,fun _ h=>osi h,Below.refl _ _⟩⟩
        | 4,ho,hd =>
         obtain rfl:=osi ho;exact⟨rfl,gv _,q8b _ _ _ rfl _ (af 8 (qu (by kernel_rfl))) _ (kz _ _) ⟨_,rfl,fun _ h=>osi h,Below.refl _ _⟩⟩
        | 5,ho,hd =>
         obtain rfl:=osi ho;have f4:a.tmps.getD 75 undef = .pointer (some ⟨q,0,none⟩):=hd 4 _ _ rfl rfl (by kernel_rfl) _ rfl;exact⟨rfl,gv _,q8o _ _ rfl _ f4 _ (q60 _ _ _ _ _ (Cx.q8 hw cq)) ⟨_,rfl,fun _ h=>osi h,Below.refl _ _⟩⟩
        | 6,ho,hd =>
         obtain rfl:=osi ho;have f5:a.tmps.getD 76 undef = .slice (some ⟨iU,0,none⟩) mn uc:=hd 5 _ _ rfl rfl (by kernel_rfl) _ rfl;exact⟨rfl,gv _,qi5 _ rfl Tryz.underlying24 _ mn uc f5 ⟨_,rfl,fun _ h=>osi h,Below.refl _ _⟩⟩
        | 7,ho,hd =>
         obtain rfl:=osi ho;have f3:a.tmps.getD 74 undef = .int .i64 yq:=hd 3 _ _ rfl rfl (by kernel_rfl) _ rfl;have f6:a.tmps.getD 77 undef = .int .i64 mn:=hd 6 _ _ rfl rfl (by kernel_rfl) _ rfl;exact⟨rfl,gv _,qdj _ _ _ rfl q7a #[.int .i64 yq,.int .i64 mn] (by simp[Act.eval,f3,f6]) ((ae _).mono fun e w6 ⟨he,hb⟩=>⟨_,he,_,rfl,fun _ h=>osi h,hb⟩)⟩
        | 8,ho,hd =>
         obtain rfl:=osi ho;have f1:a.tmps.getD 72 undef = .slice (some ⟨iU,0,none⟩) mn uc:=hd 1 _ _ rfl rfl (by kernel_rfl) _ rfl;have f7:a.tmps.getD 78 undef = .int .i64 i0:=hd 7 _ _ rfl rfl (by kernel_rfl) _ rfl;exact⟨rfl,gv _,qc9 _ _ _ rfl _ _ f1 f7 _ (q7b _ iU mn uc i0 oe) ⟨_,rfl,fun _ h=>osi h,Below.refl _ _⟩⟩
        | 9,ho,hd =>
         obtain rfl:=osi ho;have f8:a.tmps.getD 79 undef = .pointer (some ⟨iU,i0*3,none⟩):=hd 8 _ _ rfl rfl (by kernel_rfl) _ rfl;exact⟨rfl,gv _,q8b _ _ _ rfl _ f8 _ (q6b _ _ _) ⟨_,rfl,fun _ h=>osi h,Below.refl _ _⟩⟩
        | 10,ho,hd =>
         obtain rfl:=osi ho;have f9:a.tmps.getD 80 undef = .pointer (some ⟨iU,i0*3+1,none⟩):=hd 9 _ _ rfl rfl (by kernel_rfl) _ rfl;exact⟨rfl,gv _,q8o _ _ rfl _ f9 _ (qe0 _ _ _ (Cx.q8 hw e0)) ⟨_,rfl,fun _ h=>osi h,Below.refl _ _⟩⟩
        | 11,ho,hd =>
         obtain rfl:=osi ho;have f10:a.tmps.getD 81 undef = .int .i64 xd:=hd 10 _ _ rfl rfl (by kernel_rfl) _ rfl;exact⟨rfl,gv _,qnf _ _ _ _ _ rfl _ _ f10 rfl _ rfl (qko _ _ _ (IntWalk.i64_in _ rE)) ⟨_,rfl,fun _ h=>osi h,Below.refl _ _⟩⟩
        | 12,ho,hd =>
         obtain rfl:=osi ho;have f1:a.tmps.getD 72 undef = .slice (some ⟨iU,0,none⟩) mn uc:=hd 1 _ _ rfl rfl (by kernel_rfl) _ rfl;have f7:a.tmps.getD 78 undef = .int .i64 i0:=hd 7 _ _ rfl rfl (by kernel_rfl) _ rfl;exact⟨rfl,gv _,qc9 _ _ _ rfl _ _ f1 f7 _ (q7b _ iU mn uc i0 oe) ⟨_,rfl,fun _ h=>osi h,Below.refl _ _⟩⟩
        | 13,ho,hd =>
         obtain rfl:=osi ho;have f12:a.tmps.getD 83 undef = .pointer (some ⟨iU,i0*3,none⟩):=hd 12 _ _ rfl rfl (by kernel_rfl) _ rfl;exact⟨rfl,gv _,q8b _ _ _ rfl _ f12 _ (q6b _ _ _) ⟨_,rfl,fun _ h=>osi h,Below.refl _ _⟩⟩
        | 14,ho,hd=>exact absurd rfl ak
        | i'+15,ho,hd =>
         have:i'+15 < 15:=(gw.1 ho).1;omega
       case store6 =>
        intro o ho a w' ao kQ hw hf af;obtain rfl:=osi ho;have f0:a.tmps.getD 84 undef = .pointer (some ⟨iU,i0*3+1,none⟩):=hf 13 _ _ rfl rfl _ rfl;have f1:a.tmps.getD 82 undef = .int .i64 (xd+1):=hf 11 _ _ rfl rfl _ rfl;obtain⟨hx,qY,uA,cA,dH,o4,FX⟩:=HG.out;refine⟨rfl,qhx _ _ _ rfl _ _ f0 f1 (qjt _ _ _ _ (Cx.q8 hw e0) (qv hw o4 (FX _))) ?_⟩;refine jC _ _ (Met.intro (hJ _ _ ⟨a.tmps.getD 71 undef,a.tmps.getD 72 undef,a.tmps.getD 73 undef,a.tmps.getD 74 undef,a.tmps.getD 75 undef,a.tmps.getD 76 undef,a.tmps.getD 77 undef,a.tmps.getD 78 undef,a.tmps.getD 79 undef,a.tmps.getD 80 undef,a.tmps.getD 81 undef,a.tmps.getD 82 undef,a.tmps.getD 83 undef,a.tmps.getD 84 undef,?rel6,(q8z ao kQ af).trans ?eq6⟩))
        case eq6=>kernel_rfl
        have Ev:q1p w' w1.heap.size (.slice (some ⟨iU,0,none⟩) mn uc) m:=⟨qa uA.1 hw,fun x hx=>qa (uA.2 x hx) hw⟩
        have ak:(⟨q,0,none⟩ : Addr)≠⟨iU,i0*3+1,none⟩:=fun e=>by
         have e:q=iU:=by injection e
         have:=H0.out.2.2.1.1;omega
        have lV:=(H0.out.1.q8 oK.out).q8 hw;refine⟨(show Hid _ from⟨m.set i0 ⟨x.id,x.dim+1,x.a,x.n,x.c,x.s⟩,.inr ⟨i0,x,hx,rfl⟩,?_⟩),(show Hid _ from⟨js lV.1 ak,by rw[World.frozen?_setCell];exact lV.2⟩),(show Hid _ from qh1 (Sl.qc (qa HP.out.2.2 hw)) _ _ (qox Ev.1 (qa HP.out.2.2 hw) (by decide))),(show Hid _ from(Lc.out.trans (hw.mono Lc.out.size)).setCell (gn H1.out.size cA) _)⟩;rw[qY];exact Ev.bump hx _
     case rest =>
      obtain⟨eE,mx,Bm,FY⟩:=hcut;obtain⟨m1,cO,ep⟩:=eE.out;obtain⟨wr,l6⟩ : ∃ v,v=wc:=⟨_,rfl⟩
      subst l6;obtain⟨K1,AI⟩ : ∃ K1,K1=m1.map Ce.cl:=⟨_,rfl⟩
      obtain⟨E,hE⟩ : ∃ E,E=opE K1 Ps:=⟨_,rfl⟩
      have Ew:m1.length=mn:=by
       rw[HC.out.2.2.2.2.2.2.2];rcases cO with rfl | ⟨i,x,_,rfl⟩
       ·rfl
       ·exact List.length_set
      have FZ:∀ x∈m,x.s.length<=19:=fun x hx=>(HC.out.2.2.2.1.1 x.cl (by rw[<-HC.out.1];exact gE hx)).2.1
      have zJ:∀ x∈m1,x.s.length<=1099511627776:=fun y hy=>by
       rcases cO with rfl | ⟨i,x,hx,rfl⟩
       ·exact gn (FZ y hy) (by decide)
       ·rcases List.mem_or_eq_of_mem_set hy with h | h
        ·exact gn (FZ y h) (by decide)
        ·rw[h];exact gn (FZ x (gd hx)) (by decide)
      have FH:KOk K1:=fun y hy=>by
       rw[AI] at hy;rcases cO with rfl | ⟨i,x,hx,rfl⟩
       ·rw[HC.out.1] at hy;exact HC.out.2.2.2.1.1 y hy
       ·obtain⟨z,hz,rfl⟩:=go.1 hy;have dQ:x.cl∈K:=by rw[<-HC.out.1];exact gE (gd hx)
        rcases List.mem_or_eq_of_mem_set hz with h | h
        ·exact HC.out.2.2.2.1.1 z.cl (by rw[<-HC.out.1];exact gE h)
        ·rw[h];have h1:=HC.out.2.2.2.1.1 x.cl dQ;have h2:=HC.out.2.2.2.2.2.2.1 x.cl dQ;exact⟨⟨h1.1.1,⟨by show _<=x.cl.dim+1;omega,by show x.cl.dim+1<=_;omega⟩⟩,h1.2⟩
      have kU:K1.length<=180:=by rw[AI,gm,Ew];exact eV
      have rv:∀ U,Below wr.heap.size wr U->Calls Tryz.prog 50 #[.agg #[.slice ua mn uc],.slice oa k oc] U fun e w'=>e = .returned (.int .i64 E)/\Below U.heap.size U w':=fun U hU=>by
       have PU:=ep.q8 hU;have hG:=HC.out.2.2.2.2.1;have fy:=HC.out.2.2.2.2.2.1;rw[<-HC.out.1] at hG fy;rcases cO with rfl | ⟨i,x,hx,rfl⟩
       ·have:=qmb _ _ m1 Ps U PU (by omega) zJ hG fy (Bm.out.q8 hU) (by rw[HP.out.1];have:=qX.out;have:=UJ.out;omega);have UN:opE (m1.map Ce.cl) Ps=j8 (m1.map Ce.cl) Ps:=by unfold opE;rw[fy,if_pos rfl,hG.cells.1]
        rw[<-UN,<-AI,<-hE] at this;exact this
       ·have hB:Cx.qku ((m.set i ⟨x.id,x.dim+1,x.a,x.n,x.c,x.s⟩).map Ce.cl):=by
         have:=hG.bump fy (fun y hy=>HC.out.2.2.2.2.2.2.1 y (by rw[<-HC.out.1];exact hy)) (j:=i) (z:=x.cl) (by rw[List.getElem?_map,hx];rfl);rw[List.map_set];exact this
        have Le:E=22:=by
         obtain⟨i2,hi2⟩:=hB.chk;rw[hE,AI];unfold opE;rw[hi2];rfl
        rw[Le];exact qng _ _ _ U PU (by omega) zJ hB ⟨_,_,_,rfl⟩
      have mW:(Mok.cx K1).holds (.agg #[.slice ua mn uc]) wr:=⟨_,m1,rfl,ep,AI.symm⟩
      have HK:=lhd (aiq FH (aiq kU (aiq rv (aiq mW hE))));have cq:=mx.out.1;clear Ew FZ zJ FH kU rv mW hE ep cO AI eE;go_wp2_with fail;refine(qcw _ _ K1 Ps _ HK.out.2.2.2.1 HK.out.1 (by have:=HK.out.2.1;omega) Bm.out HP.out.2.1 E HK.out.2.2.2.2.symm).mono ?_;rintro e w3 ⟨r,rfl,hr,ct⟩;have hr:r = .int .i64 E:=hr;subst hr;have H3:=lhd ct
      replace cq:=Cx.q8 ct cq
      clear ct;go_wp2_with fail;refine(HK.out.2.2.1 _ H3.out).mono ?_;rintro e w4 ⟨rfl,cP⟩;have H4:=lhd (H3.out.trans (cP.mono H3.out.size))
      replace cq:=Cx.q8 cP cq
      clear cP;have Xc:(E != E)=false:=by simp
      by_cases oq:E=0
      ·subst oq;go_wp2_with fail
       go_quiet (fail)
       go_wp2;go_ret;exact⟨rfl,FY.out.trans ((qb H4.out _).mono FY.out.size)⟩
      ·have UO:=lhd oq;clear oq;go_upto_region 20 with fail
       go_cut [6] from 93 to 122 (fun x wx=>x=Value.bool true/\Hid (Below w4.heap.size w4 wx))
       case first =>
        rename_i J K2 hJ jC;have lV:Bv w4 q (.slice ua mn uc):=mx.out.q8 H4.out;have mW:=Mok.q8 (k:=.cx K1) HK.out.2.2.2.1 H4.out;have lH:=Mok.q8 (k:=.prs Ps) Bm.out H4.out;have hK:=HK.out.1;have kU:=HK.out.2.1;have hI:=HP.out.2.1;have oq:=UO.out;have hE:opE K1 Ps≠0:=by rw[<-HK.out.2.2.2.2];exact oq
        refine q1a rfl (fun i v w=>(([.val (.bool true),.val (.bool true),.val (.int .i64 E),.val (.bool false),.val (.bool false),.mok (.cx K1),.mok (.prs Ps),.mok (.idl []),.val (.int .i64 0),.mok (.cx K1),.mok (.prs Ps),.mok (.ch []),.val (.int .i64 0),.val (.int .i64 0),.mok (.cx K1),.mok (.prs Ps),.fk (.cf (qw 1 1) 1 1),.mok (.ch []),.val (.int .i64 0),.val (.int .i64 0),.val (.bool true),.val (.bool true),.mok (.cx K1),.mok (.prs Ps),.mok (.mat 0 0 []),.mok (.mat 0 0 []),.val (.bool true),.val (.bool true),.val (.bool true),.val (.bool true),.val (.bool true)] : List KP).getD i .any).p v w) 123 rfl (by kernel_rfl) (by kernel_rfl) (fun i v w w' h hb=>KP.q8 _ _ _ _ h hb) ?step20 ?done20
        case step20 =>
         intro i o ho a w' hw hd af ao
         match i,ho,hd with
        | 0,ho,hd =>
         obtain rfl:=osi ho;exact⟨rfl,yi _ (.inl rfl) (af 7 (qu (by kernel_rfl)))⟩
        | 1,ho,hd =>
         obtain rfl:=osi ho;have f0:a.tmps.getD 93 undef = .bool true:=hd 0 _ _ rfl rfl (by kernel_rfl);exact⟨rfl,yi _ (.inl rfl) f0⟩
        | 2,ho,hd =>
         obtain rfl:=osi ho;have fg:a.tmps.getD 94 undef = .bool true:=hd 1 _ _ rfl rfl (by kernel_rfl);exact⟨qn 1 94 rfl rfl (by rw[ao];decide) fg,yi _ (.inl rfl) (af 14 (qu (by kernel_rfl)))⟩
        | 3,ho,hd =>
         obtain rfl:=osi ho;have fg:a.tmps.getD 94 undef = .bool true:=hd 1 _ _ rfl rfl (by kernel_rfl);have f2:a.tmps.getD 95 undef = .int .i64 E:=hd 2 _ _ rfl rfl (by kernel_rfl);exact⟨qn 1 94 rfl rfl (by rw[ao];decide) fg,qnf _ _ _ _ _ rfl _ _ f2 rfl _ rfl (qr2 _ _ oq) ⟨_,rfl,rfl,Below.refl _ _⟩⟩
        | 4,ho,hd =>
         obtain rfl:=osi ho;have fg:a.tmps.getD 94 undef = .bool true:=hd 1 _ _ rfl rfl (by kernel_rfl);have f3:a.tmps.getD 96 undef = .bool false:=hd 3 _ _ rfl rfl (by kernel_rfl);exact⟨qn 1 94 rfl rfl (by rw[ao];decide) fg,yi _ (.inl rfl) f3⟩
        | 5,ho,hd =>
         obtain rfl:=osi ho;have fg:a.tmps.getD 97 undef = .bool false:=hd 4 _ _ rfl rfl (by kernel_rfl);exact⟨xi 4 97 rfl rfl (by rw[ao];decide) fg,q3o _ _ rfl _ (af 8 (qu (by kernel_rfl))) _ (ldK (lV.q8 hw)) (Mok.q8 (k:=.cx K1) mW hw)⟩
        | 6,ho,hd =>
         obtain rfl:=osi ho;have fg:a.tmps.getD 97 undef = .bool false:=hd 4 _ _ rfl rfl (by kernel_rfl);exact⟨xi 4 97 rfl rfl (by rw[ao];decide) fg,yi _ (.inl rfl) (by show (.mok (.prs Ps):KP).p (a.tmps.getD 9 undef) w';rw[af 9 (qu (by kernel_rfl))];exact Mok.q8 (k:=.prs Ps) lH hw)⟩
        | 7,ho,hd =>
         obtain rfl:=osi ho;have fg:a.tmps.getD 97 undef = .bool false:=hd 4 _ _ rfl rfl (by kernel_rfl);have f5:(.mok (.cx K1):KP).p (a.tmps.getD 98 undef) w':=hd 5 _ _ rfl rfl (by kernel_rfl);have f6:(.mok (.prs Ps):KP).p (a.tmps.getD 99 undef) w':=hd 6 _ _ rfl rfl (by kernel_rfl);exact⟨xi 4 97 rfl rfl (by rw[ao];decide) fg,kr _ _ _ rfl je #[a.tmps.getD 98 undef,a.tmps.getD 99 undef,.int .i64 0] (by simp[Act.eval]) (qqu _ _ K1 Ps _ f5 hK kU f6 hI hE 0)⟩
        | 8,ho,hd =>
         obtain rfl:=osi ho;have fg:a.tmps.getD 97 undef = .bool false:=hd 4 _ _ rfl rfl (by kernel_rfl);have f7:(.mok (.idl []):KP).p (a.tmps.getD 100 undef) w':=hd 7 _ _ rfl rfl (by kernel_rfl);exact⟨xi 4 97 rfl rfl (by rw[ao];decide) fg,qpu _ rfl f7 ⟨_,rfl,rfl,Below.refl _ _⟩⟩
        | 9,ho,hd =>
         obtain rfl:=osi ho;have fg:a.tmps.getD 97 undef = .bool false:=hd 4 _ _ rfl rfl (by kernel_rfl);exact⟨xi 4 97 rfl rfl (by rw[ao];decide) fg,q3o _ _ rfl _ (af 8 (qu (by kernel_rfl))) _ (ldK (lV.q8 hw)) (Mok.q8 (k:=.cx K1) mW hw)⟩
        | 10,ho,hd =>
         obtain rfl:=osi ho;have fg:a.tmps.getD 97 undef = .bool false:=hd 4 _ _ rfl rfl (by kernel_rfl);exact⟨xi 4 97 rfl rfl (by rw[ao];decide) fg,yi _ (.inl rfl) (by show (.mok (.prs Ps):KP).p (a.tmps.getD 9 undef) w';rw[af 9 (qu (by kernel_rfl))];exact Mok.q8 (k:=.prs Ps) lH hw)⟩
        | 11,ho,hd =>
         obtain rfl:=osi ho;have fg:a.tmps.getD 97 undef = .bool false:=hd 4 _ _ rfl rfl (by kernel_rfl);have f9:(.mok (.cx K1):KP).p (a.tmps.getD 102 undef) w':=hd 9 _ _ rfl rfl (by kernel_rfl);have f10:(.mok (.prs Ps):KP).p (a.tmps.getD 103 undef) w':=hd 10 _ _ rfl rfl (by kernel_rfl);exact⟨xi 4 97 rfl rfl (by rw[ao];decide) fg,kr _ _ _ rfl qbg #[a.tmps.getD 102 undef,a.tmps.getD 103 undef,.int .i64 1] (by simp[Act.eval]) (qr1 _ _ K1 Ps _ f9 hK kU f10 hI hE 1 ⟨by decide,by decide⟩)⟩
        | 12,ho,hd =>
         obtain rfl:=osi ho;have fg:a.tmps.getD 97 undef = .bool false:=hd 4 _ _ rfl rfl (by kernel_rfl);have f11:(.mok (.ch []):KP).p (a.tmps.getD 104 undef) w':=hd 11 _ _ rfl rfl (by kernel_rfl);exact⟨xi 4 97 rfl rfl (by rw[ao];decide) fg,qjn _ rfl f11 ⟨_,rfl,rfl,Below.refl _ _⟩⟩
        | 13,ho,hd =>
         obtain rfl:=osi ho;have fg:a.tmps.getD 97 undef = .bool false:=hd 4 _ _ rfl rfl (by kernel_rfl);have f8:a.tmps.getD 101 undef = .int .i64 0:=hd 8 _ _ rfl rfl (by kernel_rfl);have f12:a.tmps.getD 105 undef = .int .i64 0:=hd 12 _ _ rfl rfl (by kernel_rfl);exact⟨xi 4 97 rfl rfl (by rw[ao];decide) fg,qnf _ _ _ _ _ rfl _ _ f8 f12 _ rfl (qpn _) ⟨_,rfl,rfl,Below.refl _ _⟩⟩
        | 14,ho,hd =>
         obtain rfl:=osi ho;have fg:a.tmps.getD 97 undef = .bool false:=hd 4 _ _ rfl rfl (by kernel_rfl);exact⟨xi 4 97 rfl rfl (by rw[ao];decide) fg,q3o _ _ rfl _ (af 8 (qu (by kernel_rfl))) _ (ldK (lV.q8 hw)) (Mok.q8 (k:=.cx K1) mW hw)⟩
        | 15,ho,hd =>
         obtain rfl:=osi ho;have fg:a.tmps.getD 97 undef = .bool false:=hd 4 _ _ rfl rfl (by kernel_rfl);exact⟨xi 4 97 rfl rfl (by rw[ao];decide) fg,yi _ (.inl rfl) (by show (.mok (.prs Ps):KP).p (a.tmps.getD 9 undef) w';rw[af 9 (qu (by kernel_rfl))];exact Mok.q8 (k:=.prs Ps) lH hw)⟩
        | 16,ho,hd =>
         obtain rfl:=osi ho;have fg:a.tmps.getD 97 undef = .bool false:=hd 4 _ _ rfl rfl (by kernel_rfl);exact⟨xi 4 97 rfl rfl (by rw[ao];decide) fg,kr _ _ _ rfl ky #[.int .i64 1] (by simp[Act.eval]) (qqy 1 ⟨by decide,by decide⟩ _)⟩
        | 17,ho,hd =>
         obtain rfl:=osi ho;have fg:a.tmps.getD 97 undef = .bool false:=hd 4 _ _ rfl rfl (by kernel_rfl);have f14:(.mok (.cx K1):KP).p (a.tmps.getD 107 undef) w':=hd 14 _ _ rfl rfl (by kernel_rfl);have f15:(.mok (.prs Ps):KP).p (a.tmps.getD 108 undef) w':=hd 15 _ _ rfl rfl (by kernel_rfl);have f16:(.fk (.cf (qw 1 1) 1 1):KP).p (a.tmps.getD 109 undef) w':=hd 16 _ _ rfl rfl (by kernel_rfl);exact⟨xi 4 97 rfl rfl (by rw[ao];decide) fg,kr _ _ _ rfl q36 #[a.tmps.getD 107 undef,a.tmps.getD 108 undef,a.tmps.getD 109 undef] (by simp[Act.eval]) (qq0 _ _ K1 Ps _ f14 hK kU f15 hI hE _ _ f16)⟩
        | 18,ho,hd =>
         obtain rfl:=osi ho;have fg:a.tmps.getD 97 undef = .bool false:=hd 4 _ _ rfl rfl (by kernel_rfl);have f17:(.mok (.ch []):KP).p (a.tmps.getD 110 undef) w':=hd 17 _ _ rfl rfl (by kernel_rfl);exact⟨xi 4 97 rfl rfl (by rw[ao];decide) fg,qjn _ rfl f17 ⟨_,rfl,rfl,Below.refl _ _⟩⟩
        | 19,ho,hd =>
         obtain rfl:=osi ho;have fg:a.tmps.getD 97 undef = .bool false:=hd 4 _ _ rfl rfl (by kernel_rfl);have f13:a.tmps.getD 106 undef = .int .i64 0:=hd 13 _ _ rfl rfl (by kernel_rfl);have f18:a.tmps.getD 111 undef = .int .i64 0:=hd 18 _ _ rfl rfl (by kernel_rfl);exact⟨xi 4 97 rfl rfl (by rw[ao];decide) fg,qnf _ _ _ _ _ rfl _ _ f13 f18 _ rfl (qpn _) ⟨_,rfl,rfl,Below.refl _ _⟩⟩
        | 20,ho,hd =>
         obtain rfl:=osi ho;have fg:a.tmps.getD 97 undef = .bool false:=hd 4 _ _ rfl rfl (by kernel_rfl);have f19:a.tmps.getD 112 undef = .int .i64 0:=hd 19 _ _ rfl rfl (by kernel_rfl);exact⟨xi 4 97 rfl rfl (by rw[ao];decide) fg,qnf _ _ _ _ _ rfl _ _ f19 rfl _ rfl (qbj _ _ _ (.inl rfl)) ⟨_,rfl,rfl,Below.refl _ _⟩⟩
        | 21,ho,hd =>
         obtain rfl:=osi ho;have fg:a.tmps.getD 97 undef = .bool false:=hd 4 _ _ rfl rfl (by kernel_rfl);have f20:a.tmps.getD 113 undef = .bool true:=hd 20 _ _ rfl rfl (by kernel_rfl);exact⟨xi 4 97 rfl rfl (by rw[ao];decide) fg,yi _ (.inl rfl) f20⟩
        | 22,ho,hd =>
         obtain rfl:=osi ho;have fg:a.tmps.getD 114 undef = .bool true:=hd 21 _ _ rfl rfl (by kernel_rfl);exact⟨qn 21 114 rfl rfl (by rw[ao];decide) fg,q3o _ _ rfl _ (af 8 (qu (by kernel_rfl))) _ (ldK (lV.q8 hw)) (Mok.q8 (k:=.cx K1) mW hw)⟩
        | 23,ho,hd =>
         obtain rfl:=osi ho;have fg:a.tmps.getD 114 undef = .bool true:=hd 21 _ _ rfl rfl (by kernel_rfl);exact⟨qn 21 114 rfl rfl (by rw[ao];decide) fg,yi _ (.inl rfl) (by show (.mok (.prs Ps):KP).p (a.tmps.getD 9 undef) w';rw[af 9 (qu (by kernel_rfl))];exact Mok.q8 (k:=.prs Ps) lH hw)⟩
        | 24,ho,hd =>
         obtain rfl:=osi ho;have fg:a.tmps.getD 114 undef = .bool true:=hd 21 _ _ rfl rfl (by kernel_rfl);have f22:(.mok (.cx K1):KP).p (a.tmps.getD 115 undef) w':=hd 22 _ _ rfl rfl (by kernel_rfl);have f23:(.mok (.prs Ps):KP).p (a.tmps.getD 116 undef) w':=hd 23 _ _ rfl rfl (by kernel_rfl);exact⟨qn 21 114 rfl rfl (by rw[ao];decide) fg,kr _ _ _ rfl q1v #[a.tmps.getD 115 undef,a.tmps.getD 116 undef,.int .i64 1] (by simp[Act.eval]) (qqz _ _ K1 Ps _ f22 hK kU f23 hI hE 1 (by decide) (by decide))⟩
        | 25,ho,hd =>
         obtain rfl:=osi ho;have fg:a.tmps.getD 114 undef = .bool true:=hd 21 _ _ rfl rfl (by kernel_rfl);exact⟨qn 21 114 rfl rfl (by rw[ao];decide) fg,qh5 _ _ rfl #[] (by simp) _ (qpt _) ⟨_,rfl,⟨_,rfl,Sl.nil _ _⟩,Below.refl _ _⟩⟩
        | 26,ho,hd =>
         obtain rfl:=osi ho;have fg:a.tmps.getD 114 undef = .bool true:=hd 21 _ _ rfl rfl (by kernel_rfl);have f24:(.mok (.mat 0 0 []):KP).p (a.tmps.getD 117 undef) w':=hd 24 _ _ rfl rfl (by kernel_rfl);have f25:(.mok (.mat 0 0 []):KP).p (a.tmps.getD 118 undef) w':=hd 25 _ _ rfl rfl (by kernel_rfl);exact⟨qn 21 114 rfl rfl (by rw[ao];decide) fg,kr _ _ _ rfl q9l #[a.tmps.getD 117 undef,a.tmps.getD 118 undef] (by simp[Act.eval]) (kEq _ _ 0 0 [] _ f24 f25 (by decide) (by decide) rfl)⟩
        | 27,ho,hd =>
         obtain rfl:=osi ho;have fg:a.tmps.getD 97 undef = .bool false:=hd 4 _ _ rfl rfl (by kernel_rfl);have f21:a.tmps.getD 114 undef = .bool true:=hd 21 _ _ rfl rfl (by kernel_rfl);have f26:a.tmps.getD 119 undef = .bool true:=hd 26 _ _ rfl rfl (by kernel_rfl);exact⟨xi 4 97 rfl rfl (by rw[ao];decide) fg,q84 _ _ _ rfl f21 f26⟩
        | 28,ho,hd =>
         obtain rfl:=osi ho;have fg:a.tmps.getD 94 undef = .bool true:=hd 1 _ _ rfl rfl (by kernel_rfl);have f4:a.tmps.getD 97 undef = .bool false:=hd 4 _ _ rfl rfl (by kernel_rfl);have f27:a.tmps.getD 120 undef = .bool true:=hd 27 _ _ rfl rfl (by kernel_rfl);exact⟨qn 1 94 rfl rfl (by rw[ao];decide) fg,qju _ _ _ rfl f4 f27⟩
        | 29,ho,hd =>
         obtain rfl:=osi ho;have f1:a.tmps.getD 94 undef = .bool true:=hd 1 _ _ rfl rfl (by kernel_rfl);have f28:a.tmps.getD 121 undef = .bool true:=hd 28 _ _ rfl rfl (by kernel_rfl);exact⟨rfl,q84 _ _ _ rfl f1 f28⟩
        | 30,ho,hd =>
         obtain rfl:=osi ho;have f29:a.tmps.getD 122 undef = .bool true:=hd 29 _ _ rfl rfl (by kernel_rfl);exact⟨rfl,yi _ (.inr rfl) f29⟩
        | i+31,ho,hd =>
         have:i+31 < 31:=(gw.1 ho).1;omega
        case done20 =>
         intro a w7 ao kQ hf af hw;have ht:a.tmps.getD 6 undef = .bool true:=hf 30 _ _ rfl rfl;refine jC _ _ (Met.intro (hJ _ _ ⟨a.tmps.getD 6 undef,a.tmps.getD 93 undef,a.tmps.getD 94 undef,a.tmps.getD 95 undef,a.tmps.getD 96 undef,a.tmps.getD 97 undef,a.tmps.getD 98 undef,a.tmps.getD 99 undef,a.tmps.getD 100 undef,a.tmps.getD 101 undef,a.tmps.getD 102 undef,a.tmps.getD 103 undef,a.tmps.getD 104 undef,a.tmps.getD 105 undef,a.tmps.getD 106 undef,a.tmps.getD 107 undef,a.tmps.getD 108 undef,a.tmps.getD 109 undef,a.tmps.getD 110 undef,a.tmps.getD 111 undef,a.tmps.getD 112 undef,a.tmps.getD 113 undef,a.tmps.getD 114 undef,a.tmps.getD 115 undef,a.tmps.getD 116 undef,a.tmps.getD 117 undef,a.tmps.getD 118 undef,a.tmps.getD 119 undef,a.tmps.getD 120 undef,a.tmps.getD 121 undef,a.tmps.getD 122 undef,⟨ht,lhd hw⟩,(q8z ao kQ af).trans ?_⟩));kernel_rfl
       case rest =>
        obtain⟨rfl,HZ⟩:=hcut;go_wp2_with fail;go_ret;have h5:=H4.out.trans (HZ.out.mono H4.out.size);exact⟨rfl,FY.out.trans (h5.mono FY.out.size)⟩
  | succ gk =>
   have oC:k < n20:=by omega
   have aR:k < k1:=by have:=qX.out;omega
   have ey:(k:Int) < k1:=by omega
   have dG:(k:Int) < 20:=by have:=qX.out;omega
   obtain⟨⟨x0,y0⟩,hp⟩ : ∃ p,la[k]? = some p:=⟨_,g8 (by rw[H.out.2.2.1];exact aR)⟩
   obtain⟨_,_,_,y4,y5⟩:=H.out.2.1.open;obtain⟨ad,bI⟩ : ∃ ad,a1=some ad:=by
    cases a1 with
    | none=>have:=y4 rfl;omega
    | some ad=>exact⟨ad,rfl⟩
   subst bI;have vF:Below w.heap.size w wr:=H0.out.2.1.trans (oK.out.mono H0.out.2.1.size);obtain⟨f0,f1⟩:=kv la k _ hp;have d0:wr.cell? (ad.add (k*2))=some (.int .i64 x0):=Cx.q8 vF (y5 ad rfl _ _ f0);have d1:wr.cell? ⟨(ad.add (k*2)).block,(ad.add (k*2)).off+1,none⟩=some (.int .i64 y0):=by rw[qi _ _ _ (by omega)];exact Cx.q8 vF (y5 ad rfl _ _ f1)
   have hxy:=H.out.2.2.2 _ (gd hp);have Ga:=lhd (aiq hxy vF);clear y4 y5 f0 f1 hp hxy vF;go_upto_region 8 with fail;obtain⟨V,hV⟩ : ∃ V,V=wr.alloc (.cells #[.int .i64 x0,.int .i64 y0] 50):=⟨_,rfl⟩
   obtain⟨pb,mC⟩ : ∃ pb,pb=wr.heap.size:=⟨_,rfl⟩
   have aD:Below wr.heap.size wr V:=by rw[hV];exact(Below.refl _ wr).alloc (nlr _) _
   have z0:V.cell? ⟨pb,0,none⟩=some (.int .i64 x0):=by rw[hV,mC];exact qd wr _ _ (0,0) 0
   have z1:V.cell? ⟨pb,1,none⟩=some (.int .i64 y0):=by rw[hV,mC];exact qd wr _ _ (0,0) 1
   have zf:∀ j,V.frozen? ⟨pb,j,none⟩=false:=fun j=>by rw[hV,mC];exact jz (heap_alloc_new wr _) j
   have eF:wr.heap.size<=pb:=by rw[mC];exact nlr _
   rw[<-mC,<-hV];have HV:=lhd (aiq aD (aiq z0 (aiq z1 (aiq zf eF))));clear hV mC aD d0 d1 zf eF;go_wp2_with fail;obtain⟨wo,db⟩ : ∃ wo,wo=wr:=⟨_,rfl⟩
   subst db;go_loopg [33] 2 (fun g2 j wx=>∃ jj:Nat,jj+g2=2/\j = .int .i64 jj/\Hid (∃ b0 b1:Int,I64 b0/\I64 b1/\wx.cell? ⟨pb,0,none⟩=some (.int .i64 b0)/\wx.cell? ⟨pb,1,none⟩=some (.int .i64 b1)/\(∀ j,wx.frozen? ⟨pb,j,none⟩=false))/\Hid (Below wo.heap.size wo wx))
   case atStart=>exact⟨0,rfl,rfl,(show Hid _ from⟨x0,y0,Ga.out.1.1,Ga.out.1.2,HV.out.2.1,HV.out.2.2.1,HV.out.2.2.2.1⟩),(show Hid _ from HV.out.1)⟩
   case round =>
    obtain⟨jj,Pj,rfl,DS,AJ⟩:=hrel;obtain⟨b0,b1,ca,ai,UP,UQ,cf⟩:=DS.out;have aF:=lhd (aiq ca (aiq ai (aiq UP (aiq UQ cf))));clear DS ca ai cf;cases gk with
    | zero =>
     have Lf:jj=2:=by omega
     subst Lf;have hB:=oK.out.trans (AJ.out.mono oK.out.size);have ah:=qa HP.out.2.2 AJ.out;have hz:W0.heap.size<=wr.heap.size:=hB.size;go_wp2_with (at_builtin;go_loud (refine qo (W:=W0) rfl _ _ 48 rfl W0.heap.size 50 jw Tryz.underlying48 rfl (by decide) (by decide) _ _ _ rfl ah [.int .i64 b0,.int .i64 b1] rfl rfl (by intro u hu;simp at hu;rcases hu with rfl | rfl <;> rfl) (by have:=qX.out;omega) hB hz ?_));intro v5 w5 cH _ aT;have F5:=lhd (aiq cH aT);clear cH aT;go_wp2;go_roundg gk
     case measure=>omega
     case rel =>
      refine⟨k+1,by omega,qh (by omega),(show Hid _ from⟨Ps++[(b0,b1)],by rw[gl,HP.out.1];rfl,fun p hp=>?_,?_⟩),(show Hid _ from F5.out.2)⟩
      ·rcases gF.1 hp with h | h
       ·exact HP.out.2.1 p h
       ·have:p=(b0,b1):=by simpa using h
        rw[this];exact⟨aF.out.1,aF.out.2.1⟩
      ·rw[gl,HP.out.1];have:=F5.out.1;rw[show pv (Ps++[(b0,b1)])=pv Ps++[.int .i64 b0,.int .i64 b1] by simp[pv]];exact this
    | succ gj =>
     have Lf:jj < 2:=by omega
     have lu:(jj:Int) < 2:=by omega
     obtain⟨nn,jM⟩ : ∃ nn,nn=(if jj=0 then x0 else y0):=⟨_,rfl⟩
     have xG:I64 nn:=by rw[jM];split;exact Ga.out.1.1;exact Ga.out.1.2
     have Xd:=lhd xG
     go_upto_block 3 with fail
     go_cut [12,13] from 35 to 56 (fun _ _ wx=>Hid (∃ b0 b1:Int,I64 b0/\I64 b1/\wx.cell? ⟨pb,0,none⟩=some (.int .i64 b0)/\wx.cell? ⟨pb,1,none⟩=some (.int .i64 b1)/\(∀ j,wx.frozen? ⟨pb,j,none⟩=false))/\Hid (Below wo.heap.size wo wx))
     case rest =>
      obtain⟨zI,UR⟩:=hcut;go_wp2_with fail;go_roundg gj
      case measure=>omega
      case rel=>exact⟨jj+1,by omega,qh (by omega),zI,UR⟩
     case first =>
     rename_i J K2 hJ jC;go_upto_region 10 with fail
     go_cut [12,13] from 35 to 36 (fun x y wx=>x=Value.int .i64 jj/\y=Value.int .i64 nn/\wx=wr)
     case first =>
      rcases (by omega:jj=0\/jj=1) with rfl | rfl
      ·have mV:nn=x0:=jM;clear jM;subst mV;rw[show ((0:Nat):Int)=0 from rfl];have hv:∀ U:World,(Instr.index 50 (.agg #[.int .i64 nn,.int .i64 y0]) (.int .i64 0)).run Tryz.prog U = .ok (.int .i64 nn) U:=qqo _ _;go_wp2_with fail
       go_meet
       exact⟨rfl,rfl,rfl⟩
      ·have mV:nn=y0:=jM;clear jM;subst mV;rw[show ((1:Nat):Int)=1 from rfl];have hv:∀ U:World,(Instr.index 50 (.agg #[.int .i64 x0,.int .i64 nn]) (.int .i64 1)).run Tryz.prog U = .ok (.int .i64 nn) U:=qqp _ _;go_wp2_with fail
       go_meet
       exact⟨rfl,rfl,rfl⟩
     case rest =>
      obtain⟨rfl,rfl,rfl⟩:=hcut;obtain⟨wr,l6⟩ : ∃ v,v=wc:=⟨_,rfl⟩
      subst l6;clear jM xG;have zK:Below W0.heap.size W0 wr:=oK.out.trans (AJ.out.mono oK.out.size);have cq:=(H0.out.1.q8 zK).1;have zX:=lhd zK;clear zK;go_upto_region 11 with fail
      go_cut [44] from 37 to 43 (fun x wx=>∃ bb:Bool,x=Value.bool bb/\Hid (bb=true->0<=nn/\0 < mn)/\wx=wr)
      case first =>
       by_cases g1:0<=nn
       ·by_cases g2:0 < mn
        ·have g3:(0:Int) < (mn:Int):=by omega
         go_wp2_with fail
         go_meet
         exact⟨true,rfl,lhd (fun _=>⟨g1,g2⟩),rfl⟩
        ·have g3:¬ (0:Int) < (mn:Int):=by omega
         have g4:decide ((0:Int) < (mn:Int))=false:=by simpa using g3
         clear g3;go_wp2_with fail
         go_meet
         exact⟨false,rfl,lhd (fun e=>by cases e),rfl⟩
       ·go_wp2_with fail
        go_meet
        exact⟨false,rfl,lhd (fun e=>by cases e),rfl⟩
      case rest =>
       obtain⟨bb,rfl,FW,rfl⟩:=hcut;obtain⟨wr,l6⟩ : ∃ v,v=wc:=⟨_,rfl⟩
       subst l6;cases bb with
       | false =>
        clear cq;go_wp2_with fail
        go_meet
        exact⟨(show Hid _ from⟨b0,b1,aF.out.1,aF.out.2.1,aF.out.2.2.1,aF.out.2.2.2.1,aF.out.2.2.2.2⟩),AJ⟩
       | true =>
        obtain⟨g1,g2⟩:=FW.out rfl;obtain⟨i0,hi0,tr⟩ : ∃ i:Nat,i < mn/\∀ U,(Go.binOp .rem 3 (.int .i64 nn) (.int .i64 mn)).run Tryz.prog U = .ok (.int .i64 i) U:=qoz nn mn g2 g1 (by omega);have nG:=H0.out.2.2.2;obtain⟨g,Ld,cA,dH,_⟩:=nG.at (by rw[<-HC.out.2.2.2.2.2.2.2];exact g2);subst Ld;obtain⟨x,hx⟩ : ∃ x,m[i0]? = some x:=⟨_,g8 (by rw[<-HC.out.2.2.2.2.2.2.2];exact hi0)⟩
        have e0:wr.cell? ⟨g,i0*3,none⟩=some (.int .i64 x.id):=by
         have:=(Sl.qc nG.1).open.2.2.2.2 ⟨g,0,none⟩ rfl _ _ (zh m i0 x hx).1;rw[qr0] at this;exact Cx.q8 zX.out this
        obtain⟨rN,zL⟩ : ∃ rN,rN=x.id:=⟨_,rfl⟩
        have rE:I64 rN:=by rw[zL];exact q4s HC.out.1 (HC.out.2.2.2.1.1.cok HC.out.1) (by rw[<-HC.out.1,List.map_map];exact gE (f:=fun y:Ce=>y.id) (gd hx))
        rw[<-zL] at e0;obtain⟨bj,xP⟩ : ∃ bj:Int,wr.cell? ⟨pb,jj,none⟩=some (.int .i64 bj):=by
         rcases (by omega:jj=0\/jj=1) with rfl | rfl
         ·exact⟨_,aF.out.2.2.1⟩
         ·exact⟨_,aF.out.2.2.2.1⟩
        have tu:pb < wr.heap.size:=World.block_lt_of_cell? _ _ xP;have HQ:=lhd (aiq e0 (aiq xP (aiq tu (aiq rE tr))));clear e0 xP hx zL rE nG cA dH tr;go_upto_region 12 with fail
        ·obtain⟨e0,xP,tu,rE,tr⟩:=HQ.out;refine qbs rfl (fun i' v=>∀ x',([some (.int .i64 jj),some (.pointer (some ⟨q,0,none⟩)),some (.slice (some ⟨g,0,none⟩) mn uc),some (.int .i64 nn),some (.pointer (some ⟨q,0,none⟩)),some (.slice (some ⟨g,0,none⟩) mn uc),some (.int .i64 mn),some (.int .i64 i0),some (.pointer (some ⟨g,i0*3,none⟩)),some (.pointer (some ⟨g,i0*3,none⟩)),some (.int .i64 rN),some (.pointer (some ⟨pb,jj,none⟩))] : List (Option Value)).getD i' none=some x'->v=x') 12 14 123 rfl (by kernel_rfl) (by kernel_rfl) (by decide) (by kernel_rfl) (by kernel_rfl) (fun a w''=>K2 a w'') ?step ?store (fun a w'' h=>h)
         case step =>
          intro i' o ho ak a w' hw hd af ao
          match i',ho,hd with
          | 0,ho,hd =>
           obtain rfl:=osi ho;exact⟨rfl,gv _,q1b _ (.inl rfl) ⟨_,rfl,fun _ h=>(af 12 (qu (by kernel_rfl))).trans (osi h),Below.refl _ _⟩⟩
          | 1,ho,hd =>
           obtain rfl:=osi ho;exact⟨rfl,gv _,q8b _ _ _ rfl _ (af 8 (qu (by kernel_rfl))) _ (kz _ _) ⟨_,rfl,fun _ h=>osi h,Below.refl _ _⟩⟩
          | 2,ho,hd =>
           obtain rfl:=osi ho;have f1:a.tmps.getD 46 undef = .pointer (some ⟨q,0,none⟩):=hd 1 _ _ rfl rfl (by kernel_rfl) _ rfl;exact⟨rfl,gv _,q8o _ _ rfl _ f1 _ (q60 _ _ _ _ _ (Cx.q8 hw cq)) ⟨_,rfl,fun _ h=>osi h,Below.refl _ _⟩⟩
          | 3,ho,hd =>
           obtain rfl:=osi ho;exact⟨rfl,gv _,q1b _ (.inl rfl) ⟨_,rfl,fun _ h=>(af 13 (qu (by kernel_rfl))).trans (osi h),Below.refl _ _⟩⟩
          | 4,ho,hd =>
           obtain rfl:=osi ho;exact⟨rfl,gv _,q8b _ _ _ rfl _ (af 8 (qu (by kernel_rfl))) _ (kz _ _) ⟨_,rfl,fun _ h=>osi h,Below.refl _ _⟩⟩
          | 5,ho,hd =>
           obtain rfl:=osi ho;have f4:a.tmps.getD 49 undef = .pointer (some ⟨q,0,none⟩):=hd 4 _ _ rfl rfl (by kernel_rfl) _ rfl;exact⟨rfl,gv _,q8o _ _ rfl _ f4 _ (q60 _ _ _ _ _ (Cx.q8 hw cq)) ⟨_,rfl,fun _ h=>osi h,Below.refl _ _⟩⟩
          | 6,ho,hd =>
           obtain rfl:=osi ho;have f5:a.tmps.getD 50 undef = .slice (some ⟨g,0,none⟩) mn uc:=hd 5 _ _ rfl rfl (by kernel_rfl) _ rfl;exact⟨rfl,gv _,qi5 _ rfl Tryz.underlying24 _ mn uc f5 ⟨_,rfl,fun _ h=>osi h,Below.refl _ _⟩⟩
          | 7,ho,hd =>
           obtain rfl:=osi ho;have f3:a.tmps.getD 48 undef = .int .i64 nn:=hd 3 _ _ rfl rfl (by kernel_rfl) _ rfl;have f6:a.tmps.getD 51 undef = .int .i64 mn:=hd 6 _ _ rfl rfl (by kernel_rfl) _ rfl;exact⟨rfl,gv _,qnf _ _ _ _ _ rfl _ _ f3 f6 _ rfl (tr _) ⟨_,rfl,fun _ h=>osi h,Below.refl _ _⟩⟩
          | 8,ho,hd =>
           obtain rfl:=osi ho;have f2:a.tmps.getD 47 undef = .slice (some ⟨g,0,none⟩) mn uc:=hd 2 _ _ rfl rfl (by kernel_rfl) _ rfl;have f7:a.tmps.getD 52 undef = .int .i64 i0:=hd 7 _ _ rfl rfl (by kernel_rfl) _ rfl;exact⟨rfl,gv _,qc9 _ _ _ rfl _ _ f2 f7 _ (q7b _ g mn uc i0 hi0) ⟨_,rfl,fun _ h=>osi h,Below.refl _ _⟩⟩
          | 9,ho,hd =>
           obtain rfl:=osi ho;have f8:a.tmps.getD 53 undef = .pointer (some ⟨g,i0*3,none⟩):=hd 8 _ _ rfl rfl (by kernel_rfl) _ rfl;exact⟨rfl,gv _,q8b _ _ _ rfl _ f8 _ (qbr _ _ _) ⟨_,rfl,fun _ h=>osi h,Below.refl _ _⟩⟩
          | 10,ho,hd =>
           obtain rfl:=osi ho;have f9:a.tmps.getD 54 undef = .pointer (some ⟨g,i0*3,none⟩):=hd 9 _ _ rfl rfl (by kernel_rfl) _ rfl;exact⟨rfl,gv _,q8o _ _ rfl _ f9 _ (qe0 _ _ _ (Cx.q8 hw e0)) ⟨_,rfl,fun _ h=>osi h,Below.refl _ _⟩⟩
          | 11,ho,hd =>
           obtain rfl:=osi ho;have f0:a.tmps.getD 45 undef = .int .i64 jj:=hd 0 _ _ rfl rfl (by kernel_rfl) _ rfl;exact⟨rfl,gv _,qc9 _ _ _ rfl _ _ (af 11 (qu (by kernel_rfl))) f0 _ (qop _ pb jj Lf) ⟨_,rfl,fun _ h=>osi h,Below.refl _ _⟩⟩
          | 12,ho,hd=>exact absurd rfl ak
          | i'+13,ho,hd =>
           have:i'+13 < 13:=(gw.1 ho).1;omega
         case store =>
          intro o ho a w' ao kQ hw hf af;obtain rfl:=osi ho;have f0:a.tmps.getD 56 undef = .pointer (some ⟨pb,jj,none⟩):=hf 11 _ _ rfl rfl _ rfl;have f1:a.tmps.getD 55 undef = .int .i64 rN:=hf 10 _ _ rfl rfl _ rfl;refine⟨rfl,qhx _ _ _ rfl _ _ f0 f1 (qjt _ _ _ _ (Cx.q8 hw xP) (qv hw tu (aF.out.2.2.2.2 jj))) ?_⟩;refine jC _ _ (Met.intro (hJ _ _ ⟨.int .i64 jj,.int .i64 nn,u35,u36,u37,u38,u39,u40,u41,u42,u43,.bool true,a.tmps.getD 45 undef,a.tmps.getD 46 undef,a.tmps.getD 47 undef,a.tmps.getD 48 undef,a.tmps.getD 49 undef,a.tmps.getD 50 undef,a.tmps.getD 51 undef,a.tmps.getD 52 undef,a.tmps.getD 53 undef,a.tmps.getD 54 undef,a.tmps.getD 55 undef,a.tmps.getD 56 undef,?rel,(q8z ao kQ af).trans ?eq⟩))
          case eq=>kernel_rfl
          have vD:=hw;have US:=Cx.q8 vD xP;have Lg:∀ j,(w'.setCell ⟨pb,jj,none⟩ (.int .i64 rN)).frozen? ⟨pb,j,none⟩=false:=fun j=>by
           rw[World.frozen?_setCell];exact qv vD tu (aF.out.2.2.2.2 j)
          have Df:(w'.setCell ⟨pb,jj,none⟩ (.int .i64 rN)).cell? ⟨pb,jj,none⟩=some (.int .i64 rN):=World.cell?_setCell_same' _ _ _ (by rw[US];rfl);refine⟨(show Hid _ from ?_),(show Hid _ from(AJ.out.trans (vD.mono AJ.out.size)).setCell HV.out.2.2.2.2 _)⟩;rcases (by omega:jj=0\/jj=1) with rfl | rfl
          ·exact⟨rN,b1,rE,aF.out.2.1,Df,js (Cx.q8 vD aF.out.2.2.2.1) (by simp),Lg⟩
          ·exact⟨b0,rN,aF.out.1,rE,js (Cx.q8 vD aF.out.2.2.1) (by simp),Df,Lg⟩
end Go.Proofs.YtlhicnfeajejhaaGreatDoor
