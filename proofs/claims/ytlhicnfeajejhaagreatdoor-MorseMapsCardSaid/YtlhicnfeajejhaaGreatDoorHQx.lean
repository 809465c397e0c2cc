/- Steps towards MorseMaps. Conditions: none. -/
import Derived.Test.YtlhicnfeajejhaaGreatDoorHQw
set_option maxRecDepth 1000000
set_option maxHeartbeats 16000000
namespace Go.Cx
open Go.RowKit Go.Proofs.YtlhicnfeajejhaaGreatDoor
variable {K:List Cl} {hi lo:Int->Int}
theorem qtf {f:Int->Int} (h:∀ c,f c≠0->hi c=0):q79 K hi f=(f,zz):=q9e (.done f zz h)
theorem qtg (G:Good K) (M:Mtc K hi lo) {a:Int} (h:hi a≠0):hi (hi a)=0/\lo (hi a)≠0:=by
 have h1:=M.hl a h;have h2:=(G.q3h (M.sg a h)).2.1;refine⟨gD fun e=>?_,by omega⟩;have:=M.no _ e;omega
theorem quu (G:Good K) (M:Mtc K hi lo) (bW:∀ a,¬ yp K hi a) {c:Int} (hc:c∈K.map Cl.id):In0 K (upF K hi c):=fun d hd=>by
 by_cases e:d=c
 ·exact e ▸ hc
 ·obtain⟨f1,_,_⟩:=qg9 G M bW (qcu G c 1);obtain⟨a,rfl,ha⟩:=f1 d fun h=>hd (by unfold upF qw;rw[if_neg e,h];rfl)
  obtain⟨x,hx,_,_,e2,_,_⟩:=G.jm (M.sg a ha);exact e2 ▸ gI hx
theorem down_up (G:Good K) (M:Mtc K hi lo) (bW:∀ a,¬ yp K hi a) {c:Int} (hc:c∈K.map Cl.id) (hp:pdB hi lo c=false):q85 K hi lo (upF K hi c)=qw c 1:=by
 obtain⟨f1,_,_⟩:=qg9 G M bW (qcu G c 1);have hh:∀ d,(q79 K hi (bdD K c 1)).2 d≠0->hi d=0/\lo d≠0:=fun d hd=>by
  obtain⟨a,rfl,ha⟩:=f1 d hd;exact qtg G M ha
 have eS:hi c=0:=by
  unfold pdB at hp;simp at hp;exact hp.1
 refine funext fun d=>?_
 unfold q85;rw[qel (quu G M bW hc),qtf fun d hd=>?_]
 ·by_cases e:d=c
  ·subst e;rw[hp];show upF K hi d d=_;unfold upF;have:(q79 K hi (bdD K d 1)).2 d=0:=gD fun h=>by
    have:=(hh d h).2;unfold pdB at hp;simp at hp;exact this hp.2
   rw[this,bo]
  ·have h0:qw c 1 d=0:=if_neg e;rw[h0];split
   ·rfl
   ·rename_i hn;show qw c 1 d+_=0;rw[h0,Int.zero_add];refine gD fun h=>hn ?_
    have:=(hh d h).2;unfold pdB;simp[this]
 ·by_cases e:d=c
  ·exact e ▸ eS
  ·refine(hh d fun h=>hd ?_).1;unfold upF qw;rw[if_neg e,h];rfl
theorem qrl (G:Good K) (M:Mtc K hi lo) (bW:∀ a,¬ yp K hi a) {f:Int->Int} (hf:In0 K f):∃ g,HiC hi g/\∀ d,(q79 K hi f).1 d=q85 K hi lo f d+g d:=by
 obtain⟨_,_,f3⟩:=qg9 G M bW hf;refine⟨fun d=>if pdB hi lo d then (q79 K hi f).1 d else 0,fun d hd=>?_,fun d=>?_⟩
 ·by_cases h:pdB hi lo d=true
  ·have hd:(q79 K hi f).1 d≠0:=fun e=>hd (by show (if pdB hi lo d then _ else _)=0;rw[if_pos h,e])
   have h0:hi d=0:=gD fun e=>hd (f3 d e)
   have hl:lo d≠0:=fun e=>by unfold pdB at h;rw[h0,e] at h;simp at h
   exact⟨lo d,M.lh d hl,by rw[M.lh d hl];intro e;rw[e,M.lz] at hl;exact hl rfl⟩
  ·exact absurd (if_neg h) hd
 ·unfold q85;rw[qel hf];show _=(if pdB hi lo d then 0 else _)+(if pdB hi lo d then _ else 0)
  by_cases h:pdB hi lo d=true
  ·rw[if_pos h,if_pos h];omega
  ·rw[if_neg h,if_neg h];omega
theorem qrm (G:Good K) (M:Mtc K hi lo) (bW:∀ a,¬ yp K hi a) {f:Int->Int} (hf:In0 K f) {e:Int} (hd:q86 K e f) {d:Int} (h:q85 K hi lo f d≠0):d∈q27 K hi lo e:=by
 unfold q85 at h;rw[qel hf] at h;split at h
 ·exact absurd rfl h
 ·rename_i hp;obtain⟨n,k⟩:=q9f G M bW hf;exact(qiu G).2 ⟨(qls G M k hd (fun d hd=>absurd rfl hd)).1 d h,by simpa using hp⟩
theorem qsk {A:Int->Int} {L:List Int} (hL:L.Nodup) (h:∀ d,A d≠0->d∈L):(fun r=>q1q A r K)=fun r=>sL L fun a=>A a*bdD K a 1 r:=by
 have X0:(fun d=>sL L fun a=>A a*qw a 1 d)=A:=funext fun d=>by
  rw[qpt A d hL];by_cases hm:d∈L
  ·rw[if_pos hm]
  ·rw[if_neg hm];exact(gD fun e=>hm (h d fun e2=>e e2.symm))
 funext r
 rw[<-qsj,X0]
theorem qml (G:Good K) (e:Int):(q27 K hi lo e).Nodup:=List.Pairwise.imp (fun h e=>by omega) (qp5 G e)
theorem qu8 (G:Good K) (M:Mtc K hi lo) (bW:∀ a,¬ yp K hi a) (hbb:∀ f r,q1q (fun d=>q1q f d K) r K=0) {x:Int->Int} (hx:In0 K x) {e:Int} (hd:q86 K e x) (r:Int) :
  q85 K hi lo (fun r=>q1q x r K) r=sL (q27 K hi lo e) fun a=>q85 K hi lo x a*q85 K hi lo (bdD K a 1) r:=by
 have hk:∀ a,q1m K (bdD K a 1)=bdD K a 1:=fun a=>qel (qcu G a 1)
 by_cases hp:pdB hi lo r=true
 ·have:(fun a=>q85 K hi lo x a*q85 K hi lo (bdD K a 1) r)=fun a=>0*qw a 1 r:=funext fun a=>by
   have:q85 K hi lo (bdD K a 1) r=0:=by unfold q85;rw[if_pos hp]
   rw[this];simp
  rw[this,qpt (fun _=>0) r (qml G e)];unfold q85;rw[if_pos hp];split <;> rfl
 obtain⟨g,hg,hs⟩:=qrl G M bW hx;obtain⟨f1,f2,f3⟩:=qg9 G M bW hx;obtain⟨A,hA⟩ : ∃ A,A=q85 K hi lo x:=⟨_,rfl⟩
 have IM:∀ d,A d≠0->d∈q27 K hi lo e:=fun d h=>qrm G M bW hx hd (hA ▸ h)
 rw[<-hA] at hs ⊢;have e1:(fun r=>q1q x r K)=fun r=>1*q1q A r K+1*q1q g r K:=funext fun r=>by
  have h1:q1q (q79 K hi x).1 r K=q1q x r K:=by
   rw[show (q79 K hi x).1=fun d=>x d+q1q (q79 K hi x).2 d K from funext f2,q70 x,hbb,bo]
  have h2:q1q (q79 K hi x).1 r K=q1q A r K+q1q g r K:=by
   rw[show (q79 K hi x).1=fun d=>A d+g d from funext hs,q70 A]
  omega
 unfold q85;rw[if_neg hp,e1];have i1:In0 K fun r=>q1q A r K:=qta G A
 have i2:In0 K fun r=>q1q g r K:=qta G g
 have e2:(fun r=>1*q1q A r K+1*q1q g r K)=fun r=>(fun r=>1*(fun r=>q1q A r K) r+1*(fun r=>q1q g r K) r) r:=rfl
 rw[qel (by rw[e2];exact i1.lin i2 1 1),qsh G M bW i1 i2,qsi G M bW hg i2];show 1*(q79 K hi fun r=>q1q A r K).1 r+1*0=_;rw[Int.one_mul,Int.mul_zero,bo,qsk (qml G e) IM,(qtb G M bW A (q27 K hi lo e)).2 r];refine congrArg (sL _) (funext fun a=>?_);rw[if_neg hp,hk]
theorem qqy {L:List Int} {f g:Int->Int} (h:∀ a∈L,f a=g a):sL L f=sL L g:=by
 unfold sL;rw[List.map_congr_left h]
theorem qrt (f g:Int->Int):∀ L:List Int,sL L (fun a=>f a+g a)=sL L f+sL L g
 | []=>rfl
 | a :: L=>by rw[qlk,qlk,qlk,qrt f g L];omega
theorem qs4 (A:Int->Int) (q:Int->Int->Int) (r:Int):∀ L:List Int,q1q (fun d=>sL L fun a=>A a*q a d) r K=sL L fun a=>A a*q1q (q a) r K
 | []=>qqv r K
 | a :: L=>by
  have h1:(fun d=>sL (a :: L) fun a=>A a*q a d)=fun d=>A a*q a d+sL L fun a=>A a*q a d:=funext fun d=>qlk _ _ _
  rw[h1,q70 (fun d=>A a*q a d),qd1,qs4 A q r L,qlk]
theorem qth (A:Int->Int) (q:Int->Int->Int) (h:∀ a,HiC hi (q a)):∀ L:List Int,HiC hi fun d=>sL L fun a=>A a*q a d
 | []=>fun d hd=>absurd rfl hd
 | a :: L=>by
  have h1:(fun d=>sL (a :: L) fun a=>A a*q a d)=fun d=>A a*q a d+1*sL L fun a=>A a*q a d:=funext fun d=>by rw[qlk,Int.one_mul]
  rw[h1];exact(h a).lin (qth A q h L) (A a) 1
theorem quv (G:Good K) (M:Mtc K hi lo) (bW:∀ a,¬ yp K hi a) (hbb:∀ f r,q1q (fun d=>q1q f d K) r K=0) {c e:Int} (hc:∃ y∈K,y.id=c/\y.dim=e+1) (r:Int) :
  q1q (upF K hi c) r K=sL (q27 K hi lo e) fun a=>q85 K hi lo (bdD K c 1) a*upF K hi a r:=by
 obtain⟨g,hg,hs⟩:=qrl G M bW (qcu G c 1);obtain⟨f1,f2,f3⟩:=qg9 G M bW (qcu G c 1);obtain⟨A,hA⟩ : ∃ A,A=q85 K hi lo (bdD K c 1):=⟨_,rfl⟩
 have IM:∀ d,A d≠0->d∈q27 K hi lo e:=fun d h=>qrc G M bW hc (hA ▸ h)
 rw[<-hA] at hs ⊢;have hY:∀ r,q1q (upF K hi c) r K=(q79 K hi (bdD K c 1)).1 r:=fun r=>by
  rw[f2 r,show bdD K c 1 r=q1q (qw c 1) r K from q5f _ _ _];exact q70 (qw c 1) _ r K
 have X1:∀ r,q1q (q79 K hi (bdD K c 1)).1 r K=0:=fun r=>by
  rw[show (q79 K hi (bdD K c 1)).1=fun d=>q1q (upF K hi c) d K from funext fun d=>(hY d).symm,hbb]
 obtain⟨H,hH⟩ : ∃ H,H=fun r=>sL (q27 K hi lo e) fun a=>A a*(q79 K hi (bdD K a 1)).2 r:=⟨_,rfl⟩
 have X2:HiC hi H:=by
  rw[hH];exact qth A (fun a=>(q79 K hi (bdD K a 1)).2) (fun a=>(qg9 G M bW (qcu G a 1)).1) _
 have X3:∀ r,q1q A r K=sL (q27 K hi lo e) fun a=>A a*bdD K a 1 r:=fun r=>congrFun (qsk (qml G e) IM) r
 have hz:∀ d,(fun d=>1*g d+(-1)*H d) d=0:=lin G M bW (h:=fun d=>1*g d+(-1)*H d) (hg.lin X2 1 (-1)) fun b hb=>by
  rw[q70 (fun d=>1*g d),qd1,qd1];have e1:q1q A b K+q1q g b K=0:=by
   rw[<-X1 b,show (q79 K hi (bdD K c 1)).1=fun d=>A d+g d from funext hs,q70 A]
  have e2:q1q H b K+q1q A b K=0:=by
   rw[hH,qs4 A (fun a=>(q79 K hi (bdD K a 1)).2),X3,<-qrt];rw[qqy (g:=fun a=>0*qw a 1 b) fun a _=>?_,qpt (fun _=>0) b (qml G e)]
   ·split <;> rfl
   ·obtain⟨_,g2,g3⟩:=qg9 G M bW (qcu G a 1);have h1:=g2 b;rw[g3 b hb] at h1;rw[<-Int.mul_add,show q1q (q79 K hi (bdD K a 1)).2 b K+bdD K a 1 b=0 by omega];simp
  omega
 rw[hY,hs];have h1:(fun a=>A a*upF K hi a r)=fun a=>A a*qw a 1 r+A a*(q79 K hi (bdD K a 1)).2 r:=funext fun a=>by unfold upF;rw[Int.mul_add]
 rw[h1,qrt,qpt A r (qml G e)];have h2:sL (q27 K hi lo e) (fun a=>A a*(q79 K hi (bdD K a 1)).2 r)=H r:=by rw[hH]
 rw[h2];have h3:=hz r;simp only at h3;have h4:(if r∈q27 K hi lo e then A r else 0)=A r:=by
  by_cases hm:r∈q27 K hi lo e
  ·rw[if_pos hm]
  ·rw[if_neg hm];exact(gD fun e=>hm (IM r fun e2=>e e2.symm))
 omega
end Go.Cx
namespace Go.Proofs.YtlhicnfeajejhaaGreatDoor
open Go.RowKit Go.Cx
attribute [local go_sem ↓] Go.wp_at_zero Go.wp_at_succ
theorem mAt (r c i j:Nat) (v:Value) (A:List Int) (w:World) (h:Sl w 2 v (wvs A)) (hr:r<=200) (hc:c<=200) (hA:A.length=r*c) (hi:i < r) (hj:j < c) :
  Calls Tryz.prog 61 #[.agg #[.int .i64 r,.int .i64 c,v],.int .i64 i,.int .i64 j] w fun e w'=>e = .returned (wv (A.getD (i*c+j) 0))/\Below w.heap.size w w':=by
 have GX:r*c<=40000:=gl (Nat.mul_le_mul hr hc) (by decide);obtain⟨a,n,cap,rfl⟩:=qg h;obtain⟨Fg,eJ,iu,h4,h5⟩:=h.open;rw[qr4] at iu;have hn:A.length=n:=by omega
 unfold maxLen at eJ;obtain⟨ic,Ge⟩ : ∃ x,x=i*c:=⟨_,rfl⟩
 obtain⟨t,ht⟩ : ∃ x,x=ic+j:=⟨_,rfl⟩
 have Sg:t < n:=by
  rw[<-hn,hA,ht,Ge];have:(i+1)*c<=r*c:=bE c hi;rw[Nat.add_mul,Nat.one_mul] at this;omega
 have rC:IntKind.i64.wrap ((i:Int)*(c:Int))=(ic:Int):=by
  rw[Ge,Int.natCast_mul];exact IntWalk.i64_in _ (by rw[<-Int.natCast_mul,<-Ge];omega)
 have ig:IntKind.i64.wrap ((ic:Int)+(j:Int))=(t:Int):=by rw[ht,Int.natCast_add];exact IntWalk.i64_in _ (by omega)
 have Hr:(t:Int) < n:=by omega
 obtain⟨x,hx⟩ : ∃ y,A[t]? = some y:=⟨_,g8 (by rw[hn];exact Sg)⟩
 have hg:A.getD (i*c+j) 0=x:=by rw[<-Ge,<-ht,gF,hx];rfl
 obtain⟨ad,aX⟩ : ∃ ad,a=some ad:=by
  cases a with
  | none=>have:=h4 rfl;omega
  | some ad=>exact⟨ad,rfl⟩
 subst aX;obtain⟨e0,e1⟩:=qrq A t x hx;have d0:=h5 ad rfl _ _ e0;have d1:w.cell? ⟨(ad.add (t*2)).block,(ad.add (t*2)).off+1,none⟩=some (.string (mg x)):=by rw[qi _ _ _ (by omega)];exact h5 ad rfl _ _ e1
 rw[hg];have hi0:¬ ((i:Int) < 0):=by omega
 have hj0:¬ ((j:Int) < 0):=by omega
 have ZK:(i:Int) < r:=by omega
 have ZL:(j:Int) < c:=by omega
 have HH:=lhd (aiq h (aiq hA (aiq d0 d1)));clear h hA Ge ht Sg hx hg e0 e1 h4 h5 iu hn d0 d1;go_enter Tryz.func61,Tryz.ntmps61;go_wp2_with fail;obtain⟨W,hW⟩ : ∃ W:World,W=(w.alloc (.cells #[.int .i64 r,.int .i64 c,.slice (some ad) n cap] 44)).alloc (.cells #[.bool false,.string ⟨#[]⟩] 38):=⟨_,rfl⟩
 rw[<-hW];have hw:Below w.heap.size w W:=by rw[hW];exact((Below.refl _ _).alloc (nlr _) _).alloc (by simp) _
 have az:W.heap.size=w.heap.size+2:=by rw[hW];simp
 have q0:W.cell? ⟨w.heap.size,0,none⟩=some (.int .i64 r):=by rw[hW];simp
 have q1:W.cell? ⟨w.heap.size,1,none⟩=some (.int .i64 c):=by rw[hW];simp
 have q2:W.cell? ⟨w.heap.size,2,none⟩=some (.slice (some ad) n cap):=by rw[hW];simp
 have z0:W.cell? ⟨w.heap.size+1,0,none⟩=some (.bool false):=by rw[hW];simp
 have z1:W.cell? ⟨w.heap.size+1,1,none⟩=some (.string ⟨#[]⟩):=by rw[hW];simp
 have y0:W.frozen? ⟨w.heap.size+1,0,none⟩=false:=by rw[hW];simp
 have y1:W.frozen? ⟨w.heap.size+1,1,none⟩=false:=by rw[hW];simp
 have HW:=lhd (aiq hw az);clear hW hw az;refine(qhl r c _ A _ (HH.out.1.q8 HW.out.1) hr hc HH.out.2.1).mono ?_;rintro e w1 ⟨rfl,aj⟩
 replace q0:=Cx.q8 aj q0
 replace q1:=Cx.q8 aj q1
 replace q2:=Cx.q8 aj q2
 replace z0:=Cx.q8 aj z0
 replace z1:=Cx.q8 aj z1
 replace y0:=qv aj (by rw[HW.out.2];show w.heap.size+1 < _;omega) y0
 replace y1:=qv aj (by rw[HW.out.2];show w.heap.size+1 < _;omega) y1
 have ak:Below w.heap.size w w1:=HW.out.1.trans (aj.mono HW.out.1.size);have d0:=Cx.q8 ak HH.out.2.2.1;have d1:=Cx.q8 ak HH.out.2.2.2;have HB:=lhd ak;clear aj ak;go_wp2_with fail;have f0:∀ (x y:Value),((w1.setCell ⟨w.heap.size+1,0,none⟩ x).setCell ⟨w.heap.size+1,1,none⟩ y).cell? ⟨w.heap.size+1,0,none⟩=some x:=fun x y =>
  xi (World.cell?_setCell_same' _ _ _ (by rw[z0];rfl)) (by simp)
 have f1:∀ (x y:Value),((w1.setCell ⟨w.heap.size+1,0,none⟩ x).setCell ⟨w.heap.size+1,1,none⟩ y).cell? ⟨w.heap.size+1,1,none⟩=some y:=fun x y =>
  World.cell?_setCell_same' _ _ _ (by rw[xi z1 (by simp)];rfl)
 refine bodyPost_ret (v:=.agg #[.bool (decide (x < 0)),.string (mg x)]) (by simp[results,Tryz.results61,go_sem,f0,f1]) rfl ⟨rfl,((HB.out.setCell (by simp) _).setCell (by simp) _)⟩
def qqz (low A:List Int) (n j k:Nat):List (Int×Int):=(List.range k).map fun i=>(low.getD i 0,A.getD (i*n+j) 0)
theorem qrn (low A:List Int) (n j k:Nat):qqz low A n j (k+1)=qqz low A n j k++[(low.getD k 0,A.getD (k*n+j) 0)]:=by
 unfold qqz;rw[bp,bm];rfl
theorem qs5 (low A:List Int) (n j k:Nat):(qqz low A n j k).length=k:=by unfold qqz;rw[gn,List.length_range]
theorem qti (pl pm r n j:Nat) (v u:Value) (low A:List Int) (w:World) (hl:w.cell? ⟨pl,0,none⟩=some v) (hv:Sl w 1 v (ints low)) (m0:w.cell? ⟨pm,0,none⟩=some (.int .i64 r)) (m1:w.cell? ⟨pm,1,none⟩=some (.int .i64 n)) (m2:w.cell? ⟨pm,2,none⟩=some u) (hu:Sl w 2 u (wvs A)) (Ct:low.length=r) (hr:r<=200) (hn:n<=200) (hA:A.length=r*n) (hj:j < n) :
  Calls Tryz.prog 60 #[.int .i64 j,.pointer (some ⟨pl,0,none⟩),.pointer (some ⟨pm,0,none⟩)] w fun e w'=>∃ x,e = .returned x/\w'.ownsRow w.heap.size 71 3 x r (tv (ctm (qqz low A n j r)))/\Below w.heap.size w w':=by
 obtain⟨a,k0,cap,rfl⟩:=qg hv;obtain⟨ua,un,uc,rfl⟩:=qg hu;obtain⟨rf,eJ,iu,h4,h5⟩:=hv.open;rw[xl] at iu;unfold maxLen at eJ;have hk:k0=r:=by omega
 subst hk;have HH:=lhd (aiq hu (aiq hA (aiq Ct (aiq h4 (aiq h5 (aiq hl (aiq m0 (aiq m1 m2))))))));clear hu hA Ct h4 h5 m0 m1 m2 hv iu;go_enter Tryz.func60,Tryz.ntmps60;go_wp2_with fail;go_loopw [5,10] (fun o i wr=>∃ k:Nat,i = .int .i64 k/\k<=k0/\Hid (wr.ownsRow w.heap.size 71 3 o k (tv (ctm (qqz low A n j k)))/\Below w.heap.size w wr)) (fun _ i _=>k0 - (vI i).toNat)
 case atStart=>exact⟨0,rfl,gp _,(show Hid _ from⟨World.ownsRow_nil _ _ _ _,Below.refl _ _⟩)⟩
 case round =>
  obtain⟨k,rfl,hk,HI⟩:=hrel;by_cases hlt:k < k0
  ·obtain⟨ad,rfl⟩ : ∃ ad,a=some ad:=by
    cases a with
    | none=>have:=HH.out.2.2.2.1 rfl;omega
    | some ad=>exact⟨ad,rfl⟩
   obtain⟨id,hid⟩ : ∃ id,low[k]? = some id:=⟨_,g8 (by rw[HH.out.2.2.1];exact hlt)⟩
   have jL:low.getD k 0=id:=by rw[gF,hid];rfl
   have hB:=HI.out.2;have d0:wr.cell? (ad.add k)=some (.int .i64 id):=Cx.q8 hB (HH.out.2.2.2.2.1 ad rfl _ _ (by simp[ints,hid]));have g0:=Cx.q8 hB HH.out.2.2.2.2.2.2.1;have g1:=Cx.q8 hB HH.out.2.2.2.2.2.2.2.1;have g2:=Cx.q8 hB HH.out.2.2.2.2.2.2.2.2;have me:(k:Int) < k0:=by omega
   have HG:=lhd (aiq jL hB);clear hid jL hB;go_wp2_with fail;refine(mAt k0 n k j _ A wr (HH.out.1.q8 HG.out.2) hr hn HH.out.2.1 hlt hj).mono ?_;rintro e w1 ⟨rfl,aj⟩;obtain⟨x,hx⟩ : ∃ x,x=A.getD (k*n+j) 0:=⟨_,rfl⟩
   rw[<-hx];have ak:Below w.heap.size w w1:=HG.out.2.trans (aj.mono HG.out.2.size);have ag:=qa HI.out.1 aj;have H1:=lhd (aiq hx (aiq ak ag));clear aj hx ak ag d0 g0 g1 g2;go_wp2_with (at_builtin;refine qo (W:=w) rfl _ _ 32 rfl w.heap.size 71 Tryz.xm Tryz.underlying32 rfl (by decide) (by decide) _ _ _ rfl H1.out.2.2 [.int .i64 id,.bool (decide (x < 0)),.string (mg x)] rfl rfl ?bp1 ?bp2 H1.out.2.1 ?bp3 ?_)
   case bp1=>intro u hu;simp at hu;rcases hu with rfl | rfl | rfl <;> rfl
   case bp2=>omega
   case bp3=>exact H1.out.2.1.size
   intro v3 w3 da _ aA;have H3:=lhd (aiq da aA);clear da aA;go_wp2;go_roundw
   case measure=>simp[vI];omega
   case rel =>
    refine⟨k+1,qh (by omega),by omega,(show Hid _ from⟨?_,H3.out.2⟩)⟩;rw[qrn,xj,xp,HG.out.1,<-H1.out.1];exact H3.out.1
  ·have nC:k=k0:=by omega
   subst nC;go_wp2;go_ret;exact⟨_,rfl,HI.out.1,HI.out.2⟩
end Go.Proofs.YtlhicnfeajejhaaGreatDoor
namespace Go.Proofs.YtlhicnfeajejhaaGreatDoor
open Go.RowKit Go.Cx
structure KP where
 p:Value->World->Prop
 q8:∀ v w w',p v w->Below w.heap.size w w'->p v w'
def KP.any:KP:=⟨fun _ _=>True,fun _ _ _ _ _=>trivial⟩
def KP.val (x:Value):KP:=⟨fun v _=>v=x,fun _ _ _ h _=>h⟩
def KP.mok (k:Mok):KP:=⟨k.holds,fun _ _ _ h hb=>Mok.q8 h hb⟩
def KP.fk (k:Fk):KP:=⟨k.holds,fun _ _ _ h hb=>Fk.q8 h hb⟩
section
variable {P:Program} {Q:Exit->Act->World->Prop} {o:Oper} {a:Act} {w:World} {k:KP}
def Stk (P:Program) (Q:Exit->Act->World->Prop) (k:KP) (o:Oper) (a:Act) (w:World):Prop:=Oper.wp P o a w (fun a' w''=>∃ v,a'=a.put o.dst v/\k.p v w''/\Below w.heap.size w w'') Q
theorem q7b (x:Operand) (bN:o.op = .move x\/o.op = .assign x) (h:k.p (a.eval x) w):Stk P Q k o a w:=q1b x bN ⟨_,rfl,h,Below.refl _ _⟩
theorem qu9 (x:Operand) (b:Bool) (bN:o.op = .unOp .not 4 x) (hc:a.eval x = .bool b):Stk P Q (.val (.bool !b)) o a w :=
 qtw .not _ x bN _ hc _ rfl ⟨_,rfl,rfl,Below.refl _ _⟩
theorem qh1 (f:Nat) (xs:Array Operand) (ts:Array TypeId) (bN:o.op = .call { callee:=.value (.func f),args:=xs,argTypes:=ts }) (ef:∀ args w,(callFunc f args).run P w = .ok (.enter f args) w)
  (vs:Array Value) (hv:xs.map a.eval=vs) (h:Calls P f vs w fun e w'=>∃ r,e = .returned r/\k.p r w'/\Below w.heap.size w w'):Stk P Q k o a w :=
 qdj f xs ts bN ef vs hv (h.mono fun _ _ ⟨r,he,hk,hb⟩=>⟨r,he,r,rfl,hk,hb⟩)
theorem qst (x:Operand) (f:Nat) (cb:Array Value) (xs:Array Operand) (ts:Array TypeId) (bN:o.op = .call { callee:=.value x,args:=xs,argTypes:=ts }) (ef:∀ args w,(callFunc f args).run P w = .ok (.enter f args) w)
  (hx:a.eval x = .func (.func f) #[] cb) (vs:Array Value) (hv:xs.map a.eval=vs) (h:Calls P f (vs++cb) w fun e w'=>∃ r,e = .returned r/\k.p r w'/\Below w.heap.size w w'):Stk P Q k o a w :=
 qsw x f cb xs ts bN ef hx vs hv (h.mono fun _ _ ⟨r,he,hk,hb⟩=>⟨r,he,r,rfl,hk,hb⟩)
theorem qq5 (t:Nat) (x:Operand) (bN:o.op = .load t x) (v1:Value) (h1:a.eval x=v1) (v:Value) (cy:(Instr.loadAt t v1).run P w = .ok v w) (h:k.p v w):Stk P Q k o a w:=q8o t x bN v1 h1 v cy ⟨_,rfl,h,Below.refl _ _⟩
end
theorem que {L:List (Int×Int)} {v:Value} {w:World} {S:Nat} (h:(Mok.ch L).holds v w) (hC:Cn L) (hS:LOk S L):(Fk.cf (co L) L.length S).holds v w:=⟨L,hC,fun _=>rfl,nlr _,hS.tok,h⟩
theorem quf (v u:Value) (f g k:Int->Int) (N S N' S' M T:Nat) (w:World) (h:(Fk.cf f N S).holds v w) (h':(Fk.cf g N' S').holds u w) (hM:N+N'<=M) (hT:S+1<=T) (ZM:S'+1<=T) (hb:T+M<=1000000) (hk:∀ c,f c+g c=k c) :
  Calls Tryz.prog 63 #[v,u] w (qaj (.cf k M T) w):=by
 have n1:=qub h;have n2:=qub h';have i1:=qsx h;have i2:=qsx h';obtain⟨L,h1,h2,h3,h4,h5⟩:=h;obtain⟨L',k1,k2,k3,k4,k5⟩:=h';have hc:=qup v u (ctm L) (ctm L') T w h5 k5 (h4.mono (by omega)) (k4.mono (by omega)) (by rw[qz,qz];omega);have he:∀ c,co (prs (ctm L)) c+co (prs (ctm L')) c=k c:=fun c=>by rw[zv,zv,h2,k2,hk]
 obtain rfl:(fun c=>co (prs (ctm L)) c+co (prs (ctm L')) c)=k:=funext he;rw[qz,qz] at hc;refine(qhx (S:=T) hc (fun c=>?_) fun c hc=>?_).mono fun e w' ⟨r,Dr,hr,jM⟩=>⟨r,Dr,qko hr (fun _=>rfl) (by omega) (nlr _),jM⟩
 ·rw[he,<-hk];have:=qbn (f c) (g c);have:=n1 c;have:=n2 c;omega
 ·rw[he,<-hk] at hc;by_cases e:f c=0
  ·exact i2 c fun e2=>hc (by rw[e,e2];rfl)
  ·exact i1 c e
theorem qsl (z:Int) (v:Value) (C:List (Int×Int)) (f:Int->Int) (S N T:Nat) (w:World) (h:Sl w 3 v (tv (ctm C))) (hC:TOk S (ctm C)) (hz:nb z<=S) (hN:C.length<=N) (hT:2*S+N<=T) (hb:T+N<=1000000) (hf:∀ c,z*co C c=f c) :
  Calls Tryz.prog 64 #[wv z,v] w (qaj (.cf f N T) w):=by
 have hc:=qtu (decide (z < 0)) (mg z) v (ctm C) S w h hC (by rw[j5];exact hz) (by rw[qz];omega);rw[q0i,zv] at hc;obtain rfl:(fun c=>z*co C c)=f:=funext hf;rw[qz] at hc;refine(qhx (S:=T) hc (fun c=>?_) fun c hc=>?_).mono fun e w' ⟨r,Dr,hr,jM⟩=>⟨r,Dr,qko hr (fun _=>rfl) hN (nlr _),jM⟩
 ·have h1:=q39 z (co C c);have h2:=q0y S C (fun p hp=>by
   have:=(hC _ (go.2 ⟨p,hp,rfl⟩)).2.2
   rwa [j5] at this) c
  show nb (z*co C c)<=T;omega
 ·have:=qsf hC c;rw[zv] at this;exact this fun e=>hc (by show z*co C c=0;rw[e,Int.mul_zero])
theorem qtj (z:Int) (v:Value) (g f:Int->Int) (N S M T:Nat) (w:World) (h:(Fk.cf g N S).holds v w) (hz:nb z<=S) (hN:N<=M) (hT:2*S+M<=T) (hb:T+M<=1000000) (hf:∀ c,z*g c=f c) :
  Calls Tryz.prog 64 #[wv z,v] w (qaj (.cf f M T) w):=by
 obtain⟨L,h1,h2,h3,h4,h5⟩:=h;exact qsl z v L f S M T w h5 h4 hz (by omega) hT hb fun c=>by rw[h2];exact hf c
theorem qru (v u:Value) (f:Int->Int) (N S N' S':Nat) (w:World) (h:(Fk.cf f N S).holds v w) (k:(Fk.cf f N' S').holds u w) (hb:S+N<=1000000) (jM:S'+N'<=1000000):Calls Tryz.prog 65 #[v,u] w fun e w'=>∃ r,e = .returned r/\r = .bool true/\Below w.heap.size w w':=by
 obtain⟨L,h1,h2,h3,h4,h5⟩:=h;obtain⟨M,k1,k2,k3,k4,k5⟩:=k;refine(qtt v u (ctm L) (ctm M) (max S S') w h5 k5 (h4.mono (Nat.le_max_left _ _)) (k4.mono (Nat.le_max_right _ _)) (by rw[qz];omega) (by rw[qz];omega)).mono ?_;rintro e w' ⟨q,rfl,hq,hb⟩;refine⟨_,rfl,congrArg Value.bool (hq.2 fun c=>?_),hb⟩;rw[zv,zv,h2,k2]
theorem qs6 {K:List Cl} {L:List (Int×Int)} (hN:Cn L) (h:∀ d,co L d≠0->d∈K.map Cl.id):L.length<=K.length:=by
 have l5:(L.map Prod.fst).Nodup:=List.pairwise_map.2 (hN.1.imp fun h e=>by omega);have:=qeh (U:=K.map Cl.id) l5 fun b hb=>by
  obtain⟨p,hp,rfl⟩:=go.1 hb;exact h _ (by rw[zl hN.1 hp];exact hN.2 p hp)
 rwa [gn,gn] at this
theorem qtk {K:List Cl} (hK:KOk K) (hl:K.length<=180) {L:List (Int×Int)} {r:Value} {w':World} {S:Nat} (hN:Cn L) (hr:Sl w' 3 r (tv (ctm L))) (cO:∀ d,co L d≠0->d∈K.map Cl.id) (fX:∀ d,nb (co L d)<=S):(Fk.cf (co L) 180 S).holds r w':=by
 have eJ:∀ p∈L,co L p.1≠0:=fun p Gg=>by rw[zl hN.1 Gg];exact hN.2 p Gg
 have hL:LOk S L:=fun p Gg=>by
  obtain⟨y,hy,nD⟩:=go.1 (cO _ (eJ p Gg));refine⟨nD ▸ (hK y hy).1.1,?_⟩;have:=fX p.1
  rwa [zl hN.1 Gg] at this
 exact qko (que hr hN hL) (fun _=>rfl) (gl (qs6 hN cO) hl) (nlr _)
section
variable (v u:Value) (K:List Cl) (m:List (Int×Int)) (w:World) (h:(Mok.cx K).holds v w) (hK:KOk K) (hl:K.length<=180) (G:Cx.Good K) (k:(Mok.prs m).holds u w) (hp:∀ p∈m,I64 p.1/\I64 p.2)
include h hK hl G k hp
theorem qsb (c:Value) (f:Int->Int) (N S T:Nat) (hc:(Fk.cf f N S).holds c w) (hT:S+N+4003<=T) (hb:T<=1000000):Calls Tryz.prog 51 #[v,u,c] w (qaj (.cf (q4t K m f) 180 T) w):=by
 obtain⟨L,h1,h2,h3,h4,h5⟩:=hc;obtain⟨x,l,rfl,e1,e2⟩:=h;have bH:l.length<=1000:=by rw[<-e2,gn] at hl;omega
 refine(qm0 x u l m w e1 (by omega) (hK.cok e2) k hp c (ctm L) S h5 h4 (by rw[qz];omega)).mono ?_;rintro e w' ⟨r,M,rfl,hN,et,hr,cO,fX,hb⟩;rw[e2,zv,show co L=f from funext h2] at et;rw[e2,G.cells.1] at cO;rw[qz] at fX;have:=qtk hK hl hN (Sl.qc hr) cO (S:=T) fun d=>gl (fX d) (by omega)
 rw[et] at this;exact⟨r,rfl,this,hb⟩
theorem quw (c:Int) (hc:I64 c):Calls Tryz.prog 46 #[v,u,.int .i64 c] w (qaj (.cf (upX K m c) 180 5000) w):=by
 obtain⟨x,l,rfl,e1,e2⟩:=h;have bH:l.length<=1000:=by rw[<-e2,gn] at hl;omega
 refine(qpf x u l m w e1 (by omega) (hK.cok e2) k hp c hc).mono ?_;rintro e w' ⟨r,M,rfl,hN,et,hr,cO,fX,hb⟩;rw[e2] at et cO;rw[G.cells.1] at cO;have:=qtk hK hl hN (Sl.qc hr) cO fX;rw[et] at this;exact⟨r,rfl,this,hb⟩
end
theorem qux (v u:Value) (K:List Cl) (f:Int->Int) (N S T:Nat) (w:World) (h:(Mok.cx K).holds v w) (hK:KOk K) (hl:K.length<=180) (hc:(Fk.cf f N S).holds u w) (hT:S+N+3428<=T) (hb:N+T<=1000000):Calls Tryz.prog 49 #[v,u] w (qaj (.cf (fun r=>q1q f r K) 3420 T) w):=by
 obtain⟨L,h1,h2,h3,h4,h5⟩:=hc;have hR:(z8 K).length<=3420:=by have:=q8b hK;omega
 refine(qp4 v u K (ctm L) (fun r=>q1q f r K) L.length S 3420 T w h h5 hK h4 (qz L) hR (by omega) (by omega) fun c=>?_);rw[zv,q5f,show co L=f from funext h2]
theorem quy (x:Int) (hx:I64 x) (w:World):Calls Tryz.prog 52 #[.int .i64 x] w (qaj (.cf (qw x 1) 1 1) w):=by
 refine(qpa x w).mono ?_;rintro e w' ⟨r,he,hs,hb⟩;refine⟨r,he,⟨[(x,1)],by unfold Cn;simp,fun c=>?_,nlr _,?_,hs⟩,hb⟩
 ·show (if x=c then (1:Int) else 0)+0=if c=x then 1 else 0
  by_cases e:x=c
  ·rw[if_pos e,if_pos e.symm];rfl
  ·rw[if_neg e,if_neg fun e2=>e e2.symm];rfl
 ·have:LOk 1 [(x,(1:Int))]:=fun p hp=>by
   rw[List.mem_singleton] at hp;subst hp;exact⟨hx,q31 _ _ (by show (1:Int).natAbs < 256 ^ 1;decide)⟩
  exact this.tok
end Go.Proofs.YtlhicnfeajejhaaGreatDoor
namespace Go.Cx
open Go.RowKit Go.Proofs.YtlhicnfeajejhaaGreatDoor
def wS (q:Int->Int->Int) (L:List (Int×Int)) (d:Int):Int:=(L.map fun p=>p.2*q p.1 d).sum
theorem qsm (q:Int->Int->Int) (L:List (Int×Int)) (p:Int×Int) (d:Int):wS q (L++[p]) d=wS q L d+p.2*q p.1 d:=by
 unfold wS;rw[bm,List.sum_append];simp
theorem qsn (X:Int->Int) {c:Int} : ∀ {C:List Int},C.Nodup->c∈C->sL C (fun a=>if c=a then X a else 0)=X c
 | [],_,h=>by cases h
 | a :: C,hn,h=>by
  obtain⟨h1,h2⟩:=List.nodup_cons.1 hn;rw[qlk];by_cases e:c=a
  ·subst e;rw[if_pos rfl,qqy (g:=fun a=>0*qw a 1 0) fun b hb=>by rw[if_neg fun e2:c=b=>h1 (e2 ▸ hb),Int.zero_mul],qpt (fun _=>0) 0 h2];split <;> omega
  ·rw[if_neg e,qsn X h2 ((gw.1 h).resolve_left e),Int.zero_add]
theorem qtl (q:Int->Int->Int) {C:List Int} (hC:C.Nodup) (d:Int):∀ {L:List (Int×Int)},(∀ p∈L,p.1∈C)->wS q L d=sL C fun a=>co L a*q a d
 | [],_=>by
  rw[qqy (g:=fun a=>0*qw a 1 0) fun a _=>by show (0:Int)*_=0*_;rw[Int.zero_mul,Int.zero_mul],qpt (fun _=>0) 0 hC];split <;> rfl
 | p :: L,h=>by
  have ih:=qtl q hC d (L:=L) fun r hr=>h r (.tail _ hr)
  have h1:wS q (p :: L) d=p.2*q p.1 d+wS q L d:=by unfold wS;rw[gP,bw]
  rw[h1,ih,<-qsn (fun a=>p.2*q a d) hC (h p (.head _)),<-qrt];refine qqy fun a _=>?_
  show _=((if p.1=a then p.2 else 0)+co L a)*q a d;rw[Int.add_mul];split
  ·rfl
  ·rw[Int.zero_mul]
section
variable {K:List Cl} (G:Good K) (hc:chk K=(0,0)) {m:List (Int×Int)} (hm:j8 K m=0)
include G hc hm
theorem qqu:∃ hi lo,Mtc K hi lo/\(∀ a,¬ yp K hi a)/\(∀ f,q4t K m f=q85 K hi lo f)/\(∀ d,yt K m d=q27 K hi lo d)/\(∀ d c,c∈q27 K hi lo d->upX K m c=upF K hi c)/\∀ d i j,bdE (canon K) (mhi K m) (mlo K m) d i j=bdE K hi lo d i j:=by
 obtain⟨hi,lo,hp,M,bW⟩:=q84 G hm;have iq:canon K=K:=G.cells.1;have hE:opE K m=0:=by unfold opE;rw[hc,if_pos rfl,iq];exact hm
 have h1:mhi K m=hi:=by unfold mhi;rw[iq,hp];rfl
 have h2:mlo K m=lo:=by unfold mlo;rw[iq,hp];rfl
 refine⟨hi,lo,M,bW,fun f=>?_,fun d=>?_,fun d c IP=>?_,fun d i j=>by rw[iq,h1,h2]⟩
 ·unfold q4t;rw[if_pos hE,iq,h1,h2]
 ·unfold yt;rw[if_pos hE,iq,h1,h2]
 ·obtain⟨⟨x,hx,qG,_⟩,uJ⟩:=(qiu G).1 IP;have hh:jv K c=true:=List.any_eq_true.2 ⟨x,hx,by simpa using qG⟩;unfold upX;rw[iq,h1,h2,if_pos ⟨hE,hh,uJ⟩]
theorem qs7 (d:Int):(yt K m d).Pairwise (· < ·):=by
 obtain⟨hi,lo,_,_,_,h2,_⟩:=qqu G hc hm;rw[h2];exact qp5 G d
theorem qsc {d c:Int} (h:c∈yt K m d):∃ x∈K,x.id=c/\x.dim=d:=by
 obtain⟨hi,lo,_,_,_,h2,_⟩:=qqu G hc hm;rw[h2] at h;exact((qiu G).1 h).1
theorem qua {d:Int} {i j:Nat} (hi:i < (yt K m (d - 1)).length) (hj:j < (yt K m d).length) :
  (qrb K m d).getD (i*(yt K m d).length+j) 0=q4t K m (bdD K ((yt K m d).getD j 0) 1) ((yt K m (d - 1)).getD i 0):=by
 obtain⟨hh,lo,_,_,h1,h2,_,h4⟩:=qqu G hc hm;obtain⟨q1,q2⟩:=quj (i:=i) hj;unfold qrb;rw[qtd _ hi hj,q1,q2,h4,h1,h2,h2];rfl
theorem qtm {d c:Int} (IP:c∈yt K m d) {r:Int} (h:q4t K m (bdD K c 1) r≠0):r∈yt K m (d - 1):=by
 obtain⟨hi,lo,M,bW,h1,h2,_⟩:=qqu G hc hm;rw[h1] at h;rw[h2] at IP ⊢;obtain⟨⟨x,hx,he,hd⟩,_⟩:=(qiu G).1 IP;exact qrc G M bW ⟨x,hx,he,by omega⟩ h
theorem qtn {d:Int} {j:Nat} (hj:j < (yt K m d).length):co (qqz (yt K m (d - 1)) (qrb K m d) (yt K m d).length j (yt K m (d - 1)).length)=q4t K m (bdD K ((yt K m d).getD j 0) 1):=by
 obtain⟨c,pf⟩ : ∃ c,c=(yt K m d).getD j 0:=⟨_,rfl⟩
 have eJ:c∈yt K m d:=by
  rw[pf,gF,g8 hj];exact List.getElem_mem _
 have l5:(yt K m (d - 1)).Nodup:=(qs7 G hc hm (d - 1)).imp fun h e=>by omega
 have key:∀ k,k<=(yt K m (d - 1)).length->∀ r,co (qqz (yt K m (d - 1)) (qrb K m d) (yt K m d).length j k) r=sL ((yt K m (d - 1)).take k) fun a=>q4t K m (bdD K c 1) a*qw a 1 r:=fun k=>by
  induction k with
  | zero=>intro _ r;rfl
  | succ k ih =>
   intro hk r;rw[qrn,ji,ih (by omega),qu5 _ _ _ hk,qua G hc hm (by omega) hj,<-pf];show _+((if _=r then _ else 0)+0)=_+_*(if r=_ then 1 else 0);rw[bo]
   congr 1
   by_cases e:(yt K m (d - 1)).getD k 0=r
   ·rw[if_pos e,if_pos e.symm,Int.mul_one]
   ·rw[if_neg e,if_neg fun e2=>e e2.symm,Int.mul_zero]
 funext r
 rw[key _ (nlr _),List.take_length,qpt _ _ l5,<-pf];by_cases fb:r∈yt K m (d - 1)
 ·rw[if_pos fb]
 ·rw[if_neg fb];exact gD fun e=>fb (qtm G hc hm eJ fun e2=>e e2.symm)
omit G hc hm in
theorem qro {d:Int} {j n k:Nat} (hk:k<=(yt K m (d - 1)).length) {A:List Int} : ∀ p∈qqz (yt K m (d - 1)) A n j k,p.1∈yt K m (d - 1):=fun p hp=>by
 obtain⟨i,hi,rfl⟩:=go.1 hp;have hi:=gC.1 hi;show (yt K m (d - 1)).getD i 0∈_;rw[gF,g8 (by omega)];exact List.getElem_mem _
theorem qum {d c:Int} (h:c∈yt K m d):q4t K m (upX K m c)=qw c 1:=by
 obtain⟨hi,lo,M,bW,h1,h2,h3,_⟩:=qqu G hc hm;rw[h2] at h;obtain⟨⟨x,hx,qG,_⟩,uJ⟩:=(qiu G).1 h;rw[h1,h3 d c h,down_up G M bW (qG ▸ gI hx) uJ]
variable (hbb:∀ f r,q1q (fun d=>q1q f d K) r K=0)
include hbb
theorem qto {d:Int} {f:Int->Int} (hf:q86 K d f) {L:List (Int×Int)} (hN:Cn L) (hL:co L=q4t K m f) :
  (∀ p∈L,p.1∈yt K m d)/\q4t K m (fun r=>q1q f r K)=wS (fun a=>q4t K m (bdD K a 1)) L:=by
 obtain⟨hi,lo,M,bW,h1,h2,_⟩:=qqu G hc hm;have cO:In0 K f:=fun r hr=>by
  obtain⟨x,hx,he,_⟩:=hf r hr;exact he ▸ gI hx
 rw[h1] at hL;have hs:∀ p∈L,p.1∈q27 K hi lo d:=fun p hp=>qrm G M bW cO hf (by rw[<-hL,zl hN.1 hp];exact hN.2 p hp)
 refine⟨fun p hp=>by rw[h2];exact hs p hp,funext fun r=>?_⟩;rw[h1,qtl _ (qml G d) r hs,hL,qu8 G M bW hbb cO hf r];exact qqy fun a _=>by rw[h1]
theorem qun {d:Int} {j:Nat} (hj:j < (yt K m d).length) :
  (fun r=>q1q (upX K m ((yt K m d).getD j 0)) r K)=wS (upX K m) (qqz (yt K m (d - 1)) (qrb K m d) (yt K m d).length j (yt K m (d - 1)).length):=by
 obtain⟨hi,lo,M,bW,h1,h2,h3,_⟩:=qqu G hc hm;have kW:=qtn G hc hm hj;have aD:=qro (K:=K) (m:=m) (d:=d) (j:=j) (n:=(yt K m d).length) (nlr _) (A:=qrb K m d);generalize qqz (yt K m (d - 1)) (qrb K m d) (yt K m d).length j (yt K m (d - 1)).length=C at kW aD ⊢;obtain⟨c,pf⟩ : ∃ c,c=(yt K m d).getD j 0:=⟨_,rfl⟩
 have eJ:c∈yt K m d:=by
  rw[pf,gF,g8 hj];exact List.getElem_mem _
 rw[<-pf] at kW ⊢;rw[h2] at eJ;simp only [h2] at aD;obtain⟨⟨x,hx,qG,zL⟩,_⟩:=(qiu G).1 eJ;funext r
 rw[qtl _ (qml G (d - 1)) r aD,h3 d c eJ,quv G M bW hbb (e:=d - 1) ⟨x,hx,qG,by omega⟩ r];refine qqy fun a ha=>?_
 rw[kW,h1,h3 (d - 1) a ha]
end
end Go.Cx
namespace Go.Proofs.YtlhicnfeajejhaaGreatDoor
open Go.RowKit Go.Cx
theorem qr3 {P:Program} {Q:Exit->Act->World->Prop} {k:KP} {o:Oper} {a:Act} {w:World} {b:Bool} (hb:b=false) (h:Stk P Q k o a w) :
  Oper.wp P o a w (fun a' w''=>∃ v,a'=a.put o.dst v/\k.p v w''/\Below w.heap.size w w''/\(b=true->∃ p,v = .pointer (some ⟨p,0,none⟩)/\w.heap.size<=p/\p < w''.heap.size)) Q :=
 Oper.wp_mono (fun _ _ ⟨v,h1,h2,h3⟩=>⟨v,h1,h2,h3,fun e=>by rw[hb] at e;cases e⟩) h
theorem qtp (w:World) (x y:Int) (h:IntKind.i64.wrap (x - y)=x - y):(Go.binOp .sub 3 (.int .i64 x) (.int .i64 y)).run Tryz.prog w = .ok (.int .i64 (x - y)) w:=by simp[go_sem,h]
def qrk (b:Nat) (v:Value) (w:World):Prop:=∃ p,v = .pointer (some ⟨p,0,none⟩)/\b<=p/\p < w.heap.size/\(∃ a n k,w.cell? ⟨p,0,none⟩=some (.slice a n k))/\w.frozen? ⟨p,0,none⟩=false
theorem qrk.q8 {b:Nat} {v:Value} {w w':World} (h:qrk b v w) (hb:Below w.heap.size w w'):qrk b v w':=by
 obtain⟨p,h1,h2,h3,⟨a,n,k,hz⟩,h4⟩:=h;exact⟨p,h1,h2,bf h3 hb.size,⟨a,n,k,Cx.q8 hb hz⟩,(hb.frozen (by exact h3)).trans h4⟩
def KP.box (b:Nat):KP:=⟨qrk b,fun _ _ _ h hb=>qrk.q8 h hb⟩
theorem qsd (w:World):(Instr.alloc 22 true (.tuple #[])).run Tryz.prog w = .ok (.pointer (some ⟨w.heap.size,0,none⟩)) (w.alloc (.cells #[.slice none 0 0] 22)):=by
 simp[go_sem]
theorem qtq {b:Nat} (w:World) (h:b<=w.heap.size):qrk b (.pointer (some ⟨w.heap.size,0,none⟩)) (w.alloc (.cells #[.slice none 0 0] 22)) :=
 ⟨_,rfl,h,by simp,⟨none,0,0,qd w _ _ (0,0) 0⟩,jz (heap_alloc_new w _) 0⟩
theorem qse {b:Nat} (w:World) (p:Nat) (a:Option Addr) (n k:Nat) (h:qrk b (.pointer (some ⟨p,0,none⟩)) w):(Instr.storeAt 22 (.pointer (some ⟨p,0,none⟩)) (.slice a n k)).run Tryz.prog w = .ok () (w.setCell ⟨p,0,none⟩ (.slice a n k)):=by
 obtain⟨p',h1,_,_,⟨a',n',k',hz⟩,h4⟩:=h;injection h1 with h1;injection h1 with h1;injection h1 with h1;subst h1
 simp[go_sem,hz,h4]
theorem qtr {b p:Nat} {w:World} (h:qrk b (.pointer (some ⟨p,0,none⟩)) w) (z:Value):(w.setCell ⟨p,0,none⟩ z).cell? ⟨p,0,none⟩=some z:=by
 obtain⟨p',h1,_,_,⟨a',n',k',hz⟩,_⟩:=h;injection h1 with h1;injection h1 with h1;injection h1 with h1;subst h1
 exact World.cell?_setCell_same' _ _ _ (by rw[hz];rfl)
theorem qso {w:World} {b p:Nat} (h:qrk b (.pointer (some ⟨p,0,none⟩)) w) {u:Value} {L:List Int} (hs:Sl w 1 u (ints L)) (z:Value):Sl (w.setCell ⟨p,0,none⟩ z) 1 u (ints L):=by
 obtain⟨p',h1,_,_,⟨a,n,k,hz⟩,_⟩:=h;injection h1 with h1;injection h1 with h1;injection h1 with h1;subst h1
 obtain⟨ad,n',c,rfl,h2,h3,h4,h5,h6⟩:=hs;refine⟨ad,n',c,rfl,h2,h3,h4,h5,fun q hq j v hj=>?_⟩;have hc:=h6 q hq j v hj;obtain⟨x,_,rfl⟩:=go.1 (gh hj);refine xi hc fun e=>?_
 rw[e,hz] at hc;cases hc
structure Mps (w W:World) (q pl pm:Nat) (x u lv hv mv:Value) (K:List Cl) (M:List (Int×Int)) (r n:Nat) (low high A:List Int):Prop where
 bv:Bv W q x
 cx:(Mok.cx K).holds (.agg #[x]) W
 pr:(Mok.prs M).holds u W
 l0:W.cell? ⟨pl,0,none⟩=some lv
 ls:Sl W 1 lv (ints low)
 mm:qtc W pm r n mv
 ms:Sl W 2 mv (wvs A)
 hs:Sl W 1 hv (ints high)
 bl:Below w.heap.size w W
theorem Mps.q8 {w W V:World} {q pl pm:Nat} {x u lv hv mv:Value} {K:List Cl} {M:List (Int×Int)} {r n:Nat} {low high A:List Int} (h:Mps w W q pl pm x u lv hv mv K M r n low high A) (hb:Below W.heap.size W V):Mps w V q pl pm x u lv hv mv K M r n low high A :=
 ⟨h.bv.q8 hb,Mok.q8 h.cx hb,Mok.q8 h.pr hb,Cx.q8 hb h.l0,h.ls.q8 hb,h.mm.q8 hb,h.ms.q8 hb,h.hs.q8 hb,h.bl.trans (hb.mono h.bl.size)⟩
theorem Mps.col {w W:World} {q pl pm:Nat} {x u lv hv mv:Value} {K:List Cl} {M:List (Int×Int)} {r n:Nat} {low high A:List Int} (h:Mps w W q pl pm x u lv hv mv K M r n low high A) (Ct:low.length=r) (hr:r<=200) (hn:n<=200) (hA:A.length=r*n) {j:Nat} (hj:j < n) :
  Calls Tryz.prog 60 #[.int .i64 j,.pointer (some ⟨pl,0,none⟩),.pointer (some ⟨pm,0,none⟩)] W fun e w'=>∃ y,e = .returned y/\(Mok.ch (qqz low A n j r)).holds y w'/\Below W.heap.size W w':=by
 refine(qti pl pm r n j lv mv low A W h.l0 h.ls h.mm.1 h.mm.2.1 h.mm.2.2 h.ms Ct hr hn hA hj).mono ?_;rintro e w' ⟨y,rfl,hy,hb⟩;refine⟨y,rfl,?_,hb⟩;have:=Sl.qc hy;exact this
theorem qs8:∀ args w,(callFunc 60 args).run Tryz.prog w = .ok (.enter 60 args) w:=k8 Tryz.func60 (by kernel_rfl) (by kernel_rfl)
theorem qr8:∀ args w,(callFunc 63 args).run Tryz.prog w = .ok (.enter 63 args) w:=k8 Tryz.func63 (by kernel_rfl) (by kernel_rfl)
theorem qr1:∀ args w,(callFunc 64 args).run Tryz.prog w = .ok (.enter 64 args) w:=k8 Tryz.func64 (by kernel_rfl) (by kernel_rfl)
theorem qre:∀ args w,(callFunc 65 args).run Tryz.prog w = .ok (.enter 65 args) w:=k8 Tryz.func65 (by kernel_rfl) (by kernel_rfl)
theorem qrv:∀ args w,(callFunc 49 args).run Tryz.prog w = .ok (.enter 49 args) w:=k8 Tryz.func49 (by kernel_rfl) (by kernel_rfl)
attribute [local go_sem ↓] Go.wp_at_zero Go.wp_at_succ
theorem qsu (v0 v1 v2:Value) (l ms ks:List Int) (w:World) (h0:Sl w 1 v0 (ints l)) (h1:Sl w 1 v1 (ints ms)) (h2:Sl w 1 v2 (ints ks)) :
  Calls Tryz.prog 9 #[v0,v1,v2] w fun e w'=>e = .returned (.bool true)/\Below w.heap.size w w':=by
 obtain⟨a0,k0,c0,rfl⟩:=qg h0;obtain⟨a1,k1,c1,rfl⟩:=qg h1;obtain⟨a2,k2,c2,rfl⟩:=qg h2;have fD:ms.length=k1:=by
  obtain⟨_,_,h3,_⟩:=h1.open;rw[xl] at h3;omega
 obtain⟨rf,eJ,_⟩:=h1.open;obtain⟨ni,Nq,_⟩:=h2.open;unfold maxLen at eJ Nq;have H:=lhd (aiq h0 (aiq h1 (aiq fD h2)));clear h0 h1 fD h2;go_enter Tryz.func9,Tryz.ntmps9;go_wp2_with fail;refine(qj7 _).mono ?_;rintro e w1 ⟨rfl,aj⟩;have H1:=lhd aj;clear aj;go_wp2_with fail;refine(qai _ l _ (H.out.1.q8 H1.out)).mono ?_;rintro e w2 ⟨r,m,rfl,hm,hR,ao⟩;obtain⟨ua,uc,zT⟩:=qj hR.1;subst zT;have ar:Below w.heap.size w w2:=H1.out.trans (ao.mono H1.out.size);obtain⟨K,hK⟩ : ∃ K,K=q25 l:=⟨_,rfl⟩
 have hok:=qht l;have hG:=qcx l;have pA:=q8a l;have Nr:=qte l;have hbb:=qu7 l;rw[<-hK] at hok hG pA hm Nr hbb;have ff:m.length<=180:=by
  have:=congrArg List.length hm;rw[gn] at this;have:=hok.2.2;omega
 have HC:=lhd (aiq hm (aiq hR.slc (aiq ar (aiq hok (aiq hG (aiq pA ff))))));have HD:=lhd (aiq Nr hbb);clear hm hR ao ar hK hok hG pA ff Nr hbb;go_upto_region 3 with fail;obtain⟨W0,jY⟩ : ∃ W0,W0=w2.alloc (.cells #[.slice ua m.length uc] 26):=⟨_,rfl⟩
 obtain⟨q,hq⟩ : ∃ q,q=w2.heap.size:=⟨_,rfl⟩
 rw[<-jY,<-hq];have cG:Below w2.heap.size w2 W0:=by rw[jY];exact(Below.refl _ w2).alloc (nlr _) _
 have bq:Bv W0 q (.slice ua m.length uc):=by rw[jY,hq];exact Bv.new w2 _ _
 have cq:=bq.1;have Sh:∀ x∈m,x.cl∈K:=fun x hx=>by rw[<-HC.out.1];exact gI hx
 have Nl:∀ x∈m,x.s.length<=1099511627776:=fun x hx=>gl (HC.out.2.2.2.1.1 x.cl (Sh x hx)).2.1 (by decide)
 have bP:Below w.heap.size w W0:=HC.out.2.2.1.trans (cG.mono HC.out.2.2.1.size);obtain⟨n3,qA⟩ : ∃ n3,n3=min k1 30:=⟨_,rfl⟩
 have X4:min (k1:Int) 30=(n3:Int):=by rw[qA];omega
 have X5:(n3:Int)<=c1:=by omega
 have X6:n3<=30:=by omega
 have xR:∀ U,Below W0.heap.size W0 U->Calls Tryz.prog 44 #[.agg #[.slice ua m.length uc],.slice a1 n3 c1] U fun e w'=>∃ r M,e = .returned r/\M.length<=30/\j8 K M=0/\w'.ownsRow U.heap.size 50 2 r M.length (pv M)/\Below U.heap.size U w':=fun U hU=>by
  have hs:Sl U 1 (.slice a1 n3 c1) (ints (ms.take n3)):=by
   have:=((H.out.2.1.q8 bP).q8 hU).take (k:=n3) (by omega);rw[gM,<-q49] at this;exact this
  refine(qor _ _ m (ms.take n3) U ((HC.out.2.1.q8 cG).q8 hU) (by have:=HC.out.2.2.2.2.2.2;omega) Nl (by rw[HC.out.1];exact HC.out.2.2.2.2.1) (by rw[HC.out.1];exact HC.out.2.2.2.2.2.1) hs (by rw[gd];omega)).mono ?_;rintro e w' ⟨r,M,rfl,h1,h2,h3,h4⟩;rw[HC.out.1] at h2;exact⟨r,M,rfl,by rw[gd] at h1;omega,h2,h3,h4⟩
 have H0:=lhd (aiq cG (aiq bq (aiq bP xR)));have B8:Below W0.heap.size W0 W0.drew:=qb (Below.refl _ W0) 1;clear jY hq cG bq Sh Nl bP qA xR
 go_region_held_law (fun U=>U.cell? ⟨q,0,none⟩=some (.slice ua m.length uc)) (first | exact Cx.q8 B8 cq | exact Cx.q8 B9 cq | fail)
  (first | (go_at_call 44;refine(H0.out.2.2.2 _ B8).mono ?_;rintro e w5 ⟨r5,M,rfl,Ns,IQ,bT,cT⟩;have B9:Below W0.heap.size W0 w5:=B8.trans (cT.mono B8.size)))
 obtain⟨a5,c5,Nt⟩:=qj bT;subst Nt;obtain⟨nM,Si⟩ : ∃ nM,nM=M.length:=⟨_,rfl⟩
 have Nu:=Sl.qc bT;rw[<-Si] at Nu ⊢;have hI:=qjt HC.out.2.2.2.2.1 HC.out.2.2.2.1.1 IQ;have hE:=qt8 HC.out.2.2.2.2.1 HC.out.2.2.2.2.2.1 IQ;have BE:Hid (Bv w5 q (.slice ua m.length uc)/\(Mok.cx K).holds (.agg #[.slice ua m.length uc]) w5/\Sl w5 2 (.slice a5 nM c5) (pv M)/\Below w.heap.size w w5):=⟨H0.out.2.1.q8 B9,⟨_,m,rfl,(HC.out.2.1.q8 H0.out.1).q8 B9,HC.out.1⟩,Nu,H0.out.2.2.1.trans (B9.mono H0.out.2.2.1.size)⟩
 have HK:Hid (KOk K/\K.length<=180/\Cx.Good K/\chk K=(0,0)/\(∀ p∈M,I64 p.1/\I64 p.2)/\j8 K M=0/\opE K M=0):=⟨HC.out.2.2.2.1.1,HC.out.2.2.2.1.2.2,HC.out.2.2.2.2.1,HC.out.2.2.2.2.2.1,hI,IQ,hE⟩
 clear bT Nu hI IQ B9 B8 cT Si Ns cq hE;go_wp2_with fail;refine(quc (k2:Int) 4 w5 (by omega) (by omega)).mono ?_;rintro e w6 ⟨rfl,dR⟩;obtain⟨d,hd⟩ : ∃ d:Nat,d=k2 % 4:=⟨_,rfl⟩
 have JO:(k2:Int) % 4=(d:Int):=by omega
 have pW:d < 4:=by omega
 rw[JO];have xS:Hid (Bv w6 q (.slice ua m.length uc)/\(Mok.cx K).holds (.agg #[.slice ua m.length uc]) w6/\Sl w6 2 (.slice a5 nM c5) (pv M)/\Below w.heap.size w w6):=⟨BE.out.1.q8 dR,Mok.q8 BE.out.2.1 dR,BE.out.2.2.1.q8 dR,BE.out.2.2.2.trans (dR.mono BE.out.2.2.2.size)⟩
 clear dR hd JO;obtain⟨low,ee⟩ : ∃ L,L=yt K M ((d:Int) - 1):=⟨_,rfl⟩
 obtain⟨high,mf⟩ : ∃ L,L=yt K M (d:Int):=⟨_,rfl⟩
 have fs:low.length<=180:=by rw[ee];exact gl (qr5 HK.out.2.2.1 M _) HK.out.2.1
 have jW:high.length<=180:=by rw[mf];exact gl (qr5 HK.out.2.2.1 M _) HK.out.2.1
 have HL:=lhd (aiq ee (aiq mf (aiq fs jW)));clear ee mf fs jW;have zH:IntKind.i64.wrap ((d:Int) - 1)=(d:Int) - 1:=IntWalk.i64_in _ (by omega);go_upto_region 5 with fail
 go_cut [11,12] from 40 to 48 (fun x y wx=>∃ (pl:Nat) (al:Option Addr) (nl kl:Nat) (ah:Option Addr) (nh kh:Nat),x = .pointer (some ⟨pl,0,none⟩)/\y = .slice ah nh kh/\Hid (wx.cell? ⟨pl,0,none⟩=some (.slice al nl kl)/\Sl wx 1 (.slice al nl kl) (ints low)/\Sl wx 1 (.slice ah nh kh) (ints high)/\Below w6.heap.size w6 wx))
 case first =>
  rename_i J K2 hJ iZ;have kX:=xS.out.1;have ly:=xS.out.2.1;have lq:=xS.out.2.2.1;have hK:=HK.out.1;have kG:K.length<=1000:=by have:=HK.out.2.1;omega
  have hI:=HK.out.2.2.2.2.1;have ee:=HL.out.1;have mf:=HL.out.2.1;refine qr6 rfl (fun i v w=>(([.mok (.cx K),.mok (.prs M),.val (.int .i64 d),.val (.int .i64 ((d:Int) - 1)),.mok (.idl low),.mok (.cx K),.mok (.prs M),.val (.int .i64 d),.mok (.idl high),.box w6.heap.size] : List KP).getD i .any).p v w) (fun i=>i == 9) 10 14 157 rfl (by kernel_rfl) (by kernel_rfl) (by kernel_rfl) (fun i v w w' h hb=>KP.q8 _ _ _ _ h hb) ?step ?mid
  case step =>
   intro i o ho oR a w' hw hd ae az
   match i,ho,hd with
   | 0,ho,hd =>
    obtain rfl:=osi ho;exact⟨rfl,gy _,qr3 rfl (qq5 _ _ rfl _ (ae 8 (yi (by kernel_rfl))) _ (ldK (kX.q8 hw)) (Mok.q8 (k:=.cx K) ly hw))⟩
   | 1,ho,hd =>
    obtain rfl:=osi ho;exact⟨rfl,gy _,qr3 rfl (q7b _ (.inl rfl) (by show (.mok (.prs M):KP).p (a.tmps.getD 9 undef) w';rw[ae 9 (yi (by kernel_rfl))];exact Mok.q8 (k:=.prs M) lq hw))⟩
   | 2,ho,hd =>
    obtain rfl:=osi ho;exact⟨rfl,gy _,qr3 rfl (q7b _ (.inl rfl) (ae 10 (yi (by kernel_rfl))))⟩
   | 3,ho,hd =>
    obtain rfl:=osi ho;have f2:a.tmps.getD 42 undef = .int .i64 d:=hd 2 _ _ rfl rfl (by kernel_rfl);exact⟨rfl,gy _,qnf _ _ _ _ _ rfl _ _ f2 rfl _ rfl (qtp _ _ _ zH) ⟨_,rfl,rfl,Below.refl _ _,fun e=>by cases e⟩⟩
   | 4,ho,hd =>
    obtain rfl:=osi ho;have f0:(.mok (.cx K):KP).p (a.tmps.getD 40 undef) w':=hd 0 _ _ rfl rfl (by kernel_rfl);have f1:(.mok (.prs M):KP).p (a.tmps.getD 41 undef) w':=hd 1 _ _ rfl rfl (by kernel_rfl);have f3:a.tmps.getD 43 undef = .int .i64 ((d:Int) - 1):=hd 3 _ _ rfl rfl (by kernel_rfl);exact⟨rfl,gy _,qr3 rfl (qh1 _ _ _ rfl je #[a.tmps.getD 40 undef,a.tmps.getD 41 undef,.int .i64 ((d:Int) - 1)] (by rw[<-f3];simp[Act.eval]) (by rw[ee];exact qbf _ _ K M _ f0 hK kG f1 hI ((d:Int) - 1) _ rfl))⟩
   | 5,ho,hd =>
    obtain rfl:=osi ho;exact⟨rfl,gy _,qr3 rfl (qq5 _ _ rfl _ (ae 8 (yi (by kernel_rfl))) _ (ldK (kX.q8 hw)) (Mok.q8 (k:=.cx K) ly hw))⟩
   | 6,ho,hd =>
    obtain rfl:=osi ho;exact⟨rfl,gy _,qr3 rfl (q7b _ (.inl rfl) (by show (.mok (.prs M):KP).p (a.tmps.getD 9 undef) w';rw[ae 9 (yi (by kernel_rfl))];exact Mok.q8 (k:=.prs M) lq hw))⟩
   | 7,ho,hd =>
    obtain rfl:=osi ho;exact⟨rfl,gy _,qr3 rfl (q7b _ (.inl rfl) (ae 10 (yi (by kernel_rfl))))⟩
   | 8,ho,hd =>
    obtain rfl:=osi ho;have f5:(.mok (.cx K):KP).p (a.tmps.getD 45 undef) w':=hd 5 _ _ rfl rfl (by kernel_rfl);have f6:(.mok (.prs M):KP).p (a.tmps.getD 46 undef) w':=hd 6 _ _ rfl rfl (by kernel_rfl);have f7:a.tmps.getD 47 undef = .int .i64 d:=hd 7 _ _ rfl rfl (by kernel_rfl);exact⟨rfl,gy _,qr3 rfl (qh1 _ _ _ rfl je #[a.tmps.getD 45 undef,a.tmps.getD 46 undef,.int .i64 d] (by rw[<-f7];simp[Act.eval]) (by rw[mf];exact qbf _ _ K M _ f5 hK kG f6 hI (d:Int) _ rfl))⟩
   | 9,ho,hd =>
    obtain rfl:=osi ho;exact⟨rfl,gy _,qt9 _ rfl _ _ (qsd _) ⟨_,rfl,qtq _ hw.size,(Below.refl _ _).alloc (nlr _) _,fun _=>⟨_,rfl,nlr _,by simp⟩⟩⟩
   | i+10,ho,hd =>
    omega
  case mid =>
   intro a w' az jR hf ae hw ZN;have f4:(KP.mok (.idl low)).p (a.tmps.getD 44 undef) w':=hf 4 _ _ rfl rfl (by decide);have f8:(KP.mok (.idl high)).p (a.tmps.getD 48 undef) w':=hf 8 _ _ rfl rfl (by decide);have f9:qrk w6.heap.size (a.tmps.getD 11 undef) w':=hf 9 _ _ rfl rfl (by decide);have sl:Sl w' 1 (a.tmps.getD 44 undef) (ints low):=f4;have sh:Sl w' 1 (a.tmps.getD 48 undef) (ints high):=f8;obtain⟨al,nl,kl,el⟩:=qg sl;obtain⟨ah,nh,kh,eh⟩:=qg sh;rw[el] at sl;rw[eh] at sh;have b9:=f9;obtain⟨pl,e1,l1,u1,_⟩:=f9;rw[e1] at b9;refine⟨fun k b U=>(k=0->b=a/\U=w')/\(1<=k->U=w'.setCell ⟨pl,0,none⟩ (.slice al nl kl))/\(k=1->b=a)/\(k=2->b=a.put (some 12) (.slice ah nh kh)),⟨fun _=>⟨rfl,rfl⟩,fun h=>by omega,fun h=>by omega,fun h=>by omega⟩,?_,?_⟩
   ·intro k o ho b U ⟨t1,t2,t3,t4⟩
    match k,ho with
    | 0,ho =>
     obtain rfl:=osi ho;obtain⟨Nv,hU⟩:=t1 rfl;rw[Nv,hU];exact⟨rfl,qs2 _ _ _ rfl _ _ e1 el (qse w' pl al nl kl b9) ⟨fun h=>by omega,fun _=>rfl,fun _=>rfl,fun h=>by omega⟩⟩
    | 1,ho =>
     obtain rfl:=osi ho;have Nv:=t3 rfl;have hU:=t2 (by omega);rw[Nv,hU];exact⟨rfl,q1b _ (.inr rfl) ⟨fun h=>by omega,fun _=>rfl,fun h=>by omega,fun _=>congrArg (a.put (some 12)) eh⟩⟩
    | k+2,ho =>
     have:10+(k+2) < 12:=(gv.1 ho).1;omega
   ·intro b U ⟨t1,t2,t3,t4⟩;have hb:=t4 rfl;have hU:=t2 (by decide);have Gh:(a.put (some 12) (.slice ah nh kh)).tmps.size=157:=by show (a.tmps.setIfInBounds 12 _).size=157;rw[Array.size_setIfInBounds];exact az
    have g12:(a.put (some 12) (.slice ah nh kh)).tmps.getD 12 undef = .slice ah nh kh:=by rw[q3s,if_pos ⟨rfl,by rw[az];decide⟩]
    have Nw:∀ s,12≠s->(a.put (some 12) (.slice ah nh kh)).tmps.getD s undef=a.tmps.getD s undef:=fun s hs=>by rw[q3s,if_neg fun e=>hs e.1]
    have g11:(a.put (some 12) (.slice ah nh kh)).tmps.getD 11 undef = .pointer (some ⟨pl,0,none⟩):=(Nw 11 (by decide)).trans e1;rw[hb,hU];obtain⟨c,xT⟩ : ∃ c,c=a.put (some 12) (.slice ah nh kh):=⟨_,rfl⟩
    have Nx:=(show c.defers=a.defers by rw[xT];rfl).trans jR;rw[<-xT] at Gh g12 g11 Nw ⊢;have Ny:Hid ((w'.setCell ⟨pl,0,none⟩ (.slice al nl kl)).cell? ⟨pl,0,none⟩=some (.slice al nl kl)/\Sl (w'.setCell ⟨pl,0,none⟩ (.slice al nl kl)) 1 (.slice al nl kl) (ints low)/\Sl (w'.setCell ⟨pl,0,none⟩ (.slice al nl kl)) 1 (.slice ah nh kh) (ints high)/\Below w6.heap.size w6 (w'.setCell ⟨pl,0,none⟩ (.slice al nl kl))) :=
     ⟨qtr b9 _,qso b9 sl _,qso b9 sh _,hw.setCell l1 _⟩
    refine iZ _ _ (Met.intro (hJ _ _ ⟨c.tmps.getD 11 undef,c.tmps.getD 12 undef,c.tmps.getD 40 undef,c.tmps.getD 41 undef,c.tmps.getD 42 undef,c.tmps.getD 43 undef,c.tmps.getD 44 undef,c.tmps.getD 45 undef,c.tmps.getD 46 undef,c.tmps.getD 47 undef,c.tmps.getD 48 undef,⟨pl,al,nl,kl,ah,nh,kh,g11,g12,Ny⟩,(q8z Gh Nx fun s hs=>(Nw s (fun e=>hs 11 _ rfl (by rw[<-e];rfl))).trans (ae s fun i o _=>hs i o)).trans ?_⟩));kernel_rfl
 case rest =>
  obtain⟨pl,al,nl,kl,ah,nh,kh,rfl,rfl,HM⟩:=hcut;obtain⟨bH,Ds⟩ : low.length=nl/\high.length=nh:=by
   obtain⟨_,_,h3,_⟩:=HM.out.2.1.open;obtain⟨_,_,h4,_⟩:=HM.out.2.2.1.open;rw[xl] at h3 h4;omega
  have oz:nl<=180:=by have:=HL.out.2.2.1;omega
  have ZO:nh<=180:=by have:=HL.out.2.2.2;omega
  have kX:=xS.out.1.q8 HM.out.2.2.2;have ly:(Mok.cx K).holds (.agg #[.slice ua m.length uc]) wc:=Mok.q8 xS.out.2.1 HM.out.2.2.2;have lq:=xS.out.2.2.1.q8 HM.out.2.2.2;have HN:=lhd (aiq bH Ds);have b0:=kX.1;obtain⟨A,hA⟩ : ∃ A,A=qrb K M (d:Int):=⟨_,rfl⟩
  have hB:=qqs _ _ K M wc ly HK.out.1 HK.out.2.1 lq HK.out.2.2.2.2.1 HK.out.2.2.1 HK.out.2.2.2.2.2.2 d (by omega) (by omega);have qC:A.length=nl*nh:=by rw[hA,qt7,<-HL.out.1,<-HL.out.2.1,bH,Ds]
  rw[<-HL.out.1,<-HL.out.2.1,bH,Ds,<-hA] at hB;have HB:=lhd (aiq hB (aiq hA (aiq qC (aiq kX (aiq ly lq)))));clear bH Ds hB hA qC kX ly lq;go_wp2_with fail;refine HB.out.1.mono ?_;rintro e w7 ⟨v7,rfl,⟨vm,rfl,ow⟩,iY⟩;obtain⟨am,nm,km,rfl⟩:=qg ow;obtain⟨V,hV⟩ : ∃ V,V=w7.alloc (.cells #[.int .i64 nl,.int .i64 nh,.slice am nm km] 44):=⟨_,rfl⟩
  obtain⟨pm,pj⟩ : ∃ pm,pm=w7.heap.size:=⟨_,rfl⟩
  have aK:Below w7.heap.size w7 V:=by rw[hV];exact(Below.refl _ _).alloc (nlr _) _
  have mh:Below wc.heap.size wc V:=iY.trans (aK.mono iY.size);have Gi:Below w6.heap.size w6 V:=HM.out.2.2.2.trans (mh.mono HM.out.2.2.2.size);have Sj:qtc V pm nl nh (.slice am nm km):=by
   rw[hV,pj];exact⟨qd w7 _ _ (0,0) 0,qd w7 _ _ (0,0) 1,qd w7 _ _ (0,0) 2⟩
  have E7:Hid (Mps w V q pl pm (.slice ua m.length uc) (.slice a5 nM c5) (.slice al nl kl) (.slice ah nh kh) (.slice am nm km) K M nl nh low high A) :=
   ⟨HB.out.2.2.2.1.q8 mh,Mok.q8 HB.out.2.2.2.2.1 mh,HB.out.2.2.2.2.2.q8 mh,Cx.q8 mh HM.out.1,HM.out.2.1.q8 mh,Sj,ow.q8 aK,HM.out.2.2.1.q8 mh,xS.out.2.2.2.trans (Gi.mono xS.out.2.2.2.size)⟩
  have Sm:=lhd (aiq hV pj);clear hV pj aK mh Gi Sj ow iY b0;go_upto_region 7 with fail;rw[<-Sm.out.2,<-Sm.out.1];have m0:=E7.out.mm.1;have m1:=E7.out.mm.2.1;have l0:=E7.out.l0;have b1:=E7.out.bv.1;go_wp2_with fail;refine(qu2 _ _ K d ks V.heap.size V E7.out.cx (H.out.2.2.2.q8 E7.out.bl) HK.out.1 HK.out.2.1 (nlr _)).mono ?_;rintro e w8 ⟨v8,Lx,rfl,Sn,Sp,Sq,Sr,iX,mV⟩;obtain⟨a8,n8,c8,rfl⟩:=qg (Sl.qc iX);have Gj:(Mok.ch Lx).holds (.slice a8 n8 c8) w8:=Sl.qc iX;have Ss:(Fk.cf (co Lx) 180 8).holds (.slice a8 n8 c8) w8:=qko (que Gj Sn Sq) (fun _=>rfl) Sp (nlr _);have zK:q86 K (d:Int) (co Lx):=fun c hc=>by
   obtain⟨p,hp,rfl,_⟩:=qca hc;exact Sr p hp
  have E8:=lhd (E7.out.q8 mV);have Nz:=lhd (aiq Ss zK);clear Sn Sp Sq Sr iX mV Gj Ss zK m0 m1 l0 b1;have b1:=E8.out.bv.1;go_wp2_with fail;refine(qsb _ _ K M w8 E8.out.cx HK.out.1 HK.out.2.1 HK.out.2.2.1 E8.out.pr HK.out.2.2.2.2.1 _ (co Lx) 180 8 4200 Nz.out.1 (by omega) (by omega)).mono ?_;rintro e w9 ⟨v9,rfl,⟨Ly,ib,pX,sZ,Bt,vU⟩,lR⟩;obtain⟨a9,n9,c9,rfl⟩:=qg vU;obtain⟨X7,N0,Su,Sv,Sw⟩:=vU.open;unfold maxLen at N0;rw[z6,qz] at Su;have oA:Ly.length=n9:=by omega
  have wG:co Ly=q4t K M (co Lx):=funext pX;obtain⟨N1,wE⟩:=qto HK.out.2.2.1 HK.out.2.2.2.1 HK.out.2.2.2.2.2.1 HD.out.2 Nz.out.2 ib wG;rw[<-HL.out.2.1] at N1;have ui:∀ p∈Ly,nb p.2<=4200:=fun p hp=>by
   have:=(Bt _ (go.2 ⟨p,hp,rfl⟩)).2.2
   rwa [j5] at this
  have X8:n9<=180:=by omega
  have E9:=lhd (E8.out.q8 lR);have HY:=lhd (aiq N1 (aiq wE (aiq ui (aiq oA (aiq vU (aiq Sv Sw))))));have X9:=lhd (aiq (show (Fk.cf (co Lx) 180 8).holds (.slice a8 n8 c8) w9 from Fk.q8 Nz.out.1 lR) trivial);clear ib pX sZ Bt vU Su Sv Sw oA wG N1 wE ui lR b1;obtain⟨Gf,Gk⟩ : ∃ Gf:Int->Int->Int,Gf=fun a=>q4t K M (bdD K a 1):=⟨_,rfl⟩
  have kW:∀ j,j < nh->co (qqz low A nh j nl)=Gf (high.getD j 0):=fun j hj=>by
   have:=qtn HK.out.2.2.1 HK.out.2.2.2.1 HK.out.2.2.2.2.2.1 (d:=(d:Int)) (j:=j) (by rw[<-HL.out.2.1,HN.out.2];exact hj);rw[<-HL.out.1,<-HL.out.2.1,HN.out.1,HN.out.2,<-HB.out.2.1] at this;rw[Gk];exact this
  have aD:∀ j,∀ p∈qqz low A nh j nl,p.1∈low:=fun j=>by
   have:=qro (K:=K) (m:=M) (d:=(d:Int)) (j:=j) (n:=nh) (k:=nl) (by rw[<-HL.out.1,HN.out.1];exact nlr _) (A:=A);rw[<-HL.out.1] at this;exact this
  have Bc:∀ c,(c∈low\/c∈high)->I64 c:=fun c hc=>by
   have:∃ e,c∈yt K M e:=by
    rcases hc with h | h
    ·exact⟨_,HL.out.1 ▸ h⟩
    ·exact⟨_,HL.out.2.1 ▸ h⟩
   obtain⟨e,h⟩:=this;obtain⟨y,hy,he,_⟩:=qsc HK.out.2.2.1 HK.out.2.2.2.1 HK.out.2.2.2.2.2.1 h;exact he ▸ (HK.out.1 y hy).1.1
  have Sx:∀ x∈A,nb x<=200:=fun x hx=>gl (qu6 HK.out.2.2.1 HK.out.2.2.2.1 HK.out.2.2.2.2.2.1 (by have:=HK.out.2.1;omega) d x (HB.out.2.1 ▸ hx)) (by have:=HK.out.2.1;omega)
  have tF:∀ j,LOk 200 (qqz low A nh j nl):=fun j p hp=>by
   refine⟨Bc _ (.inl (aD j p hp)),?_⟩;obtain⟨i,_,rfl⟩:=go.1 hp;show nb (A.getD _ 0)<=200;rw[gF];cases hx:A[i*nh+j]? with
   | none=>show nb 0<=200;rw[q0g];omega
   | some x=>exact Sx x (gh hx)
  have jA:high.Nodup:=by
   have:=qs7 HK.out.2.2.1 HK.out.2.2.2.1 HK.out.2.2.2.2.2.1 (d:Int);rw[<-HL.out.2.1] at this;exact this.imp fun h e=>by omega
  have Bd:=lhd (aiq kW (aiq aD (aiq Bc (aiq tF (aiq jA Gk)))));clear kW aD Bc Sx tF jA Gk;go_wp2_with fail;go_loopg [16,75] n9 (fun g want i wx=>∃ k:Nat,k+g=n9/\i = .int .i64 k/\Hid ((Fk.cf (wS Gf (Ly.take k)) (180*k) (8600+k)).holds want wx/\Below w9.heap.size w9 wx))
  case atStart=>exact⟨0,by omega,rfl,(show Hid _ from⟨⟨[],by unfold Cn;simp,fun _=>rfl,gp _,(by intro t ht;cases ht),Sl.nil _ _⟩,Below.refl _ _⟩)⟩
  case round =>
   obtain⟨k,Rn,rfl,HI⟩:=hrel;have EK:=lhd (E9.out.q8 HI.out.2);cases gk with
   | zero =>
    have nC:k=n9:=by omega
    have fO:¬ ((k:Int) < (n9:Int)):=by omega
    have fq:=HI.out.1;rw[gm (by rw[HY.out.2.2.2.1];omega)] at fq;have fq:=qko (N':=32400) (S':=8780) fq (fun _=>rfl) (by omega) (by omega);have uV:(Fk.cf (co Lx) 180 8).holds (.slice a8 n8 c8) wr:=Fk.q8 X9.out.1 HI.out.2;have HW:=lhd (aiq fq uV);clear fq uV nC;have b1:=EK.out.bv.1;go_upto_region 22 with fail
    go_cut [108] from 100 to 107 (fun x wx=>x=Value.bool false/\Hid (Below wr.heap.size wr wx))
    case first =>
     rename_i J K2 hJ iZ;have kX:=EK.out.bv;have ly:=EK.out.cx;have lq:=EK.out.pr;have fq:=HW.out.1;have uV:=HW.out.2;have hK:=HK.out.1;have kG:=HK.out.2.1;have hG:=HK.out.2.2.1;have hI:=HK.out.2.2.2.2.1;have wE:=HY.out.2.1;have Gk:=Bd.out.2.2.2.2.2;rw[<-Gk] at wE;refine q1a rfl (fun i v w=>(([.mok (.cx K),.mok (.prs M),.mok (.cx K),.fk (.cf (co Lx) 180 8),.fk (.cf (fun r=>q1q (co Lx) r K) 3420 3700),.fk (.cf (wS Gf Ly) 180 11200),.fk (.cf (wS Gf Ly) 32400 8780),.val (.bool true),.val (.bool false)] : List KP).getD i .any).p v w) 157 rfl (by kernel_rfl) (by kernel_rfl) (fun i v w w' h hb=>KP.q8 _ _ _ _ h hb) ?step ?done
     case step =>
      intro i o ho a w' hw hd ae az
      match i,ho,hd with
      | 0,ho,hd =>
       obtain rfl:=osi ho;exact⟨rfl,qq5 _ _ rfl _ (ae 8 (qu (by kernel_rfl))) _ (ldK (kX.q8 hw)) (Mok.q8 (k:=.cx K) ly hw)⟩
      | 1,ho,hd =>
       obtain rfl:=osi ho;exact⟨rfl,q7b _ (.inl rfl) (by show (.mok (.prs M):KP).p (a.tmps.getD 9 undef) w';rw[ae 9 (qu (by kernel_rfl))];exact Mok.q8 (k:=.prs M) lq hw)⟩
      | 2,ho,hd =>
       obtain rfl:=osi ho;exact⟨rfl,qq5 _ _ rfl _ (ae 8 (qu (by kernel_rfl))) _ (ldK (kX.q8 hw)) (Mok.q8 (k:=.cx K) ly hw)⟩
      | 3,ho,hd =>
       obtain rfl:=osi ho;exact⟨rfl,q7b _ (.inl rfl) (by show (.fk (.cf (co Lx) 180 8):KP).p (a.tmps.getD 15 undef) w';rw[ae 15 (qu (by kernel_rfl))];exact Fk.q8 (k:=.cf (co Lx) 180 8) uV hw)⟩
      | 4,ho,hd =>
       obtain rfl:=osi ho;have f2:(.mok (.cx K):KP).p (a.tmps.getD 102 undef) w':=hd 2 _ _ rfl rfl (by kernel_rfl);have f3:(.fk (.cf (co Lx) 180 8):KP).p (a.tmps.getD 103 undef) w':=hd 3 _ _ rfl rfl (by kernel_rfl);exact⟨rfl,qh1 _ _ _ rfl qrv #[a.tmps.getD 102 undef,a.tmps.getD 103 undef] (by simp[Act.eval]) (qux _ _ K (co Lx) 180 8 3700 _ f2 hK kG f3 (by omega) (by omega))⟩
      | 5,ho,hd =>
       obtain rfl:=osi ho;have f0:(.mok (.cx K):KP).p (a.tmps.getD 100 undef) w':=hd 0 _ _ rfl rfl (by kernel_rfl);have f1:(.mok (.prs M):KP).p (a.tmps.getD 101 undef) w':=hd 1 _ _ rfl rfl (by kernel_rfl);have f4:(.fk (.cf (fun r=>q1q (co Lx) r K) 3420 3700):KP).p (a.tmps.getD 104 undef) w':=hd 4 _ _ rfl rfl (by kernel_rfl);exact⟨rfl,qh1 _ _ _ rfl q36 #[a.tmps.getD 100 undef,a.tmps.getD 101 undef,a.tmps.getD 104 undef] (by simp[Act.eval]) (by rw[<-wE];exact qsb _ _ K M _ f0 hK kG hG f1 hI _ _ 3420 3700 11200 f4 (by omega) (by omega))⟩
      | 6,ho,hd =>
       obtain rfl:=osi ho;exact⟨rfl,q7b _ (.inl rfl) (by show (.fk (.cf (wS Gf Ly) 32400 8780):KP).p (a.tmps.getD 16 undef) w';rw[ae 16 (qu (by kernel_rfl))];exact Fk.q8 (k:=.cf (wS Gf Ly) 32400 8780) fq hw)⟩
      | 7,ho,hd =>
       obtain rfl:=osi ho;have f5:(.fk (.cf (wS Gf Ly) 180 11200):KP).p (a.tmps.getD 105 undef) w':=hd 5 _ _ rfl rfl (by kernel_rfl);have f6:(.fk (.cf (wS Gf Ly) 32400 8780):KP).p (a.tmps.getD 106 undef) w':=hd 6 _ _ rfl rfl (by kernel_rfl);exact⟨rfl,qh1 _ _ _ rfl qre #[a.tmps.getD 105 undef,a.tmps.getD 106 undef] (by simp[Act.eval]) (qru _ _ (wS Gf Ly) 180 11200 32400 8780 _ f5 f6 (by omega) (by omega))⟩
      | 8,ho,hd =>
       obtain rfl:=osi ho;have f7:a.tmps.getD 107 undef = .bool true:=hd 7 _ _ rfl rfl (by kernel_rfl);exact⟨rfl,qu9 _ true rfl f7⟩
      | i+9,ho,hd =>
       have:i+9 < 9:=(gv.1 ho).1;omega
     case done =>
      intro a w7 az jR hf ae hw;have ht:a.tmps.getD 108 undef = .bool false:=hf 8 _ _ rfl rfl;refine iZ _ _ (Met.intro (hJ _ _ ⟨a.tmps.getD 100 undef,a.tmps.getD 101 undef,a.tmps.getD 102 undef,a.tmps.getD 103 undef,a.tmps.getD 104 undef,a.tmps.getD 105 undef,a.tmps.getD 106 undef,a.tmps.getD 107 undef,a.tmps.getD 108 undef,⟨ht,lhd hw⟩,(q8z az jR ae).trans ?_⟩));kernel_rfl
    case rest =>
     obtain⟨rfl,XA⟩:=hcut;obtain⟨wd,XB⟩ : ∃ wd,wd=wc:=⟨_,rfl⟩
     subst XB;have ED:=lhd (EK.out.q8 XA.out);clear b1 fO;go_wp2_with fail;go_loopg [111] nh (fun g i wx=>∃ j:Nat,j+g=nh/\i = .int .i64 j/\Hid (Below wd.heap.size wd wx))
     case atStart=>exact⟨0,by omega,rfl,(show Hid _ from Below.refl _ _)⟩
     case round =>
      obtain⟨j,M8,rfl,HJ⟩:=hrel;have EJ:=lhd (ED.out.q8 HJ.out);cases gk with
      | zero =>
       have dA:¬ ((j:Int) < (nh:Int)):=by omega
       go_wp2_with fail;go_ret;exact⟨rfl,EJ.out.bl⟩
      | succ gj =>
       have jO:j < nh:=by omega
       have IF:(j:Int) < (nh:Int):=by omega
       obtain⟨_,_,_,y4,y5⟩:=EJ.out.hs.open;obtain⟨ad,ck⟩ : ∃ ad,ah=some ad:=by
        cases ah with
        | none=>have:=y4 rfl;omega
        | some ad=>exact⟨ad,rfl⟩
       subst ck;obtain⟨id,hid⟩ : ∃ id,high[j]? = some id:=⟨_,g8 (by rw[HN.out.2];exact jO)⟩
       have jL:high.getD j 0=id:=by rw[gF,hid];rfl
       have Gl:=gh hid;have d0:wr.cell? (ad.add j)=some (.int .i64 id):=y5 ad rfl _ _ (by simp[ints,hid]);have bj:=EJ.out.bv.1;have IS:=lhd (aiq jL Gl);clear y4 y5 hid jL Gl;go_wp2_with fail;refine(quw _ _ K M wr EJ.out.cx HK.out.1 HK.out.2.1 HK.out.2.2.1 EJ.out.pr HK.out.2.2.2.2.1 id (Bd.out.2.2.1 id (.inr IS.out.2))).mono ?_;rintro e wu ⟨vu,rfl,Gm,N2⟩;have EU:=lhd (EJ.out.q8 N2);have HU:=lhd (aiq Gm (HJ.out.trans (N2.mono HJ.out.size)));clear Gm N2 d0 bj;go_wp2_with fail;refine(EU.out.col HN.out.1 (by omega) (by omega) HB.out.2.2.1 jO).mono ?_;rintro e Sy ⟨vc,rfl,hC,tq⟩;obtain⟨C,IT⟩ : ∃ C,C=qqz low A nh j nl:=⟨_,rfl⟩
       rw[<-IT] at hC;have Sz:C.length=nl:=by rw[IT,qs5]
       obtain⟨ac,nc,cc,rfl⟩:=qg hC;obtain⟨XC,N3,td,Df,vV⟩:=Sl.open hC;unfold maxLen at N3;rw[z6,qz] at td;have N4:nc=nl:=by omega
       subst N4;have XD:=lhd (EU.out.q8 tq);have sO:=lhd (aiq hC (aiq IT (aiq Sz (aiq Df (aiq vV (aiq (HU.out.2.trans (tq.mono HU.out.2.size)) (Fk.q8 HU.out.1 tq)))))));clear hC IT Sz td Df vV tq;go_wp2_with fail;go_loopg [24,124] nc (fun g sum i wx=>∃ t:Nat,t+g=nc/\i = .int .i64 t/\Hid ((Fk.cf (wS (upX K M) (C.take t)) (180*t) (10200+t)).holds sum wx/\Below Sy.heap.size Sy wx))
       case atStart=>exact⟨0,by omega,rfl,(show Hid _ from⟨⟨[],by unfold Cn;simp,fun _=>rfl,gp _,(by intro t ht;cases ht),Sl.nil _ _⟩,Below.refl _ _⟩)⟩
       case round =>
        obtain⟨t,ZP,rfl,HT⟩:=hrel;have ET:=lhd (XD.out.q8 HT.out.2);cases gk with
        | zero =>
         have xU:t=nc:=by omega
         have GV:¬ ((t:Int) < (nc:Int)):=by omega
         have eu:=HT.out.1;rw[gm (by rw[sO.out.2.2.1];omega)] at eu;have eu:=qko (N':=32400) (S':=10380) eu (fun _=>rfl) (by omega) (by omega);have Gm:=Fk.q8 sO.out.2.2.2.2.2.2 HT.out.2;have S7:=qum HK.out.2.2.1 HK.out.2.2.2.1 HK.out.2.2.2.2.2.1 (d:=(d:Int)) (c:=id) (by rw[<-HL.out.2.1];exact IS.out.2);have rK:=qun HK.out.2.2.1 HK.out.2.2.2.1 HK.out.2.2.2.2.2.1 HD.out.2 (d:=(d:Int)) (j:=j) (by rw[<-HL.out.2.1,HN.out.2];exact jO);rw[<-HL.out.1,<-HL.out.2.1,HN.out.1,HN.out.2,<-HB.out.2.1,IS.out.1,<-sO.out.2.1] at rK;have HS:=lhd (aiq eu (aiq Gm (aiq S7 rK)));have bt:=ET.out.bv.1;clear eu Gm S7 rK xU;go_wp2_with fail;refine(qsb _ _ K M wr ET.out.cx HK.out.1 HK.out.2.1 HK.out.2.2.1 ET.out.pr HK.out.2.2.2.2.1 _ (upX K M id) 180 5000 9200 HS.out.2.1 (by omega) (by omega)).mono ?_;rintro e XE ⟨ZQ,rfl,eQ,Be⟩;rw[HS.out.2.2.1] at eQ;have jB:=lhd (aiq eQ Be);have bt1:=(ET.out.q8 Be).bv.1;clear eQ Be bt;go_wp2_with fail;refine(quy id (Bd.out.2.2.1 id (.inr IS.out.2)) XE).mono ?_;rintro e XF ⟨ZR,rfl,ri,Bf⟩;have dM:=lhd (aiq ri (aiq (jB.out.2.trans (Bf.mono jB.out.2.size)) (Fk.q8 jB.out.1 Bf)));have bt2:=(ET.out.q8 dM.out.2.1).bv.1;clear ri Bf bt1;go_wp2_with fail;refine(qru _ _ (qw id 1) 180 9200 1 1 XF dM.out.2.2 dM.out.1 (by omega) (by omega)).mono ?_;rintro e XG ⟨ZS,rfl,rfl,Gn⟩;have wA:=lhd (dM.out.2.1.trans (Gn.mono dM.out.2.1.size));have E3:=lhd (ET.out.q8 wA.out);have bt3:=E3.out.bv.1;clear Gn bt2;go_wp2_with fail;refine(qux _ _ K (upX K M id) 180 5000 8700 XG E3.out.cx HK.out.1 HK.out.2.1 (Fk.q8 HS.out.2.1 wA.out) (by omega) (by omega)).mono ?_;rintro e XH ⟨ZT,rfl,tT,Bg⟩;rw[HS.out.2.2.2] at tT;have BD:=lhd (aiq tT (wA.out.trans (Bg.mono wA.out.size)));have XI:=(E3.out.q8 Bg).bv.1;clear tT Bg bt3;go_wp2_with fail;refine(qru _ _ (wS (upX K M) C) 3420 8700 32400 10380 XH BD.out.1 (Fk.q8 HS.out.1 BD.out.2) (by omega) (by omega)).mono ?_;rintro e ZU ⟨ZV,rfl,rfl,Gp⟩;have N5:=lhd (BD.out.2.trans (Gp.mono BD.out.2.size));clear Gp XI GV;go_wp2_with fail;go_roundg gj
         case measure=>omega
         case rel =>
          have h1:=sO.out.2.2.2.2.2.1.trans (HT.out.2.mono sO.out.2.2.2.2.2.1.size);exact⟨j+1,by omega,qh (by omega),(show Hid _ from h1.trans (N5.out.mono h1.size))⟩
        | succ gt =>
         have xU:t < nc:=by omega
         have Hr:(t:Int) < (nc:Int):=by omega
         obtain⟨bd,ew⟩ : ∃ bd,ac=some bd:=by
          cases ac with
          | none=>have:=sO.out.2.2.2.1 rfl;omega
          | some bd=>exact⟨bd,rfl⟩
         subst ew;obtain⟨⟨tc,tx⟩,hp⟩ : ∃ p,C[t]? = some p:=⟨_,g8 (by rw[sO.out.2.2.1];exact xU)⟩
         obtain⟨x0,x1,x2⟩:=jd (ctm C) t ⟨tc,decide (tx < 0),mg tx⟩ (by simp[ctm,hp]);have d0:wr.cell? (bd.add (t*3))=some (.int .i64 tc):=q8 HT.out.2 (sO.out.2.2.2.2.1 bd rfl _ _ x0);have d1:wr.cell? ⟨(bd.add (t*3)).block,(bd.add (t*3)).off+1,none⟩=some (.bool (decide (tx < 0))):=by rw[qi _ _ _ (by omega)];exact q8 HT.out.2 (sO.out.2.2.2.2.1 bd rfl _ _ x1)
         have d2:wr.cell? ⟨(bd.add (t*3)).block,(bd.add (t*3)).off+2,none⟩=some (.string (mg tx)):=by rw[qi _ _ _ (by omega)];exact q8 HT.out.2 (sO.out.2.2.2.2.1 bd rfl _ _ x2)
         have tF:=Bd.out.2.2.2.1 j (tc,tx) (by rw[<-sO.out.2.1];exact gh hp);have cw:∀ r,wS (upX K M) (C.take t) r+tx*upX K M tc r=wS (upX K M) (C.take (t+1)) r:=fun r=>by
          rw[gq,hp];exact(qsm (upX K M) (C.take t) (tc,tx) r).symm
         have HP:=lhd (aiq tF cw);clear x0 x1 x2 hp tF cw;go_upto_region 32 with fail;obtain⟨V,hV⟩ : ∃ V,V=wr.alloc (.cells #[.int .i64 tc,.bool (decide (tx < 0)),.string (mg tx)] 71):=⟨_,rfl⟩
         obtain⟨pb,kK⟩ : ∃ pb,pb=wr.heap.size:=⟨_,rfl⟩
         have aK:Below wr.heap.size wr V:=by rw[hV];exact(Below.refl _ wr).alloc (nlr _) _
         have z0:V.cell? ⟨pb,0,none⟩=some (.int .i64 tc):=by rw[hV,kK];exact qd wr _ _ (0,0) 0
         have z1:V.cell? ⟨pb,1,none⟩=some (.bool (decide (tx < 0))):=by rw[hV,kK];exact qd wr _ _ (0,0) 1
         have z2:V.cell? ⟨pb,2,none⟩=some (.string (mg tx)):=by rw[hV,kK];exact qd wr _ _ (0,0) 2
         rw[<-kK,<-hV];have HV:=lhd (aiq z0 (aiq z1 (aiq z2 (aiq (ET.out.q8 aK) (aiq (Fk.q8 HT.out.1 aK) (HT.out.2.trans (aK.mono HT.out.2.size)))))));clear hV kK aK z0 z1 z2 d0 d1 d2;refine qrr fun KO Fu=>?_
         go_cut [24] from 128 to 137 (fun x wy=>Hid ((Fk.cf (wS (upX K M) (C.take (t+1))) (180*(t+1)) (10200+(t+1))).holds x wy/\Below V.heap.size V wy))
         case first =>
          rename_i J K2 hJ iZ;have z0:=HV.out.1;have z1:=HV.out.2.1;have z2:=HV.out.2.2.1;have kX:=HV.out.2.2.2.1.bv;have ly:=HV.out.2.2.2.1.cx;have lq:=HV.out.2.2.2.1.pr;have XJ:=HV.out.2.2.2.2.1;have hK:=HK.out.1;have kG:=HK.out.2.1;have hG:=HK.out.2.2.1;have hI:=HK.out.2.2.2.2.1;have tF:=HP.out.1;have cw:=HP.out.2;refine qr7 rfl (fun i v w=>(([.fk (.cf (wS (upX K M) (C.take t)) (180*t) (10200+t)),.val (.pointer (some ⟨pb,1,none⟩)),.val (wv tx),.mok (.cx K),.mok (.prs M),.val (.pointer (some ⟨pb,0,none⟩)),.val (.int .i64 tc),.fk (.cf (upX K M tc) 180 5000),.fk (.cf (fun r=>tx*upX K M tc r) 180 10200),.fk (.cf (wS (upX K M) (C.take (t+1))) (180*(t+1)) (10200+(t+1))),.fk (.cf (wS (upX K M) (C.take (t+1))) (180*(t+1)) (10200+(t+1)))] : List KP).getD i .any).p v w) 10 12 157 rfl (by kernel_rfl) (by kernel_rfl) (by kernel_rfl) rfl (fun i v w w' h hb=>KP.q8 _ _ _ _ h hb) ?step ?last ?done
          case step =>
           intro i o ho oR a w' hw hd ae az
           match i,ho,hd with
           | 0,ho,hd =>
            obtain rfl:=osi ho;exact⟨rfl,gy _,q7b _ (.inl rfl) (by show (.fk (.cf (wS (upX K M) (C.take t)) (180*t) (10200+t)):KP).p (a.tmps.getD 24 undef) w';rw[ae 24 (yi (by kernel_rfl))];exact Fk.q8 (k:=(.cf (wS (upX K M) (C.take t)) (180*t) (10200+t))) XJ hw)⟩
           | 1,ho,hd =>
            obtain rfl:=osi ho;exact⟨rfl,gy _,qqw _ _ _ rfl _ (ae 26 (yi (by kernel_rfl))) _ (qr2 _ pb) ⟨_,rfl,rfl,Below.refl _ _⟩⟩
           | 2,ho,hd =>
            obtain rfl:=osi ho;have f1:a.tmps.getD 129 undef = .pointer (some ⟨pb,1,none⟩):=hd 1 _ _ rfl rfl (by kernel_rfl);exact⟨rfl,gy _,qq5 _ _ rfl _ f1 _ (qqx (Cx.q8 hw z1) (Cx.q8 hw z2)) (rfl)⟩
           | 3,ho,hd =>
            obtain rfl:=osi ho;exact⟨rfl,gy _,qq5 _ _ rfl _ (ae 8 (yi (by kernel_rfl))) _ (ldK (kX.q8 hw)) (Mok.q8 (k:=.cx K) ly hw)⟩
           | 4,ho,hd =>
            obtain rfl:=osi ho;exact⟨rfl,gy _,q7b _ (.inl rfl) (by show (.mok (.prs M):KP).p (a.tmps.getD 9 undef) w';rw[ae 9 (yi (by kernel_rfl))];exact Mok.q8 (k:=.prs M) lq hw)⟩
           | 5,ho,hd =>
            obtain rfl:=osi ho;exact⟨rfl,gy _,qqw _ _ _ rfl _ (ae 26 (yi (by kernel_rfl))) _ (qrj _ pb) ⟨_,rfl,rfl,Below.refl _ _⟩⟩
           | 6,ho,hd =>
            obtain rfl:=osi ho;have f5:a.tmps.getD 133 undef = .pointer (some ⟨pb,0,none⟩):=hd 5 _ _ rfl rfl (by kernel_rfl);exact⟨rfl,gy _,qq5 _ _ rfl _ f5 _ (qe0 _ _ _ (Cx.q8 hw z0)) (rfl)⟩
           | 7,ho,hd =>
            obtain rfl:=osi ho;have f3:(.mok (.cx K):KP).p (a.tmps.getD 131 undef) w':=hd 3 _ _ rfl rfl (by kernel_rfl);have f4:(.mok (.prs M):KP).p (a.tmps.getD 132 undef) w':=hd 4 _ _ rfl rfl (by kernel_rfl);have f6:a.tmps.getD 134 undef = .int .i64 tc:=hd 6 _ _ rfl rfl (by kernel_rfl);exact⟨rfl,gy _,qh1 _ _ _ rfl qbg #[a.tmps.getD 131 undef,a.tmps.getD 132 undef,.int .i64 tc] (by rw[<-f6];simp[Act.eval]) (quw _ _ K M _ f3 hK kG hG f4 hI tc tF.1)⟩
           | 8,ho,hd =>
            obtain rfl:=osi ho;have f2:a.tmps.getD 130 undef=wv tx:=hd 2 _ _ rfl rfl (by kernel_rfl);have f7:(.fk (.cf (upX K M tc) 180 5000):KP).p (a.tmps.getD 135 undef) w':=hd 7 _ _ rfl rfl (by kernel_rfl);exact⟨rfl,gy _,qh1 _ _ _ rfl qr1 #[wv tx,a.tmps.getD 135 undef] (by rw[<-f2];simp[Act.eval]) (qtj tx _ (upX K M tc) _ 180 5000 180 10200 _ f7 (by have:nb tx<=200:=tF.2;omega) (by omega) (by omega) (by omega) (fun _=>rfl))⟩
           | 9,ho,hd =>
            obtain rfl:=osi ho;have f0:(.fk (.cf (wS (upX K M) (C.take t)) (180*t) (10200+t)):KP).p (a.tmps.getD 128 undef) w':=hd 0 _ _ rfl rfl (by kernel_rfl);have f8:(.fk (.cf (fun r=>tx*upX K M tc r) 180 10200):KP).p (a.tmps.getD 136 undef) w':=hd 8 _ _ rfl rfl (by kernel_rfl);exact⟨rfl,gy _,qh1 _ _ _ rfl qr8 #[a.tmps.getD 128 undef,a.tmps.getD 136 undef] (by simp[Act.eval]) (quf _ _ _ _ _ (180*t) (10200+t) 180 10200 (180*(t+1)) (10200+(t+1)) _ f0 f8 (by omega) (by omega) (by omega) (by omega) cw)⟩
           | i+10,ho,hd =>
            omega
          case last =>
           intro o ho a w' hd;obtain rfl:=osi ho;have f9:(KP.fk (.cf (wS (upX K M) (C.take (t+1))) (180*(t+1)) (10200+(t+1)))).p (a.tmps.getD 137 undef) w':=hd 9 _ _ rfl rfl (by decide);exact⟨rfl,gy _,q7b _ (.inr rfl) f9⟩
          case done =>
           intro a w7 az jR hf ae hw;have ht:(KP.fk (.cf (wS (upX K M) (C.take (t+1))) (180*(t+1)) (10200+(t+1)))).p (a.tmps.getD 24 undef) w7:=hf 10 _ _ rfl rfl;refine iZ _ _ (Met.intro (hJ _ _ ⟨a.tmps.getD 24 undef,a.tmps.getD 128 undef,a.tmps.getD 129 undef,a.tmps.getD 130 undef,a.tmps.getD 131 undef,a.tmps.getD 132 undef,a.tmps.getD 133 undef,a.tmps.getD 134 undef,a.tmps.getD 135 undef,a.tmps.getD 136 undef,a.tmps.getD 137 undef,(show Hid _ from⟨ht,hw⟩),(q8z az jR ae).trans ?_⟩));kernel_rfl
         case rest =>
          refine Fu _ _ ?_;go_wp2;go_roundg gt
          case measure=>omega
          case rel=>exact⟨t+1,by omega,qh (by omega),(show Hid _ from⟨hcut.out.1,HV.out.2.2.2.2.2.trans (hcut.out.2.mono HV.out.2.2.2.2.2.size)⟩)⟩
   | succ gk =>
    have nC:k < n9:=by omega
    have me:(k:Int) < (n9:Int):=by omega
    obtain⟨bd,ew⟩ : ∃ bd,a9=some bd:=by
     cases a9 with
     | none=>have:=HY.out.2.2.2.2.2.1 rfl;omega
     | some bd=>exact⟨bd,rfl⟩
    subst ew;obtain⟨⟨tc,tx⟩,hp⟩ : ∃ p,Ly[k]? = some p:=⟨_,g8 (by rw[HY.out.2.2.2.1];exact nC)⟩
    obtain⟨x0,x1,x2⟩:=jd (ctm Ly) k ⟨tc,decide (tx < 0),mg tx⟩ (by simp[ctm,hp]);have d0:wr.cell? (bd.add (k*3))=some (.int .i64 tc):=q8 HI.out.2 (HY.out.2.2.2.2.2.2 bd rfl _ _ x0);have d1:wr.cell? ⟨(bd.add (k*3)).block,(bd.add (k*3)).off+1,none⟩=some (.bool (decide (tx < 0))):=by rw[qi _ _ _ (by omega)];exact q8 HI.out.2 (HY.out.2.2.2.2.2.2 bd rfl _ _ x1)
    have d2:wr.cell? ⟨(bd.add (k*3)).block,(bd.add (k*3)).off+2,none⟩=some (.string (mg tx)):=by rw[qi _ _ _ (by omega)];exact q8 HI.out.2 (HY.out.2.2.2.2.2.2 bd rfl _ _ x2)
    have Ed:=HY.out.1 (tc,tx) (gh hp);have xU:=HY.out.2.2.1 (tc,tx) (gh hp);have cw:∀ r,wS Gf (Ly.take k) r+tx*Gf tc r=wS Gf (Ly.take (k+1)) r:=fun r=>by
     rw[gq,hp];exact(qsm Gf (Ly.take k) (tc,tx) r).symm
    obtain⟨j0,hj0⟩:=bu Ed;have MP:j0 < nh:=by
     have:=(ge.1 hj0).1
     rwa [HN.out.2] at this
    have HP:=lhd (aiq xU (aiq cw (aiq hj0 trivial)));clear x0 x1 x2 hp Ed xU cw hj0;go_upto_region 15 with fail;obtain⟨V,hV⟩ : ∃ V,V=wr.alloc (.cells #[.int .i64 tc,.bool (decide (tx < 0)),.string (mg tx)] 71):=⟨_,rfl⟩
    obtain⟨pb,kK⟩ : ∃ pb,pb=wr.heap.size:=⟨_,rfl⟩
    have aK:Below wr.heap.size wr V:=by rw[hV];exact(Below.refl _ wr).alloc (nlr _) _
    have z0:V.cell? ⟨pb,0,none⟩=some (.int .i64 tc):=by rw[hV,kK];exact qd wr _ _ (0,0) 0
    have z1:V.cell? ⟨pb,1,none⟩=some (.bool (decide (tx < 0))):=by rw[hV,kK];exact qd wr _ _ (0,0) 1
    have z2:V.cell? ⟨pb,2,none⟩=some (.string (mg tx)):=by rw[hV,kK];exact qd wr _ _ (0,0) 2
    rw[<-kK,<-hV];have EV:=lhd (EK.out.q8 aK);have HV:=lhd (aiq z0 (aiq z1 (aiq z2 (aiq (Fk.q8 HI.out.1 aK) (HI.out.2.trans (aK.mono HI.out.2.size))))));clear hV kK aK z0 z1 z2 d0 d1 d2;go_wp2_with fail;go_loopg [16,81] nh (fun g want i wx=>∃ j:Nat,j+g=nh/\i = .int .i64 j/\Hid ((j<=j0->(Fk.cf (wS Gf (Ly.take k)) (180*k) (8600+k)).holds want wx)/\(j0 < j->(Fk.cf (wS Gf (Ly.take (k+1))) (180*(k+1)) (8600+(k+1))).holds want wx)/\Below V.heap.size V wx))
    case atStart=>exact⟨0,by omega,rfl,(show Hid _ from⟨fun _=>HV.out.2.2.2.1,fun h=>by omega,Below.refl _ _⟩)⟩
    case round =>
     obtain⟨j,M8,rfl,HJ⟩:=hrel;have EJ:=lhd (EV.out.q8 HJ.out.2.2);cases gk with
     | zero =>
      have jO:j=nh:=by omega
      have dA:¬ ((j:Int) < (nh:Int)):=by omega
      go_wp2_with fail;go_roundg gk
      case measure=>omega
      case rel=>exact⟨k+1,by omega,qh (by omega),(show Hid _ from⟨HJ.out.2.1 (by omega),HV.out.2.2.2.2.trans (HJ.out.2.2.mono HV.out.2.2.2.2.size)⟩)⟩
     | succ gj =>
      have jO:j < nh:=by omega
      have IF:(j:Int) < (nh:Int):=by omega
      obtain⟨_,_,_,y4,y5⟩:=EJ.out.hs.open;obtain⟨ad,ck⟩ : ∃ ad,ah=some ad:=by
       cases ah with
       | none=>have:=y4 rfl;omega
       | some ad=>exact⟨ad,rfl⟩
      subst ck;obtain⟨id,hid⟩ : ∃ id,high[j]? = some id:=⟨_,g8 (by rw[HN.out.2];exact jO)⟩
      have d0:wr.cell? (ad.add j)=some (.int .i64 id):=y5 ad rfl _ _ (by simp[ints,hid]);have z0:=Cx.q8 HJ.out.2.2 HV.out.1;have z1:=Cx.q8 HJ.out.2.2 HV.out.2.1;have z2:=Cx.q8 HJ.out.2.2 HV.out.2.2.1;by_cases wL:j=j0
      ·have Gq:id=tc:=by
        have:=HP.out.2.2.1;rw[<-wL,hid] at this;exact osi this
       subst Gq;have jL:high.getD j 0=id:=by rw[gF,hid];rfl
       have xV:=lhd (aiq wL (aiq jL (aiq z0 (aiq z1 z2))));clear y4 y5 hid wL jL;go_upto_region 19 with fail;clear d0 z0 z1 z2;refine qrr fun KO Fu=>?_
       go_cut [16] from 90 to 97 (fun x wy=>Hid ((Fk.cf (wS Gf (Ly.take (k+1))) (180*(k+1)) (8600+(k+1))).holds x wy/\Below wr.heap.size wr wy))
       case first =>
        rename_i J K2 hJ iZ;have z0:=xV.out.2.2.1;have z1:=xV.out.2.2.2.1;have z2:=xV.out.2.2.2.2;have fq:=HJ.out.1 (Nat.le_of_eq xV.out.1);have kW:=Bd.out.1 j jO;rw[xV.out.2.1] at kW;have tF:=Bd.out.2.2.2.1 j;have xU:=HP.out.1;have cw:=HP.out.2.1;have XK:=EJ.out;have Ct:=HN.out.1;have qC:=HB.out.2.2.1;refine qr7 rfl (fun i v w=>(([.fk (.cf (wS Gf (Ly.take k)) (180*k) (8600+k)),.val (.pointer (some ⟨pb,1,none⟩)),.val (wv tx),.val (.func (.func 60) #[] #[.pointer (some ⟨pl,0,none⟩),.pointer (some ⟨pm,0,none⟩)]),.val (.int .i64 j),.mok (.ch (qqz low A nh j nl)),.fk (.cf (fun r=>tx*Gf id r) 180 8600),.fk (.cf (wS Gf (Ly.take (k+1))) (180*(k+1)) (8600+(k+1))),.fk (.cf (wS Gf (Ly.take (k+1))) (180*(k+1)) (8600+(k+1)))] : List KP).getD i .any).p v w) 8 10 157 rfl (by kernel_rfl) (by kernel_rfl) (by kernel_rfl) rfl (fun i v w w' h hb=>KP.q8 _ _ _ _ h hb) ?step ?last ?done
        case step =>
         intro i o ho oR a w' hw hd ae az
         match i,ho,hd with
         | 0,ho,hd =>
          obtain rfl:=osi ho;exact⟨rfl,gy _,q7b _ (.inl rfl) (by show (.fk (.cf (wS Gf (Ly.take k)) (180*k) (8600+k)):KP).p (a.tmps.getD 16 undef) w';rw[ae 16 (yi (by kernel_rfl))];exact Fk.q8 (k:=(.cf (wS Gf (Ly.take k)) (180*k) (8600+k))) fq hw)⟩
         | 1,ho,hd =>
          obtain rfl:=osi ho;exact⟨rfl,gy _,qqw _ _ _ rfl _ (ae 18 (yi (by kernel_rfl))) _ (qr2 _ pb) ⟨_,rfl,rfl,Below.refl _ _⟩⟩
         | 2,ho,hd =>
          obtain rfl:=osi ho;have f1:a.tmps.getD 91 undef = .pointer (some ⟨pb,1,none⟩):=hd 1 _ _ rfl rfl (by kernel_rfl);exact⟨rfl,gy _,qq5 _ _ rfl _ f1 _ (qqx (Cx.q8 hw z1) (Cx.q8 hw z2)) (rfl)⟩
         | 3,ho,hd =>
          obtain rfl:=osi ho;exact⟨rfl,gy _,q7b _ (.inl rfl) (ae 14 (yi (by kernel_rfl)))⟩
         | 4,ho,hd =>
          obtain rfl:=osi ho;exact⟨rfl,gy _,q7b _ (.inl rfl) (ae 19 (yi (by kernel_rfl)))⟩
         | 5,ho,hd =>
          obtain rfl:=osi ho;have f4:a.tmps.getD 94 undef = .int .i64 j:=hd 4 _ _ rfl rfl (by kernel_rfl);have f3:a.tmps.getD 93 undef = .func (.func 60) #[] #[.pointer (some ⟨pl,0,none⟩),.pointer (some ⟨pm,0,none⟩)]:=hd 3 _ _ rfl rfl (by kernel_rfl);exact⟨rfl,gy _,qst _ 60 #[.pointer (some ⟨pl,0,none⟩),.pointer (some ⟨pm,0,none⟩)] _ _ rfl qs8 f3 #[.int .i64 j] (by rw[<-f4];simp[Act.eval]) ((XK.q8 hw).col Ct (by omega) (by omega) qC jO)⟩
         | 6,ho,hd =>
          obtain rfl:=osi ho;have f2:a.tmps.getD 92 undef=wv tx:=hd 2 _ _ rfl rfl (by kernel_rfl);have f5:(.mok (.ch (qqz low A nh j nl)):KP).p (a.tmps.getD 95 undef) w':=hd 5 _ _ rfl rfl (by kernel_rfl);exact⟨rfl,gy _,qh1 _ _ _ rfl qr1 #[wv tx,a.tmps.getD 95 undef] (by rw[<-f2];simp[Act.eval]) (qsl tx _ (qqz low A nh j nl) _ 4200 180 8600 _ f5 ((tF.tok).mono (by omega)) xU (by rw[qs5];omega) (by omega) (by omega) (fun c=>by rw[kW]))⟩
         | 7,ho,hd =>
          obtain rfl:=osi ho;have f0:(.fk (.cf (wS Gf (Ly.take k)) (180*k) (8600+k)):KP).p (a.tmps.getD 90 undef) w':=hd 0 _ _ rfl rfl (by kernel_rfl);have f6:(.fk (.cf (fun r=>tx*Gf id r) 180 8600):KP).p (a.tmps.getD 96 undef) w':=hd 6 _ _ rfl rfl (by kernel_rfl);exact⟨rfl,gy _,qh1 _ _ _ rfl qr8 #[a.tmps.getD 90 undef,a.tmps.getD 96 undef] (by simp[Act.eval]) (quf _ _ _ _ _ (180*k) (8600+k) 180 8600 (180*(k+1)) (8600+(k+1)) _ f0 f6 (by omega) (by omega) (by omega) (by omega) cw)⟩
         | i+8,ho,hd =>
          omega
        case last =>
         intro o ho a w' hd;obtain rfl:=osi ho;have f7:(KP.fk (.cf (wS Gf (Ly.take (k+1))) (180*(k+1)) (8600+(k+1)))).p (a.tmps.getD 97 undef) w':=hd 7 _ _ rfl rfl (by decide);exact⟨rfl,gy _,q7b _ (.inr rfl) f7⟩
        case done =>
         intro a w7 az jR hf ae hw;have ht:(KP.fk (.cf (wS Gf (Ly.take (k+1))) (180*(k+1)) (8600+(k+1)))).p (a.tmps.getD 16 undef) w7:=hf 8 _ _ rfl rfl;refine iZ _ _ (Met.intro (hJ _ _ ⟨a.tmps.getD 16 undef,a.tmps.getD 90 undef,a.tmps.getD 91 undef,a.tmps.getD 92 undef,a.tmps.getD 93 undef,a.tmps.getD 94 undef,a.tmps.getD 95 undef,a.tmps.getD 96 undef,a.tmps.getD 97 undef,(show Hid _ from⟨ht,hw⟩),(q8z az jR ae).trans ?_⟩));kernel_rfl
       case rest =>
        refine Fu _ _ ?_;go_wp2;go_roundg gj
        case measure=>omega
        case rel=>exact⟨j+1,by omega,qh (by omega),(show Hid _ from⟨fun h=>by have:=xV.out.1;omega,fun _=>hcut.out.1,HJ.out.2.2.trans (hcut.out.2.mono HJ.out.2.2.size)⟩)⟩
      ·have Gq:¬ id=tc:=fun e=>wL (by
        obtain⟨g1,g2⟩:=ge.1 hid;obtain⟨g3,g4⟩:=ge.1 HP.out.2.2.1;exact(List.getElem_inj Bd.out.2.2.2.2.1).1 (g2.trans (e.trans g4.symm)))
       have xV:=lhd wL;clear y4 y5 hid wL z1 z2;go_wp2_with fail;go_roundg gj
       case measure=>omega
       case rel=>exact⟨j+1,by omega,qh (by omega),(show Hid _ from⟨fun h=>HJ.out.1 (by omega),fun h=>HJ.out.2.1 (by have:=xV.out;omega),HJ.out.2.2⟩)⟩
end Go.Proofs.YtlhicnfeajejhaaGreatDoor
