/- cocycleref02: Mul. Conditions: none. A region that draws its order: operations that yield, some of them new boxes; behind all of them stores, one .. -/
import Derived.Test.YtlhicnfeajejhaaGreatDoorJQv
set_option maxRecDepth 1000000
set_option maxHeartbeats 16000000
namespace Go.Proofs.YtlhicnfeajejhaaGreatDoor
open Go.RowKit Go.Cx
attribute [local go_sem ↓] Go.wp_at_zero Go.wp_at_succ
def qgz (A X:List Int) (c n i j:Nat):Nat->Int
 | 0=>0
 | k+1=>qgz A X c n i j k+A.getD (i*c+k) 0*X.getD (k*n+j) 0
theorem qsd (A X:List Int) (c n i j S:Nat) (hA:∀ x∈A,nb x<=S) (hX:∀ x∈X,nb x<=S):∀ k,nb (qgz A X c n i j k)<=2*S+k:=by
 have hg:∀ (l:List Int),(∀ x∈l,nb x<=S)->∀ j,nb (l.getD j 0)<=S:=fun l h j=>by
  rw[List.getD_eq_getElem?_getD];cases hj:l[j]? with
  | none=>show nb 0<=S;rw[q0g];omega
  | some x=>exact h x (List.mem_of_getElem? hj)
 intro k;induction k with
 | zero=>show nb 0<=_;rw[q0g];omega
 | succ k ih =>
  have h1:=qbn (qgz A X c n i j k) (A.getD (i*c+k) 0*X.getD (k*n+j) 0);have h2:=q39 (A.getD (i*c+k) 0) (X.getD (k*n+j) 0);have h3:=hg A hA (i*c+k);have h4:=hg X hX (k*n+j);show nb (qgz A X c n i j k+_)<=_;omega
def stM (A X:List Int) (c n i k j t:Nat):Int:=if t / n < i then qgz A X c n (t / n) (t % n) c else if t / n=i then (if t % n < j then qgz A X c n i (t % n) (k+1) else qgz A X c n i (t % n) k) else 0
section
variable (A X:List Int) {c n i k j r:Nat}
theorem qt2 (c n t:Nat):stM A X c n 0 0 0 t=0:=by
 unfold stM;rw[if_neg (Nat.not_lt_zero _)];split
 ·rw[if_neg (Nat.not_lt_zero _)];rfl
 ·rfl
theorem qs0 (h:A.getD (i*c+k) 0=0) (t:Nat):stM A X c n i k 0 t=stM A X c n i (k+1) 0 t:=by
 unfold stM;rw[if_neg (Nat.not_lt_zero (t % n)),if_neg (Nat.not_lt_zero (t % n))];have:qgz A X c n i (t % n) (k+1)=qgz A X c n i (t % n) k:=by show _+_*_=_;rw[h];simp
 rw[this]
theorem qs1 (h:qgz A X c n i j (k+1)=qgz A X c n i j k) (t:Nat):stM A X c n i k (j+1) t=stM A X c n i k j t:=by
 unfold stM;by_cases h1:t % n=j
 ·rw[h1,if_pos (Nat.lt_succ_self j),if_neg (Nat.lt_irrefl j),h]
 ·by_cases h2:t % n < j
  ·rw[if_pos h2,if_pos (Nat.lt_succ_of_lt h2)]
  ·rw[if_neg h2,if_neg (by omega:¬ t % n < j+1)]
theorem qr8 (hj:j < n):(i*n+j) / n=i/\(i*n+j) % n=j:=by
 have hn:0 < n:=by omega
 constructor
 ·rw[Nat.mul_comm,Nat.mul_add_div hn,Nat.div_eq_of_lt hj];rfl
 ·rw[Nat.mul_comm,Nat.mul_add_mod,Nat.mod_eq_of_lt hj]
theorem qsv (hj:j < n):stM A X c n i k j (i*n+j)=qgz A X c n i j k:=by
 obtain⟨h1,h2⟩:=qr8 (i:=i) hj;unfold stM;rw[h1,h2,if_neg (Nat.lt_irrefl i),if_pos rfl,if_neg (Nat.lt_irrefl j)]
theorem qse (hj:j < n) (t:Nat):(if t=i*n+j then qgz A X c n i j (k+1) else stM A X c n i k j t)=stM A X c n i k (j+1) t:=by
 obtain⟨h1,h2⟩:=qr8 (i:=i) hj;by_cases he:t=i*n+j
 ·rw[if_pos he,he];unfold stM;rw[h1,h2,if_neg (Nat.lt_irrefl i),if_pos rfl,if_pos (Nat.lt_succ_self j)]
 ·rw[if_neg he];unfold stM;by_cases h3:t / n=i
  ·have h4:t % n≠j:=fun e=>he (by rw[<-h3,<-e,Nat.mul_comm];exact(Nat.div_add_mod t n).symm)
   by_cases h5:t % n < j
   ·rw[if_pos h5,if_pos (Nat.lt_succ_of_lt h5)]
   ·rw[if_neg h5,if_neg (by omega:¬ t % n < j+1)]
  ·rw[if_neg h3,if_neg h3]
theorem qs2 (hn:0 < n) (t:Nat):stM A X c n i k n t=stM A X c n i (k+1) 0 t:=by
 unfold stM;rw[if_pos (Nat.mod_lt t hn),if_neg (Nat.not_lt_zero (t % n))]
theorem qsf (t:Nat):stM A X c n i c 0 t=stM A X c n (i+1) 0 0 t:=by
 unfold stM;rw[if_neg (Nat.not_lt_zero (t % n)),if_neg (Nat.not_lt_zero (t % n))];by_cases h1:t / n < i
 ·rw[if_pos h1,if_pos (by omega)]
 ·by_cases h2:t / n=i
  ·rw[if_neg h1,if_pos h2,if_pos (by omega),h2]
  ·rw[if_neg h1,if_neg h2,if_neg (by omega)];split <;> rfl
theorem qsg {t:Nat} (h:t < r*n):stM A X c n r 0 0 t=qgz A X c n (t / n) (t % n) c:=by
 unfold stM;rw[if_pos (Nat.div_lt_of_lt_mul (by rw[Nat.mul_comm];exact h))]
end
theorem qt5 (r c n S:Nat) (va vx:Value) (A X:List Int) (w:World) (h:Sl w 2 va (wvs A)) (k:Sl w 2 vx (wvs X)) (hA:A.length=r*c) (hX:X.length=c*n) (hr:r<=200) (hc:c<=200) (hn:n<=200) (hS:S<=100000) (nA:∀ x∈A,nb x<=S) (nX:∀ x∈X,nb x<=S) :
  Calls Tryz.prog 68 #[.agg #[.int .i64 r,.int .i64 c,va],.agg #[.int .i64 c,.int .i64 n,vx]] w fun e w'=>∃ E:Nat,e = .returned (.tuple #[.agg #[.int .i64 r,.int .i64 n,.slice (some ⟨E,0,none⟩) (r*n) (r*n)],.bool true])/\w.heap.size<=E/\E < w'.heap.size/\EW w' E (r*n) (fun t=>qgz A X c n (t / n) (t % n) c)/\Below w.heap.size w w':=by
 have hrc:r*c<=40000:=Nat.le_trans (Nat.mul_le_mul hr hc) (by decide);have hcn:c*n<=40000:=Nat.le_trans (Nat.mul_le_mul hc hn) (by decide);have hrn:r*n<=40000:=Nat.le_trans (Nat.mul_le_mul hr hn) (by decide);obtain⟨aa,an,ac,rfl⟩:=qg h;obtain⟨xa,xn,xc,rfl⟩:=qg k;have han:an=A.length:=by
  obtain⟨_,_,h3,_⟩:=h.open;rw[q2j] at h3;omega
 have hxn:xn=X.length:=by
  obtain⟨_,_,h3,_⟩:=k.open;rw[q2j] at h3;omega
 rw[hX] at hxn;rw[hA] at han;have hxc:xn<=xc/\xc<=maxLen:=by obtain⟨g1,g2,_⟩:=k.open;exact⟨g1,g2⟩
 have hac:an<=ac/\ac<=maxLen:=by obtain⟨g1,g2,_⟩:=h.open;exact⟨g1,g2⟩
 unfold maxLen at hxc hac;have hanb:an<=40000:=by omega
 have hxnb:xn<=40000:=by omega
 have HH:=lhd (aiq h (aiq k (aiq hA (aiq hX (aiq nA (aiq nX (aiq han (aiq hxn (aiq hrn (aiq hS hcn))))))))));clear h k hA hX nA nX han hrc hxn hrn hcn hS;obtain⟨NN,hNN⟩ : ∃ NN,NN=r*n:=⟨_,rfl⟩
 have HNN:=lhd hNN;clear hNN;go_enter Tryz.func68,Tryz.ntmps68;go_wp2_with fail;obtain⟨W,hW⟩ : ∃ W:World,W=((w.alloc (.cells #[.int .i64 r,.int .i64 c,.slice aa an ac] 44)).alloc (.cells #[.int .i64 c,.int .i64 n,.slice xa xn xc] 44)).alloc (.cells #[.int .i64 0,.int .i64 0,.slice none 0 0] 44):=⟨_,rfl⟩
 rw[<-hW];have hs1:(w.alloc (.cells #[.int .i64 r,.int .i64 c,.slice aa an ac] 44)).heap.size=w.heap.size+1:=by simp
 have hs2:((w.alloc (.cells #[.int .i64 r,.int .i64 c,.slice aa an ac] 44)).alloc (.cells #[.int .i64 c,.int .i64 n,.slice xa xn xc] 44)).heap.size=w.heap.size+2:=by simp
 have p:∀ i,W.cell? ⟨w.heap.size,i,none⟩=(#[.int .i64 r,.int .i64 c,.slice aa an ac] : Array Value)[i]?:=fun i=>by
  have h0:=qd w #[.int .i64 r,.int .i64 c,.slice aa an ac] 44 (0,0) i;rw[hW];have hb:Below (w.heap.size+1) (w.alloc (.cells #[.int .i64 r,.int .i64 c,.slice aa an ac] 44)) (((w.alloc (.cells #[.int .i64 r,.int .i64 c,.slice aa an ac] 44)).alloc (.cells #[.int .i64 c,.int .i64 n,.slice xa xn xc] 44)).alloc (.cells #[.int .i64 0,.int .i64 0,.slice none 0 0] 44)):=((Below.refl _ _).alloc (by rw[hs1];exact nlr _) _).alloc (by rw[hs2];omega) _;rw[hb.cell (by show w.heap.size < _;omega)];exact h0
 have q:∀ i,W.cell? ⟨w.heap.size+1,i,none⟩=(#[.int .i64 c,.int .i64 n,.slice xa xn xc] : Array Value)[i]?:=fun i=>by
  have h0:=qd (w.alloc (.cells #[.int .i64 r,.int .i64 c,.slice aa an ac] 44)) #[.int .i64 c,.int .i64 n,.slice xa xn xc] 44 (0,0) i;rw[hs1] at h0;rw[hW];have hb:Below (w.heap.size+2) ((w.alloc (.cells #[.int .i64 r,.int .i64 c,.slice aa an ac] 44)).alloc (.cells #[.int .i64 c,.int .i64 n,.slice xa xn xc] 44)) (((w.alloc (.cells #[.int .i64 r,.int .i64 c,.slice aa an ac] 44)).alloc (.cells #[.int .i64 c,.int .i64 n,.slice xa xn xc] 44)).alloc (.cells #[.int .i64 0,.int .i64 0,.slice none 0 0] 44)):=(Below.refl _ _).alloc (by rw[hs2];exact nlr _) _;rw[hb.cell (by show w.heap.size+1 < _;omega)];exact h0
 have s:∀ i,W.cell? ⟨w.heap.size+2,i,none⟩=(#[.int .i64 0,.int .i64 0,.slice none 0 0] : Array Value)[i]?:=fun i=>by
  have h0:=qd ((w.alloc (.cells #[.int .i64 r,.int .i64 c,.slice aa an ac] 44)).alloc (.cells #[.int .i64 c,.int .i64 n,.slice xa xn xc] 44)) #[.int .i64 0,.int .i64 0,.slice none 0 0] 44 (0,0) i;rw[hs2] at h0;rw[hW];exact h0
 have z:∀ i,W.frozen? ⟨w.heap.size+2,i,none⟩=false:=fun i=>by
  have h0:=heap_alloc_new ((w.alloc (.cells #[.int .i64 r,.int .i64 c,.slice aa an ac] 44)).alloc (.cells #[.int .i64 c,.int .i64 n,.slice xa xn xc] 44)) (.cells #[.int .i64 0,.int .i64 0,.slice none 0 0] 44);rw[hs2] at h0;rw[hW];exact jz h0 i
 have hw:Below w.heap.size w W:=by rw[hW];exact(((Below.refl _ _).alloc (nlr _) _).alloc (by rw[hs1];omega) _).alloc (by rw[hs2];omega) _
 have hws:W.heap.size=w.heap.size+3:=by rw[hW];simp
 have p0:=p 0;have p1:=p 1;have p2:=p 2;have q0:=q 0;have q1:=q 1;have q2:=q 2;simp at p0 p1 p2 q0 q1 q2;have HC:=lhd (aiq p0 (aiq p1 (aiq p2 (aiq q0 (aiq q1 (aiq q2 (aiq s (aiq z (aiq hw hws)))))))));clear hW hs1 hs2 p q s z hw hws p0 p1 p2;refine(qhl r c _ A _ (HH.out.1.q8 HC.out.2.2.2.2.2.2.2.2.1) hr hc HH.out.2.2.1).mono ?_;rintro e w1 ⟨rfl,hb1⟩;have HB1:=lhd hb1
 replace q0:=Cx.q8 hb1 q0
 replace q1:=Cx.q8 hb1 q1
 replace q2:=Cx.q8 hb1 q2
 clear hb1;go_wp2_with fail;refine(qhl c n _ X _ ((HH.out.2.1.q8 HC.out.2.2.2.2.2.2.2.2.1).q8 HB1.out) hc hn HH.out.2.2.2.1).mono ?_;rintro e w2 ⟨rfl,hb2⟩;have HB2:=lhd (HB1.out.trans (hb2.mono HB1.out.size));clear hb2 q0 q1 q2;have p0:=Cx.q8 HB2.out HC.out.1;have p1:=Cx.q8 HB2.out HC.out.2.1;have q0:=Cx.q8 HB2.out HC.out.2.2.2.1;have q1:=Cx.q8 HB2.out HC.out.2.2.2.2.1;go_wp2_with fail;refine(qss r n _ hr hn).mono ?_;rintro e w3 ⟨E,rfl,hE1,hE2,hEW,hb3⟩;rw[<-HNN.out] at hEW ⊢;have hB3:Below W.heap.size W w3:=HB2.out.trans (hb3.mono HB2.out.size);have hEl:W.heap.size<=E:=Nat.le_trans HB2.out.size hE1;have hEw:w.heap.size+3<=E:=by have:=HC.out.2.2.2.2.2.2.2.2.2;omega
 have HZ:=lhd (aiq hEW hB3);clear hEW hb3 hB3 p0 p1 q0 q1;go_wp2_with fail;obtain⟨W5,hW5⟩ : ∃ x,x=w3.alloc (.cells #[.int .i64 r,.int .i64 n,.slice (some ⟨E,0,none⟩) NN NN] 44):=⟨_,rfl⟩
 rw[<-hW5];have o0:W5.cell? ⟨w3.heap.size,0,none⟩=some (.int .i64 r):=by rw[hW5];exact qd w3 _ _ (0,0) 0
 have o1:W5.cell? ⟨w3.heap.size,1,none⟩=some (.int .i64 n):=by rw[hW5];exact qd w3 _ _ (0,0) 1
 have o2:W5.cell? ⟨w3.heap.size,2,none⟩=some (.slice (some ⟨E,0,none⟩) NN NN):=by rw[hW5];exact qd w3 _ _ (0,0) 2
 have hB35:Below w3.heap.size w3 W5:=by rw[hW5];exact(Below.refl _ _).alloc (nlr _) _
 have hE5:EW W5 E NN (fun _=>0):=HZ.out.1.q8 hB35 hE2;have hWW:Below W.heap.size W W5:=HZ.out.2.trans (hB35.mono HZ.out.2.size);have h35:w3.heap.size < W5.heap.size:=by rw[hW5];simp
 have hEne:w3.heap.size≠E:=by omega
 have hn0:w.heap.size≠E:=by omega
 have hn1:w.heap.size+1≠E:=by omega
 have hn2:w.heap.size+1+1≠E:=by omega
 have g0:=Cx.q8 hWW HC.out.1;have g1:=Cx.q8 hWW HC.out.2.1;have g2:=Cx.q8 hWW HC.out.2.2.1;have g3:=Cx.q8 hWW HC.out.2.2.2.1;have g4:=Cx.q8 hWW HC.out.2.2.2.2.1;have g5:=Cx.q8 hWW HC.out.2.2.2.2.2.1;have hwl:=HC.out.2.2.2.2.2.2.2.2.2;have hwB:=HC.out.2.2.2.2.2.2.2.2.1;have hwE:W5.heap.size > E:=by omega
 have hE5':E < W5.heap.size:=by omega
 have HG:=lhd (aiq g0 (aiq g1 (aiq g2 (aiq g3 (aiq g4 (aiq g5 (aiq o0 (aiq o1 (aiq o2 (aiq hE5 (aiq hWW hE5')))))))))));clear g0 g1 g2 g3 g4 g5 o0 o1 o2 hE5 hWW hB35 hW5 hwE hE5';go_loopw [9] (fun p wr=>∃ i:Nat,p = .int .i64 i/\i<=r/\Hid (EW wr E NN (stM A X c n i 0 0))/\Hid (Kp E W5 wr)/\Below W.heap.size W wr) (fun p _=>r - (vI p).toNat)
 case atStart=>exact⟨0,rfl,Nat.zero_le _,(show Hid _ from HG.out.2.2.2.2.2.2.2.2.2.1.congr fun t _=>(qt2 A X c n t).symm),(show Hid _ from Kp.refl _ _),HG.out.2.2.2.2.2.2.2.2.2.2.1⟩
 case round =>
  obtain⟨i,rfl,hi,HE,HK,hB⟩:=hrel;have p0:=HK.out.cell _ _ hn0 HG.out.1;by_cases hir:i < r
  ·have p1:=HK.out.cell _ _ hn0 HG.out.2.1;have HEi:=HE;clear HE p1;obtain⟨wo,hwo⟩ : ∃ x:World,x=wr:=⟨_,rfl⟩
   subst hwo;go_wp2_with fail;go_loopw [10] (fun p wr=>∃ k:Nat,p = .int .i64 k/\k<=c/\Hid (EW wr E NN (stM A X c n i k 0))/\Hid (Kp E W5 wr)/\Below W.heap.size W wr) (fun p _=>c - (vI p).toNat)
   case atStart=>exact⟨0,rfl,Nat.zero_le _,HEi,HK,hB⟩
   case round =>
    clear HEi HK hB p0;obtain⟨k,rfl,hk,HE,HK,hB⟩:=hrel;have p1:=HK.out.cell _ _ hn0 HG.out.2.1;have p2:=HK.out.cell _ _ hn0 HG.out.2.2.1;by_cases hkx:k < c
    ·obtain⟨ic,hic⟩ : ∃ x,x=i*c:=⟨_,rfl⟩
     obtain⟨t,ht⟩ : ∃ x,x=ic+k:=⟨_,rfl⟩
     have htb:t < an:=by
      rw[HH.out.2.2.2.2.2.2.1,ht,hic];have:(i+1)*c<=r*c:=Nat.mul_le_mul_right c hir;rw[Nat.add_mul,Nat.one_mul] at this;omega
     have hw1:IntKind.i64.wrap ((i:Int)*(c:Int))=(ic:Int):=by
      rw[hic,Int.natCast_mul];exact IntWalk.i64_in _ (by rw[<-Int.natCast_mul,<-hic];omega)
     have hw2:IntKind.i64.wrap ((ic:Int)+(k:Int))=(t:Int):=by rw[ht,Int.natCast_add];exact IntWalk.i64_in _ (by omega)
     have htI:(t:Int) < an:=by omega
     obtain⟨nv,hnv⟩ : ∃ y,A[t]? = some y:=⟨_,List.getElem?_eq_getElem (by rw[HH.out.2.2.1,<-HH.out.2.2.2.2.2.2.1];exact htb)⟩
     obtain⟨ad,hade⟩ : ∃ ad,aa=some ad:=by
      cases aa with
      | none=>have:=HH.out.1.open.2.2.2.1 rfl;omega
      | some ad=>exact⟨ad,rfl⟩
     subst hade;obtain⟨e0,e1⟩:=q7p A t nv hnv;have hBw:Below w.heap.size w wr:=hwB.trans (hB.mono hwB.size);have d0:wr.cell? (ad.add (t*2))=some (.bool (decide (nv < 0))):=Cx.q8 hBw (HH.out.1.open.2.2.2.2 ad rfl _ _ e0);have d1:wr.cell? ⟨(ad.add (t*2)).block,(ad.add (t*2)).off+1,none⟩=some (.string (mg nv)):=by rw[qi _ _ _ (by omega)];exact Cx.q8 hBw (HH.out.1.open.2.2.2.2 ad rfl _ _ e1)
     have hgA:A.getD (i*c+k) 0=nv:=by rw[<-hic,<-ht,List.getD_eq_getElem?_getD,hnv];rfl
     have nnv:=HH.out.2.2.2.2.1 nv (List.mem_of_getElem? hnv);have HD:=lhd (aiq hgA nnv);clear e0 e1 hgA nnv hnv hic ht htb;obtain⟨wo,hwo⟩ : ∃ x:World,x=wr:=⟨_,rfl⟩
     subst hwo;go_wp2_with fail;obtain⟨W6,hW6⟩ : ∃ x,x=wo.alloc (.cells #[.bool (decide (nv < 0)),.string (mg nv)] 38):=⟨_,rfl⟩
     rw[<-hW6];have hEo:E < wo.heap.size:=Nat.lt_of_lt_of_le HG.out.2.2.2.2.2.2.2.2.2.2.2 HK.out.size;have hoE:wo.heap.size≠E:=by omega
     have hB6:Below wo.heap.size wo W6:=by rw[hW6];exact(Below.refl _ _).alloc (nlr _) _
     have hN6:Bx W6 wo.heap.size (decide (nv < 0)) (mg nv):=by rw[hW6];exact Bx.new wo _ _ _
     have H6:=lhd (aiq hN6 (aiq (HK.out.below hB6) (aiq (HE.out.q8 hB6 hEo) (aiq (hB.trans (hB6.mono hB.size)) hEo))));have hwk:IntKind.i64.wrap (k:Int)=(k:Int):=IntWalk.i64_in _ (by omega);have hwi:IntKind.i64.wrap (i:Int)=(i:Int):=IntWalk.i64_in _ (by omega);clear hN6 hB6 hW6 HE HK hB p1 p2 d0 d1 hBw hw1 hw2 htI;go_loopw [12] (fun p wr=>∃ j:Nat,p = .int .i64 j/\j<=n/\(nv=0->j=0)/\Hid (EW wr E NN (stM A X c n i k j))/\Hid (Kp E W6 wr)/\Below W.heap.size W wr) (fun p _=>n - (vI p).toNat)
     case atStart=>exact⟨0,rfl,Nat.zero_le _,fun _=>rfl,(show Hid _ from H6.out.2.2.1),(show Hid _ from Kp.refl _ _),H6.out.2.2.2.1⟩
     case round =>
      obtain⟨j,rfl,hj,hj0,HE,HK,hB⟩:=hrel;have HK5:=lhd (H6.out.2.1.trans HK.out);have q1:=HK5.out.cell _ _ hn1 HG.out.2.2.2.2.1;have hEr:E < wr.heap.size:=by
       have h1:=World.block_lt_of_cell? W6 ⟨wo.heap.size,0,none⟩ H6.out.1.1;have h3:wo.heap.size < W6.heap.size:=h1;have h4:=HK.out.size;have h5:=H6.out.2.2.2.2;omega
      have n0:=HK.out.cell ⟨wo.heap.size,0,none⟩ _ hoE H6.out.1.1;have n1:=HK.out.cell ⟨wo.heap.size,1,none⟩ _ hoE H6.out.1.2.1;have hji:IntKind.i64.wrap (j:Int)=(j:Int):=IntWalk.i64_in _ (by omega);by_cases hjn:j < n
      ·have hjnI:(j:Int) < (n:Int):=by omega
       by_cases hnv0:nv=0
       ·have he:(!(mg nv).toList.isEmpty)=false:=by rw[hnv0,Cx.q8d];simp[Lib.toList_data]
        have HJ:=lhd (aiq (hj0 hnv0) (HD.out.1.trans hnv0));clear hnv0 hj0;go_wp2;go_roundw
        case measure=>simp[vI];omega
        case rel=>exact⟨k+1,qh (by omega),by omega,(show Hid _ from HE.out.congr fun t _=>by rw[HJ.out.1];exact qs0 A X HJ.out.2 t),HK5,hB⟩
       ·have he:(!(mg nv).toList.isEmpty)=true:=qoy hnv0;have HN0:=lhd hnv0;clear hnv0 hj0;obtain⟨kn,hkn⟩ : ∃ x,x=k*n:=⟨_,rfl⟩
        obtain⟨t2,ht2⟩ : ∃ x,x=kn+j:=⟨_,rfl⟩
        have ht2b:t2 < xn:=by
         rw[HH.out.2.2.2.2.2.2.2.1,ht2,hkn];have:(k+1)*n<=c*n:=Nat.mul_le_mul_right n hkx;rw[Nat.add_mul,Nat.one_mul] at this;omega
        have hw1:IntKind.i64.wrap ((k:Int)*(n:Int))=(kn:Int):=by
         rw[hkn,Int.natCast_mul];exact IntWalk.i64_in _ (by rw[<-Int.natCast_mul,<-hkn];omega)
        have hw2:IntKind.i64.wrap ((kn:Int)+(j:Int))=(t2:Int):=by rw[ht2,Int.natCast_add];exact IntWalk.i64_in _ (by omega)
        have ht2I:(t2:Int) < xn:=by omega
        obtain⟨xv,hxv⟩ : ∃ y,X[t2]? = some y:=⟨_,List.getElem?_eq_getElem (by rw[HH.out.2.2.2.1,<-HH.out.2.2.2.2.2.2.2.1];exact ht2b)⟩
        obtain⟨bd,hbde⟩ : ∃ ad,xa=some ad:=by
         cases xa with
         | none=>have:=HH.out.2.1.open.2.2.2.1 rfl;omega
         | some ad=>exact⟨ad,rfl⟩
        subst hbde;obtain⟨e2,e3⟩:=q7p X t2 xv hxv;have hX0:=HH.out.2.1.open.2.2.2.2 bd rfl _ _ e2;have hX1:=HH.out.2.1.open.2.2.2.2 bd rfl _ _ e3;have hgX:X.getD (k*n+j) 0=xv:=by rw[<-hkn,<-ht2,List.getD_eq_getElem?_getD,hxv];rfl
        have hdot:qgz A X c n i j (k+1)=qgz A X c n i j k+nv*xv:=by show _+_*_=_;rw[HD.out.1,hgX]
        have nxv:=HH.out.2.2.2.2.2.1 xv (List.mem_of_getElem? hxv);have ndot:=qsd A X c n i j S HH.out.2.2.2.2.1 HH.out.2.2.2.2.2.1 k;have HD2:=lhd (aiq hX0 (aiq hX1 (aiq hdot (aiq nxv ndot))));clear e2 e3 hX0 hX1 hgX hdot nxv ndot hxv ht2 ht2b hkn;have q2:=HK5.out.cell _ _ hn1 HG.out.2.2.2.2.2.1;have hBw:Below w.heap.size w wr:=hwB.trans (hB.mono hwB.size);have d2:wr.cell? (bd.add (t2*2))=some (.bool (decide (xv < 0))):=Cx.q8 hBw HD2.out.1;have d3:wr.cell? ⟨(bd.add (t2*2)).block,(bd.add (t2*2)).off+1,none⟩=some (.string (mg xv)):=by rw[qi _ _ _ (by omega)];exact Cx.q8 hBw HD2.out.2.1
        by_cases hxv0:xv=0
        ·have hex:(!(mg xv).toList.isEmpty)=false:=by rw[hxv0,Cx.q8d];simp[Lib.toList_data]
         have hd:=HD2.out.2.2.1;rw[hxv0,Int.mul_zero,Int.add_zero] at hd;have HDD:=lhd hd;clear hd hxv0;go_wp2;have hgr:Below wr.heap.size wr (wr.alloc (.cells #[.bool (decide (xv < 0)),.string (mg xv)] 38)):=(Below.refl _ _).alloc (nlr _) _;go_roundw
         case measure=>simp[vI];omega
         case rel=>exact⟨j+1,qh (by omega),by omega,fun e=>absurd e HN0.out,(show Hid _ from(HE.out.q8 hgr hEr).congr fun t _=>(qs1 A X HDD.out t).symm),(show Hid _ from HK.out.below hgr),hB.trans (hgr.mono hB.size)⟩
        ·have hex:(!(mg xv).toList.isEmpty)=true:=qoy hxv0;clear hxv0;have q1a:∀ o,(wr.alloc o).cell? ⟨w.heap.size+1,1,none⟩=some (.int .i64 n):=fun o=>qk q1 o
         obtain⟨inn,hin⟩ : ∃ x,x=i*n:=⟨_,rfl⟩
         obtain⟨at',hat⟩ : ∃ x,x=inn+j:=⟨_,rfl⟩
         have hatb:at' < NN:=by
          rw[HNN.out,hat,hin];have:(i+1)*n<=r*n:=Nat.mul_le_mul_right n hir;rw[Nat.add_mul,Nat.one_mul] at this;omega
         have hNb:NN<=40000:=by rw[HNN.out];exact HH.out.2.2.2.2.2.2.2.2.1
         have hw3:IntKind.i64.wrap ((i:Int)*(n:Int))=(inn:Int):=by
          rw[hin,Int.natCast_mul];exact IntWalk.i64_in _ (by rw[<-Int.natCast_mul,<-hin];omega)
         have hw4:IntKind.i64.wrap ((inn:Int)+(j:Int))=(at':Int):=by rw[hat,Int.natCast_add];exact IntWalk.i64_in _ (by omega)
         have HI:=lhd (aiq hin hat);clear hin hat;go_upto_region 19 with fail;have hin:=HI.out.1;have hat:=HI.out.2;obtain⟨wm,hwm⟩ : ∃ x,x=wr.alloc (.cells #[.bool (decide (xv < 0)),.string (mg xv)] 38):=⟨_,rfl⟩
         rw[<-hwm];have hgm:Below wr.heap.size wr wm:=by rw[hwm];exact(Below.refl _ _).alloc (nlr _) _
         have hM:Bx wm wr.heap.size (decide (xv < 0)) (mg xv):=by rw[hwm];exact Bx.new wr _ _ _
         have hEml:E < wm.heap.size:=Nat.lt_of_lt_of_le hEr hgm.size;have hEm:=HE.out.q8 hgm hEr;obtain⟨od,hod⟩ : ∃ z,z=qgz A X c n i j k:=⟨_,rfl⟩
         obtain⟨g,hg⟩ : ∃ g:Nat->Int,g=stM A X c n i k j:=⟨_,rfl⟩
         rw[<-hg] at hEm;have hgi:g at'=od:=by rw[hg,hod,hat,hin];exact qsv A X hjn
         have hE:∀ w',Below wm.heap.size wm w'->Bx' w' E at' od:=fun w' h=>by
          have:=hEm.q8 h hEml at' hatb;rw[hgi] at this;exact this
         have o2:wm.cell? ⟨w3.heap.size,2,none⟩=some (.slice (some ⟨E,0,none⟩) NN NN):=Cx.q8 hgm (HK5.out.cell _ _ hEne HG.out.2.2.2.2.2.2.2.2.1);have m0:=hM.1;have m1:=hM.2.1
         replace n0:=Cx.q8 hgm n0
         replace n1:=Cx.q8 hgm n1
         obtain⟨x0,x1,x2,x3⟩:=hE wm (Below.refl _ _);have hnew:od+nv*xv=qgz A X c n i j (k+1):=by rw[HD2.out.2.2.1,hod]
         have hnb1:nb od<=201000:=by rw[hod];have:=HD2.out.2.2.2.2;have:=HH.out.2.2.2.2.2.2.2.2.2.1;omega
         have hnb2:nb nv<=100000/\nb xv<=100000:=⟨Nat.le_trans HD.out.2 HH.out.2.2.2.2.2.2.2.2.2.1,Nat.le_trans HD2.out.2.2.2.1 HH.out.2.2.2.2.2.2.2.2.2.1⟩
         have hnb3:=q39 nv xv;have HO:=lhd (aiq hod (aiq hnew (aiq hE (aiq hgm (aiq hEm (aiq hg (aiq hat hin)))))));clear hod hnew hE hgm hEm hM hwm hg hgi d2 d3 q1 q2 q1a hw1 hw2 hw3 hw4 hat hin ht2I;refine qp4 fun KO hKO=>?_
         go_cut [90] from 91 to 102 (fun _ wx=>∃ w',Hid (Below wm.heap.size wm w')/\wx=(w'.setCell ⟨E,at'*2,none⟩ (.bool (decide (od+nv*xv < 0)))).setCell ⟨E,at'*2+1,none⟩ (.string (mg (od+nv*xv))))
         case first =>
          rename_i J K2 hJ hK2;have hE:=HO.out.2.2.1;refine qbs9 rfl (fun i' v=>∀ x,([some (.pointer (some ⟨w3.heap.size,2,none⟩)),some (.slice (some ⟨E,0,none⟩) NN NN),some (.int .i64 at'),some (.pointer (some ⟨w3.heap.size,2,none⟩)),some (.slice (some ⟨E,0,none⟩) NN NN),some (.int .i64 at'),some (.pointer (some ⟨E,at'*2,none⟩)),some (wv od),some (wv nv),some (wv xv),some (wv (nv*xv)),some (wv (od+nv*xv)),some (.pointer (some ⟨E,at'*2,none⟩))] : List (Option Value)).getD i' none=some x->v=x) 13 14 104 rfl (by kernel_rfl) (by kernel_rfl) (by decide) (by kernel_rfl) (by kernel_rfl) (fun a w''=>K2 a w'') ?step ?store (fun a w'' h=>h)
          case step =>
           intro i' o ho hne a w' hw hd hbase hsz;have ht8:=hbase 8 (qu (by kernel_rfl));have ht14:=hbase 14 (qu (by kernel_rfl));have ht11:=hbase 11 (qu (by kernel_rfl));have ht13:=hbase 13 (qu (by kernel_rfl))
           match i',ho,hd with
           | 0,ho,hd =>
            obtain rfl:=osi ho;exact⟨rfl,Option.some_ne_none _,q8b _ _ _ rfl _ ht8 _ (qdv _ _) ⟨_,rfl,fun _ h=>osi h,Below.refl _ _⟩⟩
           | 1,ho,hd =>
            obtain rfl:=osi ho;exact⟨rfl,Option.some_ne_none _,q8o _ _ rfl _ (hd 0 _ _ rfl rfl (by kernel_rfl) _ rfl) _ (qis _ _ _ _ _ (Cx.q8 hw o2)) ⟨_,rfl,fun _ h=>osi h,Below.refl _ _⟩⟩
           | 2,ho,hd =>
            obtain rfl:=osi ho;exact⟨rfl,Option.some_ne_none _,q1b _ (.inl rfl) ⟨_,rfl,fun _ h=>ht14.trans (osi h),Below.refl _ _⟩⟩
           | 3,ho,hd =>
            obtain rfl:=osi ho;exact⟨rfl,Option.some_ne_none _,q8b _ _ _ rfl _ ht8 _ (qdv _ _) ⟨_,rfl,fun _ h=>osi h,Below.refl _ _⟩⟩
           | 4,ho,hd =>
            obtain rfl:=osi ho;exact⟨rfl,Option.some_ne_none _,q8o _ _ rfl _ (hd 3 _ _ rfl rfl (by kernel_rfl) _ rfl) _ (qis _ _ _ _ _ (Cx.q8 hw o2)) ⟨_,rfl,fun _ h=>osi h,Below.refl _ _⟩⟩
           | 5,ho,hd =>
            obtain rfl:=osi ho;exact⟨rfl,Option.some_ne_none _,q1b _ (.inl rfl) ⟨_,rfl,fun _ h=>ht14.trans (osi h),Below.refl _ _⟩⟩
           | 6,ho,hd =>
            obtain rfl:=osi ho;exact⟨rfl,Option.some_ne_none _,qc9 _ _ _ rfl _ _ (hd 4 _ _ rfl rfl (by kernel_rfl) _ rfl) (hd 5 _ _ rfl rfl (by kernel_rfl) _ rfl) _ (qjr _ _ _ _ _ hatb) ⟨_,rfl,fun _ h=>osi h,Below.refl _ _⟩⟩
           | 7,ho,hd =>
            obtain rfl:=osi ho;exact⟨rfl,Option.some_ne_none _,q8o _ _ rfl _ (hd 6 _ _ rfl rfl (by kernel_rfl) _ rfl) _ (qrz _ _ _ _ (hE _ hw).1 (hE _ hw).2.1) ⟨_,rfl,fun _ h=>osi h,Below.refl _ _⟩⟩
           | 8,ho,hd =>
            obtain rfl:=osi ho;exact⟨rfl,Option.some_ne_none _,q8o _ _ rfl _ ht11 _ (qp6 (Cx.q8 hw n0) (Cx.q8 hw n1)) ⟨_,rfl,fun _ h=>osi h,Below.refl _ _⟩⟩
           | 9,ho,hd =>
            obtain rfl:=osi ho;exact⟨rfl,Option.some_ne_none _,q8o _ _ rfl _ ht13 _ (qp6 (Cx.q8 hw m0) (Cx.q8 hw m1)) ⟨_,rfl,fun _ h=>osi h,Below.refl _ _⟩⟩
           | 10,ho,hd =>
            obtain rfl:=osi ho;have f0:a.tmps.getD 98 undef=wv nv:=hd 8 _ _ rfl rfl (by kernel_rfl) _ rfl;have f1:a.tmps.getD 99 undef=wv xv:=hd 9 _ _ rfl rfl (by kernel_rfl) _ rfl;exact⟨rfl,Option.some_ne_none _,qdj _ _ _ rfl qr6 #[wv nv,wv xv] (by simp[Act.eval,f0,f1]) ((qsb nv xv _ _ (by omega) (by omega) rfl).mono fun e w6 ⟨r,he,hr,hb⟩=>⟨r,he,r,rfl,fun _ h=>hr.trans (osi h),hb⟩)⟩
           | 11,ho,hd =>
            obtain rfl:=osi ho;have f0:a.tmps.getD 97 undef=wv od:=hd 7 _ _ rfl rfl (by kernel_rfl) _ rfl;have f1:a.tmps.getD 100 undef=wv (nv*xv):=hd 10 _ _ rfl rfl (by kernel_rfl) _ rfl;exact⟨rfl,Option.some_ne_none _,qdj _ _ _ rfl qr7 #[wv od,wv (nv*xv)] (by simp[Act.eval,f0,f1]) ((qsc od (nv*xv) _ _ (by omega) (by omega) rfl).mono fun e w6 ⟨r,he,hr,hb⟩=>⟨r,he,r,rfl,fun _ h=>hr.trans (osi h),hb⟩)⟩
           | 12,ho,hd =>
            obtain rfl:=osi ho;exact⟨rfl,Option.some_ne_none _,qc9 _ _ _ rfl _ _ (hd 1 _ _ rfl rfl (by kernel_rfl) _ rfl) (hd 2 _ _ rfl rfl (by kernel_rfl) _ rfl) _ (qjr _ _ _ _ _ hatb) ⟨_,rfl,fun _ h=>osi h,Below.refl _ _⟩⟩
           | 13,ho,hd=>exact absurd rfl hne
           | i'+14,ho,hd =>
            have:i'+14 < 14:=(Array.getElem?_eq_some_iff.1 ho).1;omega
          case store =>
           intro o ho a w' hsz hdf hw hf hbase;obtain rfl:=osi ho;have f0:a.tmps.getD 102 undef = .pointer (some ⟨E,at'*2,none⟩):=hf 12 _ _ rfl rfl _ rfl;have f1:a.tmps.getD 101 undef=wv (od+nv*xv):=hf 11 _ _ rfl rfl _ rfl;refine⟨rfl,qhx _ _ _ rfl _ _ f0 f1 (qjs _ _ _ _ _ _ (hE _ hw).1 (hE _ hw).2.1 (hE _ hw).2.2.1 (hE _ hw).2.2.2) ?_⟩;refine hK2 _ _ (Met.intro (hJ _ _ ⟨a.tmps.getD 90 undef,a.tmps.getD 91 undef,a.tmps.getD 92 undef,a.tmps.getD 93 undef,a.tmps.getD 94 undef,a.tmps.getD 95 undef,a.tmps.getD 96 undef,a.tmps.getD 97 undef,a.tmps.getD 98 undef,a.tmps.getD 99 undef,a.tmps.getD 100 undef,a.tmps.getD 101 undef,a.tmps.getD 102 undef,⟨w',lhd hw,rfl⟩,(q8z hsz hdf hbase).trans ?_⟩));kernel_rfl
         case rest =>
          obtain⟨w',HW,rfl⟩:=hcut;refine hKO _ _ ?_;go_wp2;go_roundw
          case measure=>simp[vI];omega
          case rel =>
           obtain⟨_,hnew,_,hgm,hEm,hg,hat,hin⟩:=HO.out;refine⟨j+1,qh (by omega),by omega,fun e=>absurd e HN0.out,(show Hid _ from((hEm.q8 HW.out hEml).put at' (od+nv*xv)).congr fun t _=>?_),(show Hid _ from(((HK.out.below hgm).below HW.out).set _ _).set _ _),((hB.trans ((hgm.trans (HW.out.mono hgm.size)).mono hB.size)).setCell hEl _).setCell hEl _⟩;rw[hg,hat,hin,hnew];exact qse A X hjn t
      ·have hjnI:¬ ((j:Int) < (n:Int)):=by omega
       have HJ:=lhd (show j=n by omega);clear hj0;go_wp2;go_roundw
       case measure=>simp[vI];omega
       case rel=>exact⟨k+1,qh (by omega),by omega,(show Hid _ from HE.out.congr fun t ht=>by rw[HJ.out];exact qs2 A X (by rw[HNN.out] at ht;exact Nat.pos_of_ne_zero fun e=>by rw[e,Nat.mul_zero] at ht;omega) t),HK5,hB⟩
    ·have hke:k=c:=by omega
     go_wp2;go_roundw
     case measure=>simp[vI];omega
     case rel=>exact⟨i+1,qh (by omega),by omega,(show Hid _ from HE.out.congr fun t _=>by rw[hke];exact qsf A X t),HK,hB⟩
  ·have hie:i=r:=by omega
   have o0:=HK.out.cell _ _ hEne HG.out.2.2.2.2.2.2.1;have o1:=HK.out.cell _ _ hEne HG.out.2.2.2.2.2.2.2.1;have o2:=HK.out.cell _ _ hEne HG.out.2.2.2.2.2.2.2.2.1;have hWW:=HG.out.2.2.2.2.2.2.2.2.2.2.1;have hsl:w.heap.size+1+1 < W.heap.size:=by omega
   have s0:W.cell? ⟨w.heap.size+1+1,0,none⟩=some (.int .i64 0):=by have:=HC.out.2.2.2.2.2.2.1 0;simpa using this
   have s1:W.cell? ⟨w.heap.size+1+1,1,none⟩=some (.int .i64 0):=by have:=HC.out.2.2.2.2.2.2.1 1;simpa using this
   have s2:W.cell? ⟨w.heap.size+1+1,2,none⟩=some (.slice none 0 0):=by have:=HC.out.2.2.2.2.2.2.1 2;simpa using this
   have r0:=HK.out.cell _ _ hn2 (Cx.q8 hWW s0);have r1:=HK.out.cell _ _ hn2 (Cx.q8 hWW s1);have r2:=HK.out.cell _ _ hn2 (Cx.q8 hWW s2);have f:∀ j,wr.frozen? ⟨w.heap.size+1+1,j,none⟩=false:=fun j=>HK.out.froz _ hn2 (Nat.lt_of_lt_of_le hsl hWW.size) (qv hWW hsl (HC.out.2.2.2.2.2.2.2.1 j))
   have f0:=f 0;have f1:=f 1;have f2:=f 2;clear s0 s1 s2 f hWW;go_wp2_with fail;have e0:∀ (x y z:Value),(((wr.setCell ⟨w.heap.size+1+1,0,none⟩ x).setCell ⟨w.heap.size+1+1,1,none⟩ y).setCell ⟨w.heap.size+1+1,2,none⟩ z).cell? ⟨w.heap.size+1+1,0,none⟩=some x:=fun x y z =>
    js9 (js9 (World.cell?_setCell_same' _ _ _ (by rw[r0];rfl)) (by simp)) (by simp)
   have e1:∀ (x y z:Value),(((wr.setCell ⟨w.heap.size+1+1,0,none⟩ x).setCell ⟨w.heap.size+1+1,1,none⟩ y).setCell ⟨w.heap.size+1+1,2,none⟩ z).cell? ⟨w.heap.size+1+1,1,none⟩=some y:=fun x y z =>
    js9 (World.cell?_setCell_same' _ _ _ (by rw[js9 r1 (by simp)];rfl)) (by simp)
   have e2:∀ (x y z:Value),(((wr.setCell ⟨w.heap.size+1+1,0,none⟩ x).setCell ⟨w.heap.size+1+1,1,none⟩ y).setCell ⟨w.heap.size+1+1,2,none⟩ z).cell? ⟨w.heap.size+1+1,2,none⟩=some z:=fun x y z =>
    World.cell?_setCell_same' _ _ _ (by rw[js9 (js9 r2 (by simp)) (by simp)];rfl)
   rw[<-HNN.out];refine bodyPost_ret (v:=.tuple #[.agg #[.int .i64 r,.int .i64 n,.slice (some ⟨E,0,none⟩) NN NN],.bool true]) (by simp[results,Tryz.results68,go_sem,e0,e1,e2]) rfl ⟨E,rfl,by omega,?_,?_,?_⟩
   ·have h1:=HG.out.2.2.2.2.2.2.2.2.2.2.2;have h2:=HK.out.size;simp only [World.size_setCell];omega
   ·have hew:EW (((wr.setCell ⟨w.heap.size+1+1,0,none⟩ (.int .i64 r)).setCell ⟨w.heap.size+1+1,1,none⟩ (.int .i64 n)).setCell ⟨w.heap.size+1+1,2,none⟩ (.slice (some ⟨E,0,none⟩) NN NN)) E NN (stM A X c n i 0 0):=fun j hj=>by
     obtain⟨g1,g2,g3,g4⟩:=HE.out j hj;have hEw':(⟨E,j*2,none⟩ : Addr).block≠w.heap.size+1+1:=fun e=>hn2 e.symm
     have hEw2:(⟨E,j*2+1,none⟩ : Addr).block≠w.heap.size+1+1:=fun e=>hn2 e.symm
     exact⟨xe (xe (xe g1 hEw') hEw') hEw',xe (xe (xe g2 hEw2) hEw2) hEw2,by simpa [World.frozen?_setCell] using g3,by simpa [World.frozen?_setCell] using g4⟩
    exact hew.congr fun t ht=>by rw[hie];exact qsg A X (by rw[<-HNN.out];exact ht)
   ·have h1:=hwB.trans (hB.mono hwB.size);have h2:w.heap.size<=w.heap.size+1+1:=by omega
    exact((h1.setCell (by exact h2) _).setCell (by exact h2) _).setCell (by exact h2) _
end Go.Proofs.YtlhicnfeajejhaaGreatDoor
namespace Go.Cx
open Go.RowKit
variable {P:Program} {ops:Array Oper} {Q:Exit->Act->World->Prop}
def qr9 (ops:Array Oper) (m f:Nat):Bool:=decide (m < ops.size) && ((List.range m).all fun i=>reach ops f m i) && (List.range ops.size).all fun k=>decide (k<=m) || dep .any ops k (k - 1)
structure StL (ops:Array Oper) (m:Nat) (F:Nat->Value->World->Prop) (B:Nat->Bool) (a0:Act) (w0:World) (l:Nat->Bool) (a:Act) (w:World):Prop where
 sz:a.tmps.size=a0.tmps.size
 df:a.defers=a0.defers
 fact:∀ (i:Nat) (o:Oper) (d:Nat),ops[i]? = some o->o.dst=some d->l i=true->F i (a.tmps.getD d undef) w
 base:∀ s,(∀ (i:Nat) (o:Oper),i < m->ops[i]? = some o->o.dst≠some s)->a.tmps.getD s undef=a0.tmps.getD s undef
 below:Below w0.heap.size w0 w
 box:∀ (i:Nat) (o:Oper) (d:Nat),ops[i]? = some o->o.dst=some d->l i=true->B i=true->∃ p,a.tmps.getD d undef = .pointer (some ⟨p,0,none⟩)/\p < w.heap.size
 apart:∀ (i:Nat) (o:Oper) (d:Nat) (j:Nat) (o':Oper) (d':Nat),ops[i]? = some o->o.dst=some d->ops[j]? = some o'->o'.dst=some d'->l i=true->l j=true->B i=true->B j=true->i≠j->a.tmps.getD d undef≠a.tmps.getD d' undef
theorem qra {id:Nat} {a0:Act} {w:World} (hm:P.follows .mixedOrders=true) (F:Nat->Value->World->Prop) (B:Nat->Bool) (m f n:Nat) (hn:a0.tmps.size=n) (hd:qfa ops n=true) (hlx:qmk .any ops=true) (htl:qr9 ops m f=true)
  (Fin:Nat->Act->World->Prop)
  (hF:∀ i v w w',F i v w->Below w.heap.size w w'->F i v w')
  (hstep:∀ (i:Nat) (o:Oper),ops[i]? = some o->i < m->∀ (a:Act) (w':World),Below w.heap.size w w'->(∀ (j:Nat) (oj:Oper) (dj:Nat),ops[j]? = some oj->oj.dst=some dj->dep .any ops i j=true->F j (a.tmps.getD dj undef) w') →
   (∀ s,(∀ (i:Nat) (o:Oper),i < m->ops[i]? = some o->o.dst≠some s)->a.tmps.getD s undef=a0.tmps.getD s undef)->a.tmps.size=n →
   Region.wanted o (yielded ops a.tmps)=true/\o.dst≠none/\Oper.wp P o a w' (fun a' w''=>∃ v,a'=a.put o.dst v/\F i v w''/\Below w'.heap.size w' w''/\(B i=true->∃ p,v = .pointer (some ⟨p,0,none⟩)/\w'.heap.size<=p/\p < w''.heap.size)) Q)
  (hmid:∀ (a:Act) (w':World),a.tmps.size=n->a.defers=a0.defers->(∀ (i:Nat) (o:Oper) (d:Nat),ops[i]? = some o->o.dst=some d->i < m->F i (a.tmps.getD d undef) w') →
   (∀ s,(∀ (i:Nat) (o:Oper),i < m->ops[i]? = some o->o.dst≠some s)->a.tmps.getD s undef=a0.tmps.getD s undef)->Below w.heap.size w w' →
   (∀ (i:Nat) (o:Oper) (d:Nat) (j:Nat) (o':Oper) (d':Nat),ops[i]? = some o->o.dst=some d->ops[j]? = some o'->o'.dst=some d'->i < m->j < m->B i=true->B j=true->i≠j->a.tmps.getD d undef≠a.tmps.getD d' undef)->Fin 0 a w')
  (htail:∀ (k:Nat) (o:Oper),ops[m+k]? = some o->∀ (a:Act) (w':World),Fin k a w'->Region.wanted o (yielded ops a.tmps)=true/\Oper.wp P o a w' (fun a' w''=>Fin (k+1) a' w'') Q)
  (hdone:∀ (a:Act) (w':World),Fin (ops.size - m) a w'->Q .normal a w') :
  (Code.region id ops true).wp P Q a0 w:=by
 have hsp:=qbq9 hd;unfold qr9 at htl;rw[Bool.and_eq_true,Bool.and_eq_true,decide_eq_true_eq] at htl;obtain⟨⟨hms,hre⟩,hch⟩:=htl;have hreach:∀ i,i < m->reach ops f m i=true:=fun i hi=>List.all_eq_true.1 hre i (List.mem_range.2 hi)
 have hchain:∀ k,m < k->k < ops.size->dep .any ops k (k - 1)=true:=fun k h1 h2=>by
  have:=List.all_eq_true.1 hch k (List.mem_range.2 h2);rw[Bool.or_eq_true,decide_eq_true_eq] at this;exact this.resolve_left (by omega)
 have down:∀ (l:Nat->Bool),(∀ i,l i=true->∀ j,dep .any ops i j=true->l j=true)->(∀ j,l j=true->j < ops.size)->∀ k j,j<=k->l (m+k)=true->l (m+j)=true:=fun l hc hb k j hjk hk=>by
  induction k with
  | zero=>rw[show j=0 by omega];exact hk
  | succ k ih =>
   rcases Nat.lt_or_ge j (k+1) with hlt | hge
   ·refine ih (by omega) ?_;have:=hc _ hk _ (hchain (m+(k+1)) (by omega) (hb _ hk))
    rwa [show m+(k+1) - 1=m+k by omega] at this
   ·rw[show j=k+1 by omega];exact hk
 refine qdc hm hlx (fun l a w'=>(∀ i,l i=true->∀ j,dep .any ops i j=true->l j=true)/\(∀ j,l j=true->j < ops.size)/\(l m=false->StL ops m F B a0 w l a w')/\(∀ k,l (m+k)=true->l (m+(k+1))=false->Fin (k+1) a w')) ?_ ?_ ?_
 ·exact⟨fun i h=>absurd h Bool.false_ne_true,fun i h=>absurd h Bool.false_ne_true,fun _=>⟨rfl,rfl,fun _ _ _ _ _ h=>absurd h Bool.false_ne_true,fun _ _=>rfl,qb (Below.refl _ w) 1,fun _ _ _ _ _ h=>absurd h Bool.false_ne_true,fun _ _ _ _ _ _ _ _ _ _ h=>absurd h Bool.false_ne_true⟩,fun k h=>absurd h Bool.false_ne_true⟩
 ·intro i o ho l a w' hli hdep ⟨hc,hb,h1,h2⟩;have hil:=(Array.getElem?_eq_some_iff.1 ho).1;have hcl:∀ j,(fun j=>j == i || l j) j=true->∀ k,dep .any ops j k=true->(fun j=>j == i || l j) k=true:=fun j hj k hk=>by
   simp only [Bool.or_eq_true,beq_iff_eq] at hj ⊢;rcases hj with rfl | hj
   ·exact .inr (hdep k hk)
   ·exact .inr (hc j hj k hk)
  have hbl:∀ j,(fun j=>j == i || l j) j=true->j < ops.size:=fun j hj=>by
   simp only [Bool.or_eq_true,beq_iff_eq] at hj;rcases hj with rfl | hj
   ·exact hil
   ·exact hb j hj
  by_cases him:i < m
  ·have hmm:l m=false:=by
    cases hc':l m with
    | false=>rfl
    | true =>
     have:=q70 hc f m i (hreach i him) hc';rw[hli] at this;cases this
   have hst:=h1 hmm;obtain⟨hw,hdn,hwp⟩:=hstep i o ho him a w' hst.below (fun j oj dj hj hdj hdp=>hst.fact j oj dj hj hdj (hdep j hdp)) hst.base (hst.sz.trans hn);refine⟨hw,Oper.wp_mono (fun a' w'' hx=>?_) hwp⟩;obtain⟨v,rfl,hv,hgr,hbx⟩:=hx;obtain⟨d,hdo⟩:=Option.ne_none_iff_exists'.1 hdn;obtain⟨hd2,hd3⟩:=hsp i o d ho hdo;refine⟨hcl,hbl,fun _=>?_,fun k hk=>?_⟩
   ·rw[hdo];have old:∀ j (oj:Oper) dj,ops[j]? = some oj->oj.dst=some dj->j≠i->(a.put (some d) v).tmps.getD dj undef=a.tmps.getD dj undef:=fun j oj dj hj hdj hji=>by
     rw[q3s,if_neg (fun e=>hd3 j oj hj hji (by rw[hdj,e.1]))]
    have new:(a.put (some d) v).tmps.getD d undef=v:=by rw[q3s,if_pos ⟨rfl,by rw[hst.sz,hn];exact hd2⟩]
    have lis:∀ j,j≠i->(j == i || l j)=true->l j=true:=fun j hji hlj=>by
     have:(j == i)=false:=by simpa using hji
     rwa [this,Bool.false_or] at hlj
    have same:∀ (oj:Oper) dj,ops[i]? = some oj->oj.dst=some dj->dj=d:=fun oj dj hj hdj=>by
     rw[ho] at hj;injection hj with hj;subst hj
     rw[hdo] at hdj;injection hdj with hdj;exact hdj.symm
    refine⟨by show (a.tmps.setIfInBounds d v).size=_;simpa using hst.sz,hst.df,fun j oj dj hj hdj hlj=>?_,fun s hs=>?_,hst.below.trans (hgr.mono hst.below.size),fun j oj dj hj hdj hlj hB=>?_,fun j oj dj k ok dk hj hdj hk hdk hlj hlk hBj hBk hne=>?_⟩
    ·by_cases hji:j=i
     ·subst hji;rw[same oj dj hj hdj,new];exact hv
     ·rw[old j oj dj hj hdj hji];exact hF _ _ _ _ (hst.fact j oj dj hj hdj (lis j hji hlj)) hgr
    ·rw[q3s,if_neg (fun e=>hs i o him ho (by rw[hdo,e.1]))];exact hst.base s hs
    ·by_cases hji:j=i
     ·subst hji;obtain⟨p,h3,_,h4⟩:=hbx hB;exact⟨p,by rw[same oj dj hj hdj,new];exact h3,h4⟩
     ·obtain⟨p,h3,h4⟩:=hst.box j oj dj hj hdj (lis j hji hlj) hB;exact⟨p,by rw[old j oj dj hj hdj hji];exact h3,Nat.lt_of_lt_of_le h4 hgr.size⟩
    ·by_cases hji:j=i
     ·subst hji;have hki:k≠j:=fun e=>hne e.symm
      obtain⟨p,h3,h5,_⟩:=hbx hBj;obtain⟨q,h6,h7⟩:=hst.box k ok dk hk hdk (lis k hki hlk) hBk;rw[same oj dj hj hdj,new,old k ok dk hk hdk hki,h3,h6];intro e;injection e with e;injection e with e;injection e with e;omega
     ·by_cases hki:k=i
      ·subst hki;obtain⟨p,h3,h5,_⟩:=hbx hBk;obtain⟨q,h6,h7⟩:=hst.box j oj dj hj hdj (lis j hji hlj) hBj;rw[same ok dk hk hdk,new,old j oj dj hj hdj hji,h3,h6];intro e;injection e with e;injection e with e;injection e with e;omega
      ·rw[old j oj dj hj hdj hji,old k ok dk hk hdk hki];exact hst.apart j oj dj k ok dk hj hdj hk hdk (lis j hji hlj) (lis k hki hlk) hBj hBk hne
   ·exfalso
    simp only [Bool.or_eq_true,beq_iff_eq] at hk;rcases hk with hk | hk
    ·omega
    ·have:=down l hc hb k 0 (Nat.zero_le _) hk;rw[Nat.add_zero,hmm] at this;cases this
  ·obtain⟨k,rfl⟩ : ∃ k,i=m+k:=⟨i - m,by omega⟩
   have hFin:Fin k a w':=by
    cases k with
    | zero =>
     rw[Nat.add_zero] at hli hdep;have hst:=h1 hli;have hall:∀ j,j < m->l j=true:=fun j hj=>by
      have hr:=hreach j hj;cases f with
      | zero=>cases hr
      | succ f =>
       unfold reach at hr;rw[Bool.or_eq_true] at hr;rcases hr with hr | hr
       ·exact hdep j hr
       ·obtain⟨k,_,hk⟩:=List.any_eq_true.1 hr;rw[Bool.and_eq_true] at hk;exact q70 hc f k j hk.2 (hdep k hk.1)
     exact hmid a w' (hst.sz.trans hn) hst.df (fun i o d ho hdo him=>hst.fact i o d ho hdo (hall i him)) hst.base hst.below fun i o d j o' d' hi hdi hj hdj h1 h2 hB1 hB2 hne=>hst.apart i o d j o' d' hi hdi hj hdj (hall i h1) (hall j h2) hB1 hB2 hne
    | succ k =>
     refine h2 k ?_ hli;have:=hdep _ (hchain (m+(k+1)) (by omega) hil)
     rwa [show m+(k+1) - 1=m+k by omega] at this
   obtain⟨hw,hwp⟩:=htail k o ho a w' hFin;refine⟨hw,Oper.wp_mono (fun a' w'' hx=>⟨hcl,hbl,fun h=>?_,fun j hj hj2=>?_⟩) hwp⟩
   ·exfalso
    simp only [Bool.or_eq_false_iff,beq_eq_false_iff_ne] at h;cases k with
    | zero=>exact h.1 rfl
    | succ k =>
     have h3:=hdep _ (hchain (m+(k+1)) (by omega) hil);rw[show m+(k+1) - 1=m+k by omega] at h3;have:=down l hc hb k 0 (Nat.zero_le _) h3;rw[Nat.add_zero,h.2] at this;cases this
   ·have hjk:j=k:=by
     simp only [Bool.or_eq_true,beq_iff_eq] at hj;simp only [Bool.or_eq_false_iff,beq_eq_false_iff_ne] at hj2;rcases hj with hj | hj
     ·omega
     ·rcases Nat.lt_trichotomy j k with h | h | h
      ·exfalso
       obtain⟨k',rfl⟩ : ∃ k',k=k'+1:=⟨k - 1,by omega⟩
       have h3:=hdep _ (hchain (m+(k'+1)) (by omega) hil);rw[show m+(k'+1) - 1=m+k' by omega] at h3;rcases Nat.lt_or_ge j k' with h4 | h4
       ·have:=down l hc hb k' (j+1) (by omega) h3;rw[hj2.2] at this;cases this
       ·exact hj2.1 (by omega)
      ·exact h
      ·exfalso
       have:=down l hc hb j k (by omega) hj;rw[hli] at this;cases this
    rw[hjk];exact hx
 ·intro l a w' hall ⟨_,hb,_,h2⟩;have h3:=h2 (ops.size - m - 1) (hall _ (by omega)) (by
   cases hc':l (m+(ops.size - m - 1+1)) with
   | false=>rfl
   | true=>have:=hb _ hc';omega)
  rw[show ops.size - m - 1+1=ops.size - m by omega] at h3;exact hdone a w' h3
theorem qr5 {id:Nat} {a0:Act} {w:World} (hm:P.follows .mixedOrders=true) (F:Nat->Value->World->Prop) (B:Nat->Bool) (m f n:Nat) (hn:a0.tmps.size=n) (hd:qfa ops n=true) (hlx:qmk .any ops=true) (htl:qr9 ops m f=true)
  (hF:∀ i v w w',F i v w->Below w.heap.size w w'->F i v w')
  (hstep:∀ (i:Nat) (o:Oper),ops[i]? = some o->i < m->∀ (a:Act) (w':World),Below w.heap.size w w'->(∀ (j:Nat) (oj:Oper) (dj:Nat),ops[j]? = some oj->oj.dst=some dj->dep .any ops i j=true->F j (a.tmps.getD dj undef) w') →
   (∀ s,(∀ (i:Nat) (o:Oper),i < m->ops[i]? = some o->o.dst≠some s)->a.tmps.getD s undef=a0.tmps.getD s undef)->a.tmps.size=n →
   Region.wanted o (yielded ops a.tmps)=true/\o.dst≠none/\Oper.wp P o a w' (fun a' w''=>∃ v,a'=a.put o.dst v/\F i v w''/\Below w'.heap.size w' w''/\(B i=true->∃ p,v = .pointer (some ⟨p,0,none⟩)/\w'.heap.size<=p/\p < w''.heap.size)) Q)
  (hmid:∀ (a:Act) (w':World),a.tmps.size=n->a.defers=a0.defers->(∀ (i:Nat) (o:Oper) (d:Nat),ops[i]? = some o->o.dst=some d->i < m->F i (a.tmps.getD d undef) w') →
   (∀ s,(∀ (i:Nat) (o:Oper),i < m->ops[i]? = some o->o.dst≠some s)->a.tmps.getD s undef=a0.tmps.getD s undef)->Below w.heap.size w w' →
   (∀ (i:Nat) (o:Oper) (d:Nat) (j:Nat) (o':Oper) (d':Nat),ops[i]? = some o->o.dst=some d->ops[j]? = some o'->o'.dst=some d'->i < m->j < m->B i=true->B j=true->i≠j->a.tmps.getD d undef≠a.tmps.getD d' undef) →
   ∃ T:Nat->Act->World->Prop,T 0 a w'/\(∀ (k:Nat) (o:Oper),ops[m+k]? = some o->∀ a1 w1,T k a1 w1->Region.wanted o (yielded ops a1.tmps)=true/\Oper.wp P o a1 w1 (fun a2 w2=>T (k+1) a2 w2) Q)/\∀ a1 w1,T (ops.size - m) a1 w1->Q .normal a1 w1) :
  (Code.region id ops true).wp P Q a0 w :=
 qra hm F B m f n hn hd hlx htl (fun k a w'=>∃ T:Nat->Act->World->Prop,T k a w'/\(∀ (k:Nat) (o:Oper),ops[m+k]? = some o->∀ a1 w1,T k a1 w1->Region.wanted o (yielded ops a1.tmps)=true/\Oper.wp P o a1 w1 (fun a2 w2=>T (k+1) a2 w2) Q)/\∀ a1 w1,T (ops.size - m) a1 w1->Q .normal a1 w1) hF hstep hmid
  (fun k o ho a w' ⟨T,h1,h2,h3⟩=>⟨(h2 k o ho a w' h1).1,Oper.wp_mono (fun _ _ h=>⟨T,h,h2,h3⟩) (h2 k o ho a w' h1).2⟩)
  (fun _ _ ⟨_,h1,_,h3⟩=>h3 _ _ h1)
def qsw (ops:Array Oper) (m s:Nat):Bool:=(List.range m).all fun i=>(ops[i]?).bind (·.dst) != some s
theorem qab {m s:Nat} (h:qsw ops m s=true):∀ (i:Nat) (o:Oper),i < m->ops[i]? = some o->o.dst≠some s:=fun i o hi ho e=>by
 have:=List.all_eq_true.1 h i (List.mem_range.2 hi);rw[ho,Option.bind_some,e] at this;simp at this
theorem qrd {o:Oper} {a:Act} {w:World} {K:Act->World->Prop} (t:TypeId) (hop:o.op = .alloc t) (v:Value) (w':World) (hrun:(Instr.alloc t true (.tuple #[])).run P w = .ok v w') (h:K (a.put o.dst v) w'):Oper.wp P o a w K Q:=by
 unfold Oper.wp;simp[execOp,hop,hrun,Result.andThen];exact h
end Go.Cx
namespace Go.Cx
open Go.RowKit Go.Proofs.YtlhicnfeajejhaaGreatDoor
variable {K:List Cl} {hi lo:Int->Int}
theorem qpt {f g:Int->Int} {r:Int} : ∀ {K:List Cl},(∀ x∈K,f x.id*se x.s r=g x.id*se x.s r)->q1q f r K=q1q g r K
 | [],_=>rfl
 | x :: K,h=>by
  show f x.id*se x.s r+q1q f r K=g x.id*se x.s r+q1q g r K;rw[h x (.head _),qpt fun y hy=>h y (.tail _ hy)]
theorem lin (G:Good K) (M:Mtc K hi lo) (hac:∀ a,¬ yp K hi a) {h:Int->Int} (hh:∀ d,h d≠0->∃ a,hi a=d/\hi a≠0) (hz:∀ c,hi c≠0->q1q h c K=0):∀ d,h d=0:=by
 obtain⟨r,hr,hrn⟩:=qed (Wy K hi) hac _ (K.map Cl.id) (nlr _);have hin:∀ c,hi c≠0->c∈K.map Cl.id:=fun c hc=>by
  obtain⟨_,_,y,hy,_,e,_⟩:=G.jm (M.sg c hc);exact e ▸ List.mem_map_of_mem hy
 have step:∀ c,hi c≠0->h (hi c)≠0->∃ b,hi b≠0/\h (hi b)≠0/\Wy K hi b c:=fun c hc hne=>by
  refine Classical.byContradiction fun hno=>?_
  have h1:q1q h c K=q1q (qw (hi c) (h (hi c))) c K:=qpt fun x hx=>by
   unfold qw;by_cases hxc:x.id=hi c
   ·rw[if_pos hxc,hxc]
   ·rw[if_neg hxc,Int.zero_mul];refine Classical.byContradiction fun hp=>hno ?_
    obtain⟨b,hb,hb0⟩:=hh x.id fun e=>hp (by rw[e,Int.zero_mul])
    refine⟨b,hb0,fun e=>hp (by rw[<-hb,e,Int.zero_mul]),?_,fun e=>hxc (by rw[<-hb,<-e]),hc⟩;have hs:se x.s c≠0:=fun e=>hp (by rw[e,Int.mul_zero])
    refine Classical.byContradiction fun hns=>hs (q9b fun s hs e=>hns ⟨s,?_,e⟩)
    rw[hb,q0b G.asc hx];exact hs
  have h2:q1q (qw (hi c) (h (hi c))) c K=h (hi c)*sgn K (hi c) c:=by rw[<-G.bdD];exact(q5f _ _ _).symm
  rw[hz c hc,h2] at h1;exact(Int.mul_ne_zero hne (M.sg c hc)) h1.symm
 have key:∀ k c,hi c≠0->(K.map Cl.id).length - r c<=k->h (hi c)=0:=by
  intro k;induction k with
  | zero =>
   intro c hc hk;refine Classical.byContradiction fun hne=>?_
   obtain⟨b,hb,_,hw⟩:=step c hc hne;have h1:=hr b (hin b hb) c (hin c hc) hw;have h2:=hrn b;omega
  | succ k ih =>
   intro c hc hk;refine Classical.byContradiction fun hne=>?_
   obtain⟨b,hb,hbn,hw⟩:=step c hc hne;have h1:=hr b (hin b hb) c (hin c hc) hw;have h2:=hrn b;exact hbn (ih b hb (by omega))
 intro d;refine Classical.byContradiction fun hne=>?_
 obtain⟨a,rfl,ha⟩:=hh d hne;exact hne (key _ a ha (nlr _))
def HiC (hi:Int->Int) (h:Int->Int):Prop:=∀ d,h d≠0->∃ a,hi a=d/\hi a≠0
theorem qh1 (r:Int):∀ K:List Cl,q1q zz r K=0
 | []=>rfl
 | x :: K=>by
  show 0*se x.s r+q1q zz r K=0;rw[qh1 r K,Int.zero_mul];rfl
theorem qd1 (k:Int) (f:Int->Int) (r:Int):∀ K:List Cl,q1q (fun d=>k*f d) r K=k*q1q f r K
 | []=>(Int.mul_zero k).symm
 | x :: K=>by
  show k*f x.id*se x.s r+q1q (fun d=>k*f d) r K=k*(f x.id*se x.s r+q1q f r K);rw[qd1 k f r K,Int.mul_add,Int.mul_assoc]
theorem qre (G:Good K) (M:Mtc K hi lo) (hac:∀ a,¬ yp K hi a) {f h:Int->Int} (hf:In0 K f) (hh:HiC hi h) (hl:∀ c,hi c≠0->f c+q1q h c K=0) :
  q79 K hi f=(fun d=>f d+q1q h d K,h):=by
 obtain⟨n,hn⟩:=q9f G M hac hf;have h1:=qos hn;have h2:=qjr9 hn;have h3:=qis9 hn;generalize hA:(q79 K hi f).1=F at hn h1 h2 h3;generalize hB:(q79 K hi f).2=H at hn h1 h2 h3;have hd:∀ d,(fun d=>h d+(-1)*H d) d=0:=lin G M hac (h:=fun d=>h d+(-1)*H d) (fun d hd=>by
  by_cases e:h d=0
  ·have e2:H d≠0:=fun e2=>hd (by show h d + -1*H d=0;rw[e,e2];rfl)
   rcases h2 d e2 with e3 | e3
   ·exact absurd rfl e3
   ·exact e3
  ·exact hh d e) fun c hc=>by
   rw[q709,qd1];have e1:=hl c hc;have e2:=h1 c;rw[qh1] at e2;have e3:F c=0:=Classical.byContradiction fun e=>hc (h3 c e)
   omega
 have he:h=H:=funext fun d=>by have:=hd d;simp only at this;omega
 have hF:F=fun d=>f d+q1q h d K:=funext fun d=>by rw[h1 d,qh1,he];omega
 have:q79 K hi f=((q79 K hi f).1,(q79 K hi f).2):=rfl;rw[this,hA,hB,hF,he]
theorem qqp (G:Good K) (M:Mtc K hi lo) (hac:∀ a,¬ yp K hi a) {f:Int->Int} (hf:In0 K f) :
  HiC hi (q79 K hi f).2/\(∀ d,(q79 K hi f).1 d=f d+q1q (q79 K hi f).2 d K)/\∀ c,hi c≠0->(q79 K hi f).1 c=0:=by
 obtain⟨n,hn⟩:=q9f G M hac hf;refine⟨fun d hd=>(qjr9 hn d hd).resolve_left fun e=>e rfl,fun d=>?_,fun c hc=>Classical.byContradiction fun e=>hc (qis9 hn c e)⟩;have:=qos hn d;rw[qh1] at this;omega
theorem HiC.lin {h g:Int->Int} (hh:HiC hi h) (hg:HiC hi g) (x y:Int):HiC hi fun d=>x*h d+y*g d:=fun d hd=>by
 by_cases e:h d=0
 ·have e2:g d≠0:=fun e2=>hd (by show x*h d+y*g d=0;rw[e,e2];simp)
  exact hg d e2
 ·exact hh d e
theorem In0.lin {f g:Int->Int} (hf:In0 K f) (hg:In0 K g) (x y:Int):In0 K fun d=>x*f d+y*g d:=fun d hd=>by
 by_cases e:f d=0
 ·have e2:g d≠0:=fun e2=>hd (by show x*f d+y*g d=0;rw[e,e2];simp)
  exact hg d e2
 ·exact hf d e
theorem qsh (G:Good K) (M:Mtc K hi lo) (hac:∀ a,¬ yp K hi a) {f g:Int->Int} (hf:In0 K f) (hg:In0 K g) (x y:Int) :
  q79 K hi (fun d=>x*f d+y*g d)=(fun d=>x*(q79 K hi f).1 d+y*(q79 K hi g).1 d,fun d=>x*(q79 K hi f).2 d+y*(q79 K hi g).2 d):=by
 obtain⟨f1,f2,f3⟩:=qqp G M hac hf;obtain⟨g1,g2,g3⟩:=qqp G M hac hg;have hs:∀ d,q1q (fun d=>x*(q79 K hi f).2 d+y*(q79 K hi g).2 d) d K=x*q1q (q79 K hi f).2 d K+y*q1q (q79 K hi g).2 d K:=fun d=>by
  rw[q709 (fun d=>x*(q79 K hi f).2 d) (fun d=>y*(q79 K hi g).2 d),qd1,qd1]
 have he:∀ d,x*f d+y*g d+q1q (fun d=>x*(q79 K hi f).2 d+y*(q79 K hi g).2 d) d K=x*(q79 K hi f).1 d+y*(q79 K hi g).1 d:=fun d=>by
  rw[hs,f2,g2,Int.mul_add,Int.mul_add];omega
 rw[qre G M hac (hf.lin hg x y) (f1.lin g1 x y) fun c hc=>by rw[he,f3 c hc,g3 c hc];simp];exact Prod.ext (funext he) rfl
theorem qrp (G:Good K) (M:Mtc K hi lo) (hac:∀ a,¬ yp K hi a) {g:Int->Int} (hg:HiC hi g) (hf:In0 K fun d=>q1q g d K):(q79 K hi fun d=>q1q g d K).1=zz:=by
 have h1:HiC hi fun d=>(-1)*g d:=fun d hd=>hg d fun e=>hd (by show -1*g d=0;rw[e];rfl)
 rw[qre G M hac hf h1 fun c _=>by rw[qd1];omega];refine funext fun d=>?_
 show q1q g d K+q1q (fun d=>(-1)*g d) d K=0;rw[qd1];omega
theorem qsi (G:Good K) {x:Cl} (hx:x∈K) (r:Int):se x.s r=sgn K x.id r:=by
 have h1:=qcq G.asc x.id 1 r;have h2:=G.bdD x.id 1 r;have h3:bdD K x.id 1 r=q1q (qw x.id 1) r K:=q5f _ _ _;rw[q0b G.asc hx] at h1;omega
theorem qst (G:Good K) (f:Int->Int):In0 K fun d=>q1q f d K:=fun d hd=>by
 refine Classical.byContradiction fun hn=>hd ?_
 show q1q f d K=0;rw[qpt (g:=zz) fun x hx=>?_,qh1];rw[qsi G hx];have:sgn K x.id d=0:=Classical.byContradiction fun e=>by
  obtain⟨_,_,y,hy,_,e2,_⟩:=G.jm e;exact hn (e2 ▸ List.mem_map_of_mem hy)
 rw[this,Int.mul_zero,Int.mul_zero]
def sL (L:List Int) (g:Int->Int):Int:=(L.map g).sum
theorem qqo (a:Int) (L:List Int) (g:Int->Int):sL (a :: L) g=g a+sL L g:=by unfold sL;rw[List.map_cons,List.sum_cons]
theorem qqz (A:Int->Int) (d:Int):∀ {L:List Int},L.Nodup->sL L (fun a=>A a*qw a 1 d)=if d∈L then A d else 0
 | [],_=>rfl
 | a :: L,h=>by
  rw[qqo,qqz A d (List.nodup_cons.1 h).2];unfold qw;by_cases e:d=a
  ·subst e;rw[if_pos rfl,if_neg (List.nodup_cons.1 h).1,if_pos (.head _)];omega
  ·rw[if_neg e];by_cases hm:d∈L
   ·rw[if_pos hm,if_pos (.tail _ hm)];simp
   ·rw[if_neg hm,if_neg fun x=>(List.mem_cons.1 x).elim e hm];simp
theorem qrq (A:Int->Int) (r:Int):∀ L:List Int,q1q (fun d=>sL L fun a=>A a*qw a 1 d) r K=sL L fun a=>A a*bdD K a 1 r
 | []=>qh1 r K
 | a :: L=>by
  have h1:(fun d=>sL (a :: L) fun a=>A a*qw a 1 d)=fun d=>A a*qw a 1 d+sL L fun a=>A a*qw a 1 d:=funext fun d=>qqo _ _ _
  have h3:bdD K a 1 r=q1q (qw a 1) r K:=q5f _ _ _;rw[h1,q709 (fun d=>A a*qw a 1 d),qd1,qrq A r L,qqo,h3]
theorem qs3 (G:Good K) (M:Mtc K hi lo) (hac:∀ a,¬ yp K hi a) (A:Int->Int):∀ L:List Int,
  In0 K (fun r=>sL L fun a=>A a*bdD K a 1 r)/\∀ r,(q79 K hi fun r=>sL L fun a=>A a*bdD K a 1 r).1 r=sL L fun a=>A a*(q79 K hi (bdD K a 1)).1 r
 | []=>⟨fun d hd=>absurd rfl hd,fun r=>by
  have:(fun r=>sL [] fun a=>A a*bdD K a 1 r)=fun d=>q1q zz d K:=funext fun d=>(qh1 d K).symm
  rw[this,qrp G M hac (g:=zz) (fun d hd=>absurd rfl hd) (qst G zz)];rfl⟩
 | a :: L=>by
  obtain⟨i1,i2⟩:=qs3 G M hac A L;have h1:(fun r=>sL (a :: L) fun a=>A a*bdD K a 1 r)=fun r=>A a*bdD K a 1 r+1*(sL L fun a=>A a*bdD K a 1 r):=funext fun r=>by rw[qqo,Int.one_mul]
  rw[h1];refine⟨(qcu G a 1).lin i1 _ _,fun r=>?_⟩;rw[qsh G M hac (qcu G a 1) i1];show _+1*(q79 K hi _).1 r=_;rw[i2,qqo,Int.one_mul]
theorem qt3 (G:Good K) (M:Mtc K hi lo) (hac:∀ a,¬ yp K hi a) (hbb:∀ f r,q1q (fun d=>q1q f d K) r K=0) {c e:Int} (hc:∃ y∈K,y.id=c/\y.dim=e+1) (r:Int) :
  (sL (q27 K hi lo e) fun a=>q85 K hi lo (bdD K c 1) a*q85 K hi lo (bdD K a 1) r)=0:=by
 have hk:∀ a,q1m K (bdD K a 1)=bdD K a 1:=fun a=>qel (qcu G a 1)
 obtain⟨f1,f2,f3⟩:=qqp G M hac (qcu G c 1);obtain⟨A,hA⟩ : ∃ A,A=q85 K hi lo (bdD K c 1):=⟨_,rfl⟩
 have hAd:∀ d,A d=if pdB hi lo d then 0 else (q79 K hi (bdD K c 1)).1 d:=fun d=>by rw[hA];unfold q85;rw[hk]
 rw[<-hA];by_cases hp:pdB hi lo r=true
 ·have:(fun a=>A a*q85 K hi lo (bdD K a 1) r)=fun a=>0*qw a 1 r:=funext fun a=>by unfold q85;rw[if_pos hp];simp
  rw[this,qqz (fun _=>0) r (List.Pairwise.imp (fun h e=>by omega) (qp5 G e))];split <;> rfl
 have hpd:(fun a=>A a*q85 K hi lo (bdD K a 1) r)=fun a=>A a*(q79 K hi (bdD K a 1)).1 r:=funext fun a=>by unfold q85;rw[if_neg hp,hk]
 rw[hpd,<-(qs3 G M hac A (q27 K hi lo e)).2 r];have hAL:(fun d=>sL (q27 K hi lo e) fun a=>A a*qw a 1 d)=A:=funext fun d=>by
  rw[qqz A d (List.Pairwise.imp (fun h e=>by omega) (qp5 G e))];by_cases hm:d∈q27 K hi lo e
  ·rw[if_pos hm]
  ·rw[if_neg hm];refine Classical.byContradiction fun hn=>hm (qgi9 G M hac hc fun e=>hn ?_)
   rw[hA,e]
 have hbA:(fun r=>sL (q27 K hi lo e) fun a=>A a*bdD K a 1 r)=fun r=>q1q A r K:=funext fun r=>by rw[<-qrq,hAL]
 rw[hbA];obtain⟨g,hg⟩ : ∃ g:Int->Int,g=fun d=>if pdB hi lo d then (-1)*(q79 K hi (bdD K c 1)).1 d else 0:=⟨_,rfl⟩
 have hgH:HiC hi g:=fun d hd=>by
  rw[hg] at hd;by_cases h:pdB hi lo d=true
  ·have hd:(q79 K hi (bdD K c 1)).1 d≠0:=fun e=>hd (by show (if pdB hi lo d then _ else _)=0;rw[if_pos h,e];rfl)
   have h0:hi d=0:=Classical.byContradiction fun e=>hd (f3 d e)
   have hl:lo d≠0:=fun e=>by unfold pdB at h;rw[h0,e] at h;simp at h
   exact⟨lo d,M.lh d hl,by rw[M.lh d hl];intro e;rw[e,M.lz] at hl;exact hl rfl⟩
  ·exact absurd (if_neg h) hd
 have hsum:∀ d,(q79 K hi (bdD K c 1)).1 d=A d+(-1)*g d:=fun d=>by
  rw[hAd,hg];show _=_ + -1*(if pdB hi lo d then _ else _);by_cases h:pdB hi lo d=true
  ·rw[if_pos h,if_pos h];omega
  ·rw[if_neg h,if_neg h];omega
 have hY:∀ r,q1q (q79 K hi (bdD K c 1)).1 r K=0:=fun r=>by
  have h1:(q79 K hi (bdD K c 1)).1=fun d=>q1q (qw c 1) d K+q1q (q79 K hi (bdD K c 1)).2 d K:=funext fun d=>by rw[f2 d];show bdD K c 1 d+_=_;rw[show bdD K c 1 d=q1q (qw c 1) d K from q5f _ _ _]
  rw[h1,q709 (fun d=>q1q (qw c 1) d K),hbb,hbb];rfl
 have hAg:(fun r=>q1q A r K)=fun r=>q1q g r K:=funext fun r=>by
  have:=hY r;rw[show (q79 K hi (bdD K c 1)).1=fun d=>A d+(-1)*g d from funext hsum,q709 A,qd1] at this;omega
 rw[hAg,qrp G M hac hgH (qst G g)];rfl
end Go.Cx
namespace Go.Proofs.YtlhicnfeajejhaaGreatDoor
open Go.RowKit Go.Cx
def qox (w:World) (p r c:Nat) (u:Value):Prop:=w.cell? ⟨p,0,none⟩=some (.int .i64 r)/\w.cell? ⟨p,1,none⟩=some (.int .i64 c)/\w.cell? ⟨p,2,none⟩=some u
theorem qox.q8 {w w':World} {p r c:Nat} {u:Value} (h:qox w p r c u) (hb:Below w.heap.size w w'):qox w' p r c u:=⟨Cx.q8 hb h.1,Cx.q8 hb h.2.1,Cx.q8 hb h.2.2⟩
theorem qr0 (w:World):(Instr.alloc 44 true (.tuple #[])).run Tryz.prog w = .ok (.pointer (some ⟨w.heap.size,0,none⟩)) (w.alloc (.cells #[.int .i64 0,.int .i64 0,.slice none 0 0] 44)):=by
 simp[go_sem]
def BoxM (b:Nat) (v:Value) (w:World):Prop:=∃ p,v = .pointer (some ⟨p,0,none⟩)/\b<=p/\p < w.heap.size/\(∃ x:Int,w.cell? ⟨p,0,none⟩=some (.int .i64 x))/\(∃ x:Int,w.cell? ⟨p,1,none⟩=some (.int .i64 x))/\(∃ a n k,w.cell? ⟨p,2,none⟩=some (.slice a n k))/\∀ j,w.frozen? ⟨p,j,none⟩=false
theorem BoxM.q8 {b:Nat} {v:Value} {w w':World} (h:BoxM b v w) (hb:Below w.heap.size w w'):BoxM b v w':=by
 obtain⟨p,h1,h2,h3,⟨x,hx⟩,⟨y,hy⟩,⟨a,n,k,hz⟩,h4⟩:=h;exact⟨p,h1,h2,Nat.lt_of_lt_of_le h3 hb.size,⟨x,Cx.q8 hb hx⟩,⟨y,Cx.q8 hb hy⟩,⟨a,n,k,Cx.q8 hb hz⟩,fun j=>(hb.frozen (by exact h3)).trans (h4 j)⟩
theorem qrf {b:Nat} (w:World) (h:b<=w.heap.size):BoxM b (.pointer (some ⟨w.heap.size,0,none⟩)) (w.alloc (.cells #[.int .i64 0,.int .i64 0,.slice none 0 0] 44)) :=
 ⟨_,rfl,h,by simp,⟨0,qd w _ _ (0,0) 0⟩,⟨0,qd w _ _ (0,0) 1⟩,⟨none,0,0,qd w _ _ (0,0) 2⟩,fun j=>jz (heap_alloc_new w _) j⟩
theorem qr1 {b:Nat} (w:World) (p r c:Nat) (a:Option Addr) (n k:Nat) (h:BoxM b (.pointer (some ⟨p,0,none⟩)) w):(Instr.storeAt 44 (.pointer (some ⟨p,0,none⟩)) (.agg #[.int .i64 r,.int .i64 c,.slice a n k])).run Tryz.prog w = .ok () (((w.setCell ⟨p,0,none⟩ (.int .i64 r)).setCell ⟨p,1,none⟩ (.int .i64 c)).setCell ⟨p,2,none⟩ (.slice a n k)):=by
 obtain⟨p',h1,_,_,⟨x,hx⟩,⟨y,hy⟩,⟨a,n,k,hz⟩,h4⟩:=h;injection h1 with h1;injection h1 with h1;injection h1 with h1;subst h1
 have f0:=h4 0;have f1:=h4 1;have f2:=h4 2;simp[go_sem,hx,hy,hz,f0,f1,f2]
theorem qrv (w:World) (p r c:Nat) (a:Option Addr) (n k:Nat) (h:qox w p r c (.slice a n k)):(Instr.loadAt 44 (.pointer (some ⟨p,0,none⟩))).run Tryz.prog w = .ok (.agg #[.int .i64 r,.int .i64 c,.slice a n k]) w:=by
 obtain⟨h0,h1,h2⟩:=h;simp[go_sem,h0,h1,h2]
theorem qqu (w:World) (p i:Nat) (hi:i < 3):(Instr.fieldAt 44 (.pointer (some ⟨p,0,none⟩)) i).run Tryz.prog w = .ok (.pointer (some ⟨p,i,none⟩)) w:=by
 rcases (by omega:i=0\/i=1\/i=2) with rfl | rfl | rfl <;> simp[go_sem]
def qrj (w:World) (p:Nat) (x y z:Value):World:=((w.setCell ⟨p,0,none⟩ x).setCell ⟨p,1,none⟩ y).setCell ⟨p,2,none⟩ z
theorem qox.set {w:World} {p q r c:Nat} {u:Value} (h:qox w p r c u) (hne:p≠q) (x y z:Value):qox (qrj w q x y z) p r c u :=
 ⟨xe (xe (xe h.1 hne) hne) hne,xe (xe (xe h.2.1 hne) hne) hne,xe (xe (xe h.2.2 hne) hne) hne⟩
theorem qox.new {b:Nat} {w:World} {p r c:Nat} {u:Value} (h:BoxM b (.pointer (some ⟨p,0,none⟩)) w):qox (qrj w p (.int .i64 r) (.int .i64 c) u) p r c u:=by
 obtain⟨p',h1,_,_,⟨x,hx⟩,⟨y,hy⟩,⟨a,n,k,hz⟩,h4⟩:=h;injection h1 with h1;injection h1 with h1;injection h1 with h1;subst h1
 exact qks hx hy hz _ _ _
theorem BoxM.set {w:World} {b p q:Nat} (h:BoxM b (.pointer (some ⟨p,0,none⟩)) w) (hne:p≠q) (x y z:Value):BoxM b (.pointer (some ⟨p,0,none⟩)) (qrj w q x y z):=by
 obtain⟨p',h1,h2,h3,⟨x',hx⟩,⟨y',hy⟩,⟨a,n,k,hz⟩,h4⟩:=h;injection h1 with h1;injection h1 with h1;injection h1 with h1;subst h1
 exact⟨p,rfl,h2,by simpa [qrj] using h3,⟨x',xe (xe (xe hx hne) hne) hne⟩,⟨y',xe (xe (xe hy hne) hne) hne⟩,⟨a,n,k,xe (xe (xe hz hne) hne) hne⟩,fun j=>by simpa [qrj,World.frozen?_setCell] using h4 j⟩
theorem qqw {w:World} {b p:Nat} (h:BoxM b (.pointer (some ⟨p,0,none⟩)) w) {u:Value} {L:List Int} (hs:Sl w 2 u (wvs L)) (x y z:Value):Sl (qrj w p x y z) 2 u (wvs L):=by
 obtain⟨p',h1,_,_,⟨x',hx⟩,⟨y',hy⟩,⟨a,n,k,hz⟩,_⟩:=h;injection h1 with h1;injection h1 with h1;injection h1 with h1;subst h1
 obtain⟨ad,n',c,rfl,h2,h3,h4,h5,h6⟩:=hs;refine⟨ad,n',c,rfl,h2,h3,h4,h5,fun q hq j v hj=>?_⟩;have hc:=h6 q hq j v hj;obtain⟨g,_,hg⟩:=qq0 L j v hj;have n0:q.add j≠⟨p,0,none⟩:=fun e=>by
  rw[e,hx] at hc;rcases hg with ⟨_,rfl⟩ | ⟨_,rfl⟩ <;> cases hc
 have n1:q.add j≠⟨p,1,none⟩:=fun e=>by
  rw[e,hy] at hc;rcases hg with ⟨_,rfl⟩ | ⟨_,rfl⟩ <;> cases hc
 have n2:q.add j≠⟨p,2,none⟩:=fun e=>by
  rw[e,hz] at hc;rcases hg with ⟨_,rfl⟩ | ⟨_,rfl⟩ <;> cases hc
 exact js9 (js9 (js9 hc n0) n1) n2
theorem qr2 {B p:Nat} {w w':World} (h:Below B w w') (hp:B<=p) (x y z:Value):Below B w (qrj w' p x y z):=((h.setCell hp x).setCell hp y).setCell hp z
theorem qt4 (r c:Nat) (w:World) (hr:r<=200) (hc:c<=200):Calls Tryz.prog 69 #[.int .i64 r,.int .i64 c] w (Gvs (.mat r c ((List.range (r*c)).map fun _=>0)) w):=by
 refine(qss r c w hr hc).mono ?_;rintro e w' ⟨E,rfl,_,_,hE,hb⟩;exact⟨_,rfl,⟨_,rfl,hE.sl (Nat.le_trans (Nat.mul_le_mul hr hc) (by decide))⟩,hb⟩
theorem qr3:∀ args w,(callFunc 69 args).run Tryz.prog w = .ok (.enter 69 args) w:=k8 Tryz.func69 (by kernel_rfl) (by kernel_rfl)
end Go.Proofs.YtlhicnfeajejhaaGreatDoor
namespace Go.Cx
open Go.Proofs.YtlhicnfeajejhaaGreatDoor
section
variable {K:List Cl} {hi lo:Int->Int}
theorem qsx (G:Good K) (M:Mtc K hi lo) {W:Int->Nat} (hW:Wgt K hi W) {n:Nat} {f h f' h':Int->Int} (k:Clr K hi n f h f' h'):In0 K f->Ph (K.map Cl.id) W f'<=Ph (K.map Cl.id) W f/\In0 K f':=by
 induction k with
 | done f h _=>exact fun a=>⟨nlr _,a⟩
 | step n f h f' h' c h1 h2 _ _ ih =>
  intro a;have s1:=qb8 G M hW a h1 h2;obtain⟨g1,g2⟩:=ih (qmn G a c);have g1:Ph (K.map Cl.id) W f'<=Ph (K.map Cl.id) W (stF K hi f c):=g1;exact⟨by omega,g2⟩
theorem qsj (G:Good K) (M:Mtc K hi lo) (hac:∀ a,¬ yp K hi a) (hl:K.length<=65535) (c r:Int):nb (q85 K hi lo (bdD K c 1) r)<=K.length+4:=by
 unfold q85;split
 ·rw[q0g];omega
 ·rw[qel (qcu G c 1)];obtain⟨W,hW⟩:=qct G M hac;obtain⟨n,k⟩:=q9f G M hac (qcu G c 1);obtain⟨h1,h2⟩:=qsx G M hW k (qcu G c 1);have h3:∀ d,nb (bdD K c 1 d)<=1:=fun d=>by
   rw[G.bdD,Int.one_mul];refine q31 _ _ ?_;by_cases e:sgn K c d=0
   ·rw[e];decide
   ·rcases G.q2v e with e | e <;> rw[e] <;> decide
  have h4:=qoa hW h3 hl;rw[show 1+K.length+3=K.length+4 by omega] at h4;exact qb9 hW.pos h2 h1 h4 r
def sd (d:Int):Int:=if d.tmod 2=0 then 1 else -1
def qml (n:Nat->Nat):Nat->Int
 | 0=>0
 | d+1=>qml n d+sd d*n d
def qh0:List Cl->Int
 | []=>0
 | x :: K=>sd x.dim+qh0 K
def sC (g:Cl->Int):List Cl->Int
 | []=>0
 | x :: K=>g x+sC g K
theorem qr4 {g f:Cl->Int} : ∀ {K:List Cl},(∀ x∈K,g x=f x)->sC g K=sC f K
 | [],_=>rfl
 | x :: K,h=>by
  show g x+sC g K=f x+sC f K;rw[h x (.head _),qr4 fun y hy=>h y (.tail _ hy)]
theorem qrk {g f:Cl->Int} {a:Cl} : ∀ {K:List Cl},Asc K->a∈K->(∀ x∈K,x.id≠a.id->g x=f x)->sC g K - g a=sC f K - f a
 | [],_,h,_=>by cases h
 | x :: K,hA,ha,h=>by
  obtain⟨h1,h2⟩:=List.pairwise_cons.1 hA;show g x+sC g K - g a=f x+sC f K - f a;rcases List.mem_cons.1 ha with rfl | ha
  ·rw[qr4 (g:=g) (f:=f) fun y hy=>h y (.tail _ hy) fun e=>by have:=h1 y hy;omega];omega
  ·have:=qrk h2 ha fun y hy=>h y (.tail _ hy)
   have h3:=h x (.head _) fun e=>by have:=h1 a ha;omega
   omega
def unS (K:List Cl) (hi lo:Int->Int):Int:=sC (fun x=>if pdB hi lo x.id then 0 else sd x.dim) K
theorem qsk (d:Int) (h:0<=d - 1):sd (d - 1)+sd d=0:=by
 unfold sd;rw[Int.tmod_eq_emod_of_nonneg h,Int.tmod_eq_emod_of_nonneg (by omega)];split <;> split <;> omega
theorem qsl (G:Good K) (hd:∀ x∈K,0<=x.dim) {a b:Int} (h:kc K hi lo a b=true):unS K (pu hi a b) (pu lo b a)=unS K hi lo:=by
 obtain⟨h1,h2,h3,h4,h5⟩:=q2c.1 h;obtain⟨hab,ha,hb⟩:=G.q3h h1;obtain⟨x,hx,y,hy,rfl,rfl,hdim⟩:=G.jm h1;have hnx:pdB hi lo x.id=false:=by unfold pdB;rw[h4,h5];rfl
 have hny:pdB hi lo y.id=false:=by unfold pdB;rw[h2,h3];rfl
 have s1:=qrk (g:=fun z=>if z.id=y.id then 0 else if pdB hi lo z.id then 0 else sd z.dim) (f:=fun z=>if pdB hi lo z.id then 0 else sd z.dim) G.asc hy fun z _ hz=>by
  show (if z.id=y.id then (0:Int) else _)=_;rw[if_neg hz]
 have s2:=qrk (g:=fun z=>if pdB (pu hi y.id x.id) (pu lo x.id y.id) z.id then 0 else sd z.dim) (f:=fun z=>if z.id=y.id then 0 else if pdB hi lo z.id then 0 else sd z.dim) G.asc hx fun z _ hz=>by
  show (if pdB (pu hi y.id x.id) (pu lo x.id y.id) z.id then (0:Int) else sd z.dim)=if z.id=y.id then 0 else if pdB hi lo z.id then 0 else sd z.dim
  by_cases hzy:z.id=y.id
  ·rw[if_pos hzy,if_pos];unfold pdB;rw[hzy,q35];have:(x.id != 0)=true:=by simp;omega
   rw[this];rfl
  ·rw[if_neg hzy];unfold pdB;rw[yz _ _ hzy,yz _ _ hz]
 have e1:(if y.id=y.id then (0:Int) else if pdB hi lo y.id then 0 else sd y.dim)=0:=if_pos rfl;have e2:(if pdB hi lo y.id then (0:Int) else sd y.dim)=sd y.dim:=by rw[hny];rfl
 have e3:(if x.id=y.id then (0:Int) else if pdB hi lo x.id then 0 else sd x.dim)=sd x.dim:=by rw[if_neg (fun e=>hab e.symm),hnx];rfl
 have e4:(if pdB (pu hi y.id x.id) (pu lo x.id y.id) x.id then (0:Int) else sd x.dim)=0:=by
  rw[if_pos];unfold pdB;rw[q35];have:(y.id != 0)=true:=by simp;omega
  rw[this,Bool.or_true]
 have s1:sC (fun z=>if z.id=y.id then (0:Int) else if pdB hi lo z.id then 0 else sd z.dim) K - (if y.id=y.id then (0:Int) else if pdB hi lo y.id then 0 else sd y.dim)=sC (fun z=>if pdB hi lo z.id then 0 else sd z.dim) K - (if pdB hi lo y.id then (0:Int) else sd y.dim):=s1;have s2:sC (fun z=>if pdB (pu hi y.id x.id) (pu lo x.id y.id) z.id then (0:Int) else sd z.dim) K - (if pdB (pu hi y.id x.id) (pu lo x.id y.id) x.id then (0:Int) else sd x.dim)=sC (fun z=>if z.id=y.id then (0:Int) else if pdB hi lo z.id then 0 else sd z.dim) K - (if x.id=y.id then (0:Int) else if pdB hi lo x.id then 0 else sd x.dim):=s2;rw[e1,e2] at s1;rw[e3,e4] at s2;have:=qsk x.dim (by rw[<-hdim];exact hd y hy);rw[hdim] at s1;unfold unS;omega
theorem qrg (G:Good K) (hd:∀ x∈K,0<=x.dim):∀ (m:List (Int×Int)) (hi lo:Int->Int) (st:(Int->Int)×(Int->Int)),xk K hi lo m=some st->unS K st.1 st.2=unS K hi lo
 | [],hi,lo,st,h=>by rw[xk] at h;cases h;rfl
 | p :: m,hi,lo,st,h=>by
  rw[xk] at h;split at h
  ·rename_i hf;rw[qrg G hd m _ _ st h,qsl G hd hf]
  ·cases h
theorem qsy (K:List Cl):unS K zz zz=qh0 K:=by
 induction K with
 | nil=>rfl
 | cons x K ih =>
  show (if pdB zz zz x.id then (0:Int) else sd x.dim)+unS K zz zz=sd x.dim+qh0 K;rw[ih];rfl
theorem qrh (q:Cl->Bool):∀ K:List Cl,(∀ x∈K,0<=x.dim/\x.dim<=5)->qml (fun d=>((K.filter fun x=>x.dim == (d:Int)).filter q).length) 6=sC (fun x=>if q x then sd x.dim else 0) K
 | [],_=>by simp[qml,sC]
 | x :: K,h=>by
  have ih:=qrh q K fun y hy=>h y (.tail _ hy)
  have hx:=h x (.head _);have key:∀ d:Nat,(((x :: K).filter fun x=>x.dim == (d:Int)).filter q).length=(if x.dim=d/\q x=true then 1 else 0)+((K.filter fun x=>x.dim == (d:Int)).filter q).length:=fun d=>by
   rw[List.filter_cons];by_cases h1:x.dim=d
   ·have:(x.dim == (d:Int))=true:=by simpa using h1
    rw[if_pos this,List.filter_cons];by_cases h2:q x=true
    ·rw[if_pos h2,if_pos ⟨h1,h2⟩,List.length_cons];omega
    ·rw[if_neg h2,if_neg fun e=>h2 e.2];omega
   ·have:(x.dim == (d:Int))=false:=by simpa using h1
    rw[if_neg (by rw[this];exact Bool.false_ne_true),if_neg fun e:x.dim=d/\q x=true=>h1 e.1,Nat.zero_add]
  show _=(if q x then sd x.dim else 0)+sC _ K;rw[<-ih];simp only [qml,key];generalize ((K.filter fun x=>x.dim == ((0:Nat):Int)).filter q).length=n0;generalize ((K.filter fun x=>x.dim == ((0+1:Nat):Int)).filter q).length=n1;generalize ((K.filter fun x=>x.dim == ((0+1+1:Nat):Int)).filter q).length=n2;generalize ((K.filter fun x=>x.dim == ((0+1+1+1:Nat):Int)).filter q).length=n3;generalize ((K.filter fun x=>x.dim == ((0+1+1+1+1:Nat):Int)).filter q).length=n4;generalize ((K.filter fun x=>x.dim == ((0+1+1+1+1+1:Nat):Int)).filter q).length=n5;have s0:sd ((0:Nat):Int)=1:=by decide
  have s1:sd ((0+1:Nat):Int) = -1:=by decide
  have s2:sd ((0+1+1:Nat):Int)=1:=by decide
  have s3:sd ((0+1+1+1:Nat):Int) = -1:=by decide
  have s4:sd ((0+1+1+1+1:Nat):Int)=1:=by decide
  have s5:sd ((0+1+1+1+1+1:Nat):Int) = -1:=by decide
  rw[s0,s1,s2,s3,s4,s5];have hc:x.dim=0\/x.dim=1\/x.dim=2\/x.dim=3\/x.dim=4\/x.dim=5:=by omega
  cases q x <;> rcases hc with e | e | e | e | e | e <;> rw[e] <;> simp[sd] <;> omega
theorem qs4 (G:Good K) (hd:∀ x∈K,0<=x.dim/\x.dim<=5) {m:List (Int×Int)} (h:xk K zz zz m=some (hi,lo)):qml (fun d=>(q27 K hi lo d).length) 6=qh0 K:=by
 have h1:=qrg G (fun x hx=>(hd x hx).1) m zz zz _ h;rw[qsy] at h1;rw[<-h1];have h2:=qrh (fun x=>!pdB hi lo x.id) K hd;have h3:(fun d:Nat=>(q27 K hi lo d).length)=fun d:Nat=>((K.filter fun x=>x.dim == (d:Int)).filter fun x=>!pdB hi lo x.id).length:=funext fun d=>by
  unfold q27;rw[G.ids,List.filter_map,List.length_map];rfl
 rw[h3,h2];unfold unS;refine qr4 fun x _=>?_
 show (if (!pdB hi lo x.id)=true then sd x.dim else 0)=if pdB hi lo x.id=true then 0 else sd x.dim
 cases pdB hi lo x.id <;> rfl
theorem qsm (L:List Int) (g:Int->Int) (k:Nat) (hk:k < L.length):sL (L.take (k+1)) g=sL (L.take k) g+g (L.getD k 0):=by
 unfold sL;rw[List.take_add_one,List.getElem?_eq_getElem hk,List.map_append,List.sum_append,List.getD_eq_getElem?_getD,List.getElem?_eq_getElem hk];simp
theorem qri {r c i k:Nat} (g:Nat->Int) (hi:i < r) (hk:k < c):((List.range (r*c)).map g).getD (i*c+k) 0=g (i*c+k):=by
 have h:i*c+k < r*c:=by
  have:(i+1)*c<=r*c:=Nat.mul_le_mul_right c hi;rw[Nat.add_mul,Nat.one_mul] at this;omega
 rw[List.getD_eq_getElem?_getD,List.getElem?_map,List.getElem?_range h];rfl
end
end Go.Cx
namespace Go.Proofs.YtlhicnfeajejhaaGreatDoor
open Go.RowKit Go.Cx
section
variable {K:List Cl} (G:Cx.Good K) (hc:chk K=(0,0)) (hbb:∀ f r,q1q (fun d=>q1q f d K) r K=0) {m:List (Int×Int)} (hm:j8 K m=0)
include G hc hm
theorem qnh (d:Int):∃ hi lo,xk K zz zz m=some (hi,lo)/\Mtc K hi lo/\(∀ a,¬ yp K hi a)/\mhi K m=hi/\mlo K m=lo/\yt K m d=q27 K hi lo d/\yt K m (d - 1)=q27 K hi lo (d - 1)/\yt K m (d+1)=q27 K hi lo (d+1):=by
 obtain⟨hi,lo,hp,M,hac⟩:=q84 G hm;have hcan:canon K=K:=G.cells.1;have hE:opE K m=0:=by unfold opE;rw[hc,if_pos rfl,hcan];exact hm
 have h1:mhi K m=hi:=by unfold mhi;rw[hcan,hp];rfl
 have h2:mlo K m=lo:=by unfold mlo;rw[hcan,hp];rfl
 refine⟨hi,lo,hp,M,hac,h1,h2,?_,?_,?_⟩ <;> (unfold yt;rw[if_pos hE,hcan,h1,h2])
theorem qrr (hl:K.length<=65535) (d:Int):∀ x∈qd0 K m d,nb x<=K.length+4:=fun x hx=>by
 obtain⟨hi,lo,hp,M,hac,h1,h2,_⟩:=qnh G hc hm d;unfold qd0 at hx;obtain⟨t,_,rfl⟩:=List.mem_map.1 hx;rw[G.cells.1,h1,h2];exact qsj G M hac hl _ _
include hbb
theorem qrl (d:Int) (i j:Nat) (hi:i < (yt K m (d - 1)).length) (hj:j < (yt K m (d+1)).length) :
  qgz (qd0 K m d) (qd0 K m (d+1)) (yt K m d).length (yt K m (d+1)).length i j (yt K m d).length=0:=by
 obtain⟨hh,lo,hp,M,hac,h1,h2,e0,e1,e2⟩:=qnh G hc hm d;obtain⟨c,hcd⟩ : ∃ c,c=(q27 K hh lo (d+1)).getD j 0:=⟨_,rfl⟩
 obtain⟨r,hrd⟩ : ∃ r,r=(q27 K hh lo (d - 1)).getD i 0:=⟨_,rfl⟩
 have key:∀ k,k<=(yt K m d).length->qgz (qd0 K m d) (qd0 K m (d+1)) (yt K m d).length (yt K m (d+1)).length i j k=sL ((q27 K hh lo d).take k) fun a=>q85 K hh lo (bdD K c 1) a*q85 K hh lo (bdD K a 1) r:=fun k=>by
  induction k with
  | zero=>intro _;rfl
  | succ k ih =>
   intro hk;rw[qsm _ _ _ (by rw[<-e0];exact hk),<-ih (by omega)];show _+_*_=_
   congr 1
   have hk':k < (yt K m d).length:=hk;obtain⟨q1,q2⟩:=qr8 (i:=i) hk';obtain⟨q3,q4⟩:=qr8 (i:=k) hj;have d1:d+1 - 1=d:=by omega
   have f1:(qd0 K m d).getD (i*(yt K m d).length+k) 0=q85 K hh lo (bdD K ((q27 K hh lo d).getD k 0) 1) r:=by
    unfold qd0;rw[qri _ hi hk',q1,q2,G.cells.1,h1,h2,hrd];rfl
   have f2:(qd0 K m (d+1)).getD (k*(yt K m (d+1)).length+j) 0=q85 K hh lo (bdD K c 1) ((q27 K hh lo d).getD k 0):=by
    unfold qd0;rw[qri _ (by rw[d1];exact hk') hj,q3,q4,G.cells.1,h1,h2,hcd];unfold bdE;rw[d1]
   rw[f1,f2,Int.mul_comm]
 rw[key _ (nlr _),e0,List.take_length];have hcm:c∈q27 K hh lo (d+1):=by
  rw[hcd,List.getD_eq_getElem?_getD,List.getElem?_eq_getElem (by rw[<-e2];exact hj)];exact List.getElem_mem _
 exact qt3 G M hac hbb ((qiu G).1 hcm).1 r
end
theorem qsn (l:List Int) (f:Int->Int) (r:Int):q1q (fun d=>q1q f d (q25 l)) r (q25 l)=0:=by
 have h:=qt1 f ((l.take 12).map q11) (qrt l) r;rw[q5f] at h;rw[<-h];exact congrArg (fun g=>q1q g r _) (funext fun d=>(q5f f d _).symm)
theorem qs5 (l:List Int):∀ x∈q25 l,0<=x.dim/\x.dim<=5:=fun x hx=>by
 have S:=qid ((l.take 12).map q11) fun s hs=>by
  obtain⟨x,_,rfl⟩:=List.mem_map.1 hs;exact⟨(q5d x).1,(q5d x).2.1⟩
 have hx:x∈xf (kg ((l.take 12).map q11)) (kg ((l.take 12).map q11)).length:=hx;generalize kg ((l.take 12).map q11)=A at S hx;obtain⟨i,hi,rfl⟩:=List.mem_map.1 hx;have hi:=List.mem_range.1 hi;have hm:A.getD i []∈A:=by
  rw[List.getD_eq_getElem?_getD,List.getElem?_eq_getElem hi];exact List.getElem_mem _
 have h1:=S.len _ hm;have h2:=List.length_pos_iff.2 (S.ne _ hm);show 0<=((A.getD i []).length:Int) - 1/\((A.getD i []).length:Int) - 1<=5;omega
end Go.Proofs.YtlhicnfeajejhaaGreatDoor
namespace Go.Cx
theorem qrw (K:List Cl) (x:Cl):qh0 (K++[x])=qh0 K+sd x.dim:=by
 induction K with
 | nil=>show sd x.dim+0=0+sd x.dim;omega
 | cons y K ih=>show sd y.dim+qh0 (K++[x])=sd y.dim+qh0 K+sd x.dim;rw[ih];omega
theorem qso (K:List Cl) : -(K.length:Int)<=qh0 K/\qh0 K<=K.length:=by
 induction K with
 | nil=>exact⟨Int.le_refl _,Int.le_refl _⟩
 | cons y K ih =>
  show -((K.length+1:Nat):Int)<=sd y.dim+qh0 K/\sd y.dim+qh0 K<=((K.length+1:Nat):Int);unfold sd;split <;> omega
end Go.Cx
namespace Go.Proofs.YtlhicnfeajejhaaGreatDoor
open Go.RowKit Go.Cx
attribute [local go_sem ↓] Go.wp_at_zero Go.wp_at_succ
theorem qsp (v:Value) (l:List Ce) (w:World) (h:SlC w v l) (hl:l.length<=1000000) (hsl:∀ x∈l,x.s.length<=1099511627776) (G:Cx.Good (l.map Ce.cl)) :
  Calls Tryz.prog 70 #[.agg #[v]] w fun e w'=>e = .returned (.int .i64 (qh0 (l.map Ce.cl)))/\Below w.heap.size w w':=by
 obtain⟨a,len,cap,rfl⟩:=qg h.1;have HH:=lhd (h.mono fun p u hc=>qk hc (.cells #[.slice a len cap] 26));have HSL:=lhd hsl;have HG:=lhd G;clear h hsl G;go_enter Tryz.func70,Tryz.ntmps70;go_wp2_with fail;obtain⟨W,hW⟩ : ∃ W:World,W=w.alloc (.cells #[.slice a len cap] 26):=⟨_,rfl⟩
 rw[<-hW];rw[<-hW] at HH;have hw:Below w.heap.size w W:=by rw[hW];exact(Below.refl _ _).alloc (nlr _) _
 clear hW;refine(qdz _ l _ HH.out (by omega) HSL.out).mono ?_;rintro e w1 ⟨r,M,rfl,hM,hR,hb1⟩;rw[q4v HG.out] at hM;have hml:M.length=l.length:=by have:=congrArg List.length hM;simpa using this
 obtain⟨ma,mc,hre⟩:=qj hR.1;subst hre;have hB1:Below w.heap.size w w1:=hw.trans (hb1.mono hw.size);obtain⟨hmc1,hmc2,_⟩:=(Sl.qc hR.1).open;unfold maxLen at hmc2;obtain⟨n,hn⟩ : ∃ n,n=M.length:=⟨_,rfl⟩
 have hsM:=Sl.qc hR.1;rw[<-hn] at hmc1 hsM hml ⊢;have hnl:n<=1000000:=by omega
 have HM:=lhd (aiq hM (aiq hn (aiq hsM hB1)));clear hM hn hsM hR hb1 hw hB1 hml;go_wp2_with fail;go_loopw [3,5] (fun o i wr=>∃ j:Nat,i = .int .i64 j/\j<=n/\o = .int .i64 (qh0 ((M.take j).map Ce.cl))/\Below w1.heap.size w1 wr) (fun _ i _=>n - (vI i).toNat)
 case atStart=>exact⟨0,rfl,Nat.zero_le _,rfl,Below.refl _ _⟩
 case round =>
  obtain⟨j,rfl,hj,rfl,hB⟩:=hrel;by_cases hlt:j < n
  ·obtain⟨x,hx⟩ : ∃ x,M[j]? = some x:=⟨_,List.getElem?_eq_getElem (by rw[<-HM.out.2.1];exact hlt)⟩
   obtain⟨_,_,_,h5,h6⟩:=HM.out.2.2.1.open;obtain⟨ad,hade⟩ : ∃ ad,ma=some ad:=by
    cases ma with
    | none=>have:=h5 rfl;omega
    | some ad=>exact⟨ad,rfl⟩
   subst hade;obtain⟨e0,e1,e2⟩:=zh M j x hx;have d1:wr.cell? ⟨(ad.add (j*3)).block,(ad.add (j*3)).off+1,none⟩=some (.int .i64 x.dim):=by rw[qi _ _ _ (by omega)];exact Cx.q8 hB (h6 ad rfl _ _ e1)
   have htk:qh0 ((M.take (j+1)).map Ce.cl)=qh0 ((M.take j).map Ce.cl)+sd x.dim:=by
    rw[List.take_add_one,hx,List.map_append];exact qrw _ _
   obtain⟨E,hE⟩ : ∃ E,E=qh0 ((M.take j).map Ce.cl):=⟨_,rfl⟩
   have hEb:=qso ((M.take j).map Ce.cl);rw[<-hE] at htk hEb ⊢;rw[List.length_map,List.length_take] at hEb;have hm1:min j M.length<=1000000:=by omega
   have w1p:IntKind.i64.wrap (E+1)=E+1:=IntWalk.i64_in _ (by omega);have w1m:IntKind.i64.wrap (E - 1)=E - 1:=IntWalk.i64_in _ (by omega);have HT:=lhd htk;clear e0 e1 e2 h5 h6 hx htk hE hEb hm1;by_cases hd:x.dim.tmod 2=0
   ·have hd1:(x.dim.tmod 2 == 0)=true:=by simpa using hd
    have hs:sd x.dim=1:=if_pos hd;rw[hs] at HT;clear hd hs;go_wp2;go_roundw
    case measure=>simp[vI];omega
    case rel=>exact⟨j+1,qh (by omega),by omega,by rw[HT.out],hB⟩
   ·have hd1:(x.dim.tmod 2 == 0)=false:=by simpa using hd
    have hs:sd x.dim = -1:=if_neg hd;rw[hs] at HT;clear hd hs;go_wp2;go_roundw
    case measure=>simp[vI];omega
    case rel=>exact⟨j+1,qh (by omega),by omega,by rw[HT.out];rfl,hB⟩
  ·have hmt:M.take j=M:=List.take_of_length_le (by rw[<-HM.out.2.1];omega);rw[hmt];clear hmt;go_wp2;go_ret;exact⟨by rw[HM.out.1];rfl,HM.out.2.2.2.trans (hB.mono HM.out.2.2.2.size)⟩
end Go.Proofs.YtlhicnfeajejhaaGreatDoor
namespace Go.Cx
open Go.Proofs.YtlhicnfeajejhaaGreatDoor
theorem qsq (d:Nat):sd ((d+1:Nat):Int) = -sd (d:Int):=by
 unfold sd;rw[Int.tmod_eq_emod_of_nonneg (by omega),Int.tmod_eq_emod_of_nonneg (by omega)];split <;> split <;> omega
theorem qsu (d:Int):sd d=1\/sd d = -1:=by
 unfold sd;split
 ·exact .inl rfl
 ·exact .inr rfl
theorem qrs (n:Nat->Nat) (N:Nat) (h:∀ d,n d<=N):∀ d:Nat,-((d*N:Nat):Int)<=qml n d/\qml n d<=((d*N:Nat):Int)
 | 0=>⟨by simp[qml],by simp[qml]⟩
 | d+1=>by
  obtain⟨h1,h2⟩:=qrs n N h d;have h3:=h d;rw[Nat.add_mul,Nat.one_mul];show -((d*N+N:Nat):Int)<=qml n d+sd d*n d/\qml n d+sd d*n d<=_;rcases qsu d with e | e <;> rw[e] <;> omega
end Go.Cx
namespace Go.Proofs.YtlhicnfeajejhaaGreatDoor
open Go.RowKit Go.Cx
attribute [local go_sem ↓] Go.wp_at_zero Go.wp_at_succ
theorem qt6 (v:Value) (K:List Cl) (w:World) (h:(Mok.cx K).holds v w) (hK:KOk K) (hl:K.length<=180) (G:Cx.Good K):Calls Tryz.prog 70 #[v] w (Gvs (.val (.int .i64 (qh0 K))) w):=by
 obtain⟨x,l,rfl,h1,h2⟩:=h;have hc:=hK.cok h2;refine(qsp x l w h1 (by rw[<-h2,List.length_map] at hl;omega) (fun y hy=>Nat.le_trans (hc y hy).2.1 (by decide)) (by rw[h2];exact G)).mono ?_;rintro e w' ⟨rfl,hb⟩;rw[h2];exact⟨_,rfl,rfl,hb⟩
structure Twi (w W:World) (b:Nat) (x u:Value) (K:List Cl) (M:List (Int×Int)):Prop where
 bv:Bv W b x
 cx:(Mok.cx K).holds (.agg #[x]) W
 pr:(Mok.prs M).holds u W
 bl:Below w.heap.size w W
theorem Twi.q8 {w W V:World} {b:Nat} {x u:Value} {K:List Cl} {M:List (Int×Int)} (h:Twi w W b x u K M) (hb:Below W.heap.size W V):Twi w V b x u K M :=
 ⟨h.bv.q8 hb,Mok.q8 h.cx hb,Mok.q8 h.pr hb,h.bl.trans (hb.mono h.bl.size)⟩
theorem qrm (v0 v1:Value) (l ms:List Int) (w:World) (h0:Sl w 1 v0 (ints l)) (h1:Sl w 1 v1 (ints ms)) :
  Calls Tryz.prog 12 #[v0,v1] w fun e w'=>e = .returned (.bool true)/\Below w.heap.size w w':=by
 obtain⟨a0,k0,c0,rfl⟩:=qg h0;obtain⟨a1,k1,c1,rfl⟩:=qg h1;have hk1:ms.length=k1:=by
  obtain⟨_,_,h3,_⟩:=h1.open;rw[xl] at h3;omega
 obtain⟨hkc,hcm,_⟩:=h1.open;unfold maxLen at hcm;have H:=lhd (aiq h0 (aiq h1 hk1));clear h0 h1 hk1;go_enter Tryz.func12,Tryz.ntmps12;go_wp2_with fail;refine(qj7 _).mono ?_;rintro e w1 ⟨rfl,hb1⟩;have H1:=lhd hb1;clear hb1;go_wp2_with fail;refine(qai _ l _ (H.out.1.q8 H1.out)).mono ?_;rintro e w2 ⟨r,m,rfl,hm,hR,hb2⟩;obtain⟨ua,uc,hue⟩:=qj hR.1;subst hue;have hB2:Below w.heap.size w w2:=H1.out.trans (hb2.mono H1.out.size);obtain⟨K,hK⟩ : ∃ K,K=q25 l:=⟨_,rfl⟩
 have hok:=qht l;have hG:=qcx l;have hchk:=q8a l;have hdm:=qs5 l;have hbb:=qsn l;rw[<-hK] at hok hG hchk hm hdm hbb;have hml:m.length<=180:=by
  have:=congrArg List.length hm;rw[List.length_map] at this;have:=hok.2.2;omega
 have HC:=lhd (aiq hm (aiq hR.slc (aiq hB2 (aiq hok (aiq hG (aiq hchk hml))))));have HD:=lhd (aiq hdm hbb);clear hm hR hb2 hB2 hK hok hG hchk hml hdm hbb;go_upto_region 3 with fail;obtain⟨W0,hW0⟩ : ∃ W0,W0=w2.alloc (.cells #[.slice ua m.length uc] 26):=⟨_,rfl⟩
 obtain⟨q,hq⟩ : ∃ q,q=w2.heap.size:=⟨_,rfl⟩
 rw[<-hW0,<-hq];have hb0:Below w2.heap.size w2 W0:=by rw[hW0];exact(Below.refl _ w2).alloc (nlr _) _
 have bq:Bv W0 q (.slice ua m.length uc):=by rw[hW0,hq];exact Bv.new w2 _ _
 have cq:=bq.1;have hmK:∀ x∈m,x.cl∈K:=fun x hx=>by rw[<-HC.out.1];exact List.mem_map_of_mem hx
 have hms:∀ x∈m,x.s.length<=1099511627776:=fun x hx=>Nat.le_trans (HC.out.2.2.2.1.1 x.cl (hmK x hx)).2.1 (by decide)
 have hBW:Below w.heap.size w W0:=HC.out.2.2.1.trans (hb0.mono HC.out.2.2.1.size);obtain⟨n3,hn3⟩ : ∃ n3,n3=min k1 30:=⟨_,rfl⟩
 have hmin:min (k1:Int) 30=(n3:Int):=by rw[hn3];omega
 have hn3c:(n3:Int)<=c1:=by omega
 have hn30:n3<=30:=by omega
 have hsome:∀ U,Below W0.heap.size W0 U->Calls Tryz.prog 44 #[.agg #[.slice ua m.length uc],.slice a1 n3 c1] U fun e w'=>∃ r M,e = .returned r/\M.length<=30/\j8 K M=0/\w'.ownsRow U.heap.size 50 2 r M.length (pv M)/\Below U.heap.size U w':=fun U hU=>by
  have hs:Sl U 1 (.slice a1 n3 c1) (ints (ms.take n3)):=by
   have:=((H.out.2.1.q8 hBW).q8 hU).take (k:=n3) (by omega);rw[Nat.mul_one,<-q49] at this;exact this
  refine(qor _ _ m (ms.take n3) U ((HC.out.2.1.q8 hb0).q8 hU) (by have:=HC.out.2.2.2.2.2.2;omega) hms (by rw[HC.out.1];exact HC.out.2.2.2.2.1) (by rw[HC.out.1];exact HC.out.2.2.2.2.2.1) hs (by rw[List.length_take];omega)).mono ?_;rintro e w' ⟨r,M,rfl,h1,h2,h3,h4⟩;rw[HC.out.1] at h2;exact⟨r,M,rfl,by rw[List.length_take] at h1;omega,h2,h3,h4⟩
 have H0:=lhd (aiq hb0 (aiq bq (aiq hBW hsome)));have B8:Below W0.heap.size W0 W0.drew:=qb (Below.refl _ W0) 1;clear hW0 hq hb0 bq hmK hms hBW hn3 hsome
 go_region_held_law (fun U=>U.cell? ⟨q,0,none⟩=some (.slice ua m.length uc)) (first | exact Cx.q8 B8 cq | exact Cx.q8 B9 cq | fail)
  (first | (go_at_call 44;refine(H0.out.2.2.2 _ B8).mono ?_;rintro e w5 ⟨r5,M,rfl,hM30,hM0,hr5,hb5⟩;have B9:Below W0.heap.size W0 w5:=B8.trans (hb5.mono B8.size)))
 obtain⟨a5,c5,hre5⟩:=qj hr5;subst hre5;obtain⟨nM,hnM⟩ : ∃ nM,nM=M.length:=⟨_,rfl⟩
 have hs5:=Sl.qc hr5;rw[<-hnM] at hs5 ⊢;have hI:=qjt HC.out.2.2.2.2.1 HC.out.2.2.2.1.1 hM0;have hE:=qmj HC.out.2.2.2.2.1 HC.out.2.2.2.2.2.1 hM0;have C0:Hid (Twi w w5 q (.slice ua m.length uc) (.slice a5 nM c5) K M):=⟨H0.out.2.1.q8 B9,⟨_,m,rfl,(HC.out.2.1.q8 H0.out.1).q8 B9,HC.out.1⟩,hs5,H0.out.2.2.1.trans (B9.mono H0.out.2.2.1.size)⟩
 have HK:Hid (KOk K/\K.length<=180/\Cx.Good K/\chk K=(0,0)/\(∀ p∈M,I64 p.1/\I64 p.2)/\j8 K M=0/\opE K M=0):=⟨HC.out.2.2.2.1.1,HC.out.2.2.2.1.2.2,HC.out.2.2.2.2.1,HC.out.2.2.2.2.2.1,hI,hM0,hE⟩
 clear hr5 hs5 hI hM0 B9 B8 hb5 hnM hM30 cq hE;go_wp2_with fail;go_loopg [8,9,25] 6 (fun g s sg i wr=>∃ d:Nat,d+g=6/\i = .int .i64 d/\s = .int .i64 (qml (fun d=>(yt K M d).length) d)/\sg = .int .i64 (sd d)/\Hid (Twi w wr q (.slice ua m.length uc) (.slice a5 nM c5) K M))
 case atStart=>exact⟨0,rfl,rfl,rfl,rfl,C0.out⟩
 case round =>
  obtain⟨d,hdg,rfl,rfl,rfl,HE⟩:=hrel;cases gk with
  | zero =>
   have hd:d=6:=by omega
   subst hd;have b0:=HE.out.bv.1;have heul:qml (fun d=>(yt K M d).length) 6=qh0 K:=by
    obtain⟨hi,lo,hput,_⟩:=qnh HK.out.2.2.1 HK.out.2.2.2.1 HK.out.2.2.2.2.2.1 0;have h1:=qs4 HK.out.2.2.1 HD.out.1 hput;rw[<-h1];refine congrArg (fun f=>qml f 6) (funext fun d=>?_);obtain⟨hi',lo',hput',_,_,_,_,e,_⟩:=qnh HK.out.2.2.1 HK.out.2.2.2.1 HK.out.2.2.2.2.2.1 (d:Int);rw[hput] at hput';cases hput'
    rw[e]
   have HEU:=lhd heul;obtain⟨S,hS⟩ : ∃ S,S=qml (fun d=>(yt K M d).length) 6:=⟨_,rfl⟩
   rw[<-hS] at HEU ⊢;clear heul hS;go_wp2_with fail;refine(qt6 _ K wr HE.out.cx HK.out.1 HK.out.2.1 HK.out.2.2.1).mono ?_;rintro e w3 ⟨r3,rfl,hr3,hb3⟩;have hr3:r3 = .int .i64 (qh0 K):=hr3;subst hr3;rw[<-HEU.out];have HB3:=lhd hb3;clear hb3 b0;go_wp2_with fail;go_ret;exact⟨rfl,HE.out.bl.trans (HB3.out.mono HE.out.bl.size)⟩
  | succ g =>
   have hd6:d < 6:=by omega
   have b0:=HE.out.bv.1;have hw1:IntKind.i64.wrap ((d:Int)+1)=(d:Int)+1:=IntWalk.i64_in _ (by omega);obtain⟨r1,hr1⟩ : ∃ n,n=(yt K M ((d:Int) - 1)).length:=⟨_,rfl⟩
   obtain⟨r2,hr2⟩ : ∃ n,n=(yt K M (d:Int)).length:=⟨_,rfl⟩
   obtain⟨r3,hr3⟩ : ∃ n,n=(yt K M ((d:Int)+1)).length:=⟨_,rfl⟩
   obtain⟨LA,hLA⟩ : ∃ L,L=qd0 K M (d:Int):=⟨_,rfl⟩
   obtain⟨LB,hLB⟩ : ∃ L,L=qd0 K M ((d:Int)+1):=⟨_,rfl⟩
   have hA:∀ v u U,(Mok.cx K).holds v U->(Mok.prs M).holds u U->Calls Tryz.prog 54 #[v,u,.int .i64 d] U (Gvs (.mat r1 r2 LA) U):=fun v u U h k=>by
    rw[hr1,hr2,hLA];exact qqs v u K M U h HK.out.1 HK.out.2.1 k HK.out.2.2.2.2.1 HK.out.2.2.1 HK.out.2.2.2.2.2.2 d (by omega) (by omega)
   have hBn:∀ v u U,(Mok.cx K).holds v U->(Mok.prs M).holds u U->Calls Tryz.prog 54 #[v,u,.int .i64 ((d:Int)+1)] U (Gvs (.mat r2 r3 LB) U):=fun v u U h k=>by
    have:=qqs v u K M U h HK.out.1 HK.out.2.1 k HK.out.2.2.2.2.1 HK.out.2.2.1 HK.out.2.2.2.2.2.2 ((d:Int)+1) (by omega) (by omega);rw[show (d:Int)+1 - 1=d by omega] at this;rw[hr2,hr3,hLB];exact this
   have hc1:r1<=200:=by have:=kz9 HK.out.2.2.1 M ((d:Int) - 1);have:=HK.out.2.1;omega
   have hc2:r2<=180:=by have:=kz9 HK.out.2.2.1 M (d:Int);have:=HK.out.2.1;omega
   have hc3:r3<=200:=by have:=kz9 HK.out.2.2.1 M ((d:Int)+1);have:=HK.out.2.1;omega
   have hlA:LA.length=r1*r2:=by rw[hLA,hr1,hr2];exact qku _ _ _
   have hlB:LB.length=r2*r3:=by
    have:=qku K M ((d:Int)+1);rw[show (d:Int)+1 - 1=d by omega] at this;rw[hLB,hr2,hr3];exact this
   have hnA:∀ x∈LA,nb x<=200:=fun x hx=>Nat.le_trans (qrr HK.out.2.2.1 HK.out.2.2.2.1 HK.out.2.2.2.2.2.1 (by have:=HK.out.2.1;omega) d x (hLA ▸ hx)) (by have:=HK.out.2.1;omega)
   have hnB:∀ x∈LB,nb x<=200:=fun x hx=>Nat.le_trans (qrr HK.out.2.2.1 HK.out.2.2.2.1 HK.out.2.2.2.2.2.1 (by have:=HK.out.2.1;omega) ((d:Int)+1) x (hLB ▸ hx)) (by have:=HK.out.2.1;omega)
   have hz:(List.range (r1*r3)).map (fun t=>qgz LA LB r2 r3 (t / r3) (t % r3) r2)=(List.range (r1*r3)).map fun _=>0:=List.map_congr_left fun t ht=>by
    have ht:=List.mem_range.1 ht;have hr3p:0 < r3:=Nat.pos_of_ne_zero fun e=>by rw[e,Nat.mul_zero] at ht;omega
    have:=qrl HK.out.2.2.1 HK.out.2.2.2.1 HD.out.2 HK.out.2.2.2.2.2.1 (d:Int) (t / r3) (t % r3) (by rw[<-hr1];exact Nat.div_lt_of_lt_mul (by rw[Nat.mul_comm];exact ht)) (by rw[<-hr3];exact Nat.mod_lt _ hr3p);rw[<-hr2,<-hr3,<-hLA,<-hLB] at this;exact this
   have HR:=lhd (aiq hA (aiq hBn (aiq hlA (aiq hlB (aiq hnA (aiq hnB (aiq hz hr2)))))));clear hA hBn hlA hlB hnA hnB hz hr1 hr2 hr3 hLA hLB;go_upto_region 8 with fail
   go_cut [11,12] from 28 to 36 (fun x y wx=>∃ (p1 p2:Nat) (a2:Option Addr) (n2 k2:Nat) (a3:Option Addr) (n3 k3:Nat),x = .pointer (some ⟨p1,0,none⟩)/\y = .pointer (some ⟨p2,0,none⟩)/\Hid (qox wx p1 r1 r2 (.slice a2 n2 k2)/\qox wx p2 r2 r3 (.slice a3 n3 k3)/\Sl wx 2 (.slice a2 n2 k2) (wvs LA)/\Sl wx 2 (.slice a3 n3 k3) (wvs LB)/\Below wr.heap.size wr wx))
   case first =>
    rename_i J K2 hJ hK2;have hbv:=HE.out.bv;have hcx:=HE.out.cx;have hpr:=HE.out.pr;have hA:=HR.out.1;have hBn:=HR.out.2.1;refine qr5 rfl (fun i v w=>cond (i == 9 || i == 10) (BoxM wr.heap.size v w) ((([.cx K,.prs M,.val (.int .i64 d),.mat r1 r2 LA,.cx K,.prs M,.val (.int .i64 d),.val (.int .i64 ((d:Int)+1)),.mat r2 r3 LB] : List Mok).getD i .any).holds v w)) (fun i=>i == 9 || i == 10) 11 14 74 rfl (by kernel_rfl) (by kernel_rfl) (by kernel_rfl) ?hF ?step ?mid
    case hF =>
     intro i v w w' h hb;show cond (i == 9 || i == 10) _ _;cases hc:(i == 9 || i == 10) with
     | true=>rw[hc] at h;exact BoxM.q8 h hb
     | false=>rw[hc] at h;exact Mok.q8 h hb
    case step =>
     intro i o ho him a w' hw hd hbase hsz;have hnob:∀ {v:Value} {V:World} {w':World},(false=true->∃ p,v = .pointer (some ⟨p,0,none⟩)/\w'.heap.size<=p/\p < V.heap.size):=fun h=>by cases h
     match i,ho,hd with
     | 0,ho,hd =>
      obtain rfl:=osi ho;exact⟨rfl,Option.some_ne_none _,q8o _ _ rfl _ (hbase 6 (qab (by kernel_rfl))) _ (ldK (hbv.q8 hw)) ⟨_,rfl,Mok.q8 (k:=.cx K) hcx hw,Below.refl _ _,hnob⟩⟩
     | 1,ho,hd =>
      obtain rfl:=osi ho;exact⟨rfl,Option.some_ne_none _,q1b _ (.inl rfl) ⟨_,rfl,(by show ((.prs M:Mok)).holds (a.tmps.getD 7 undef) w';rw[hbase 7 (qab (by kernel_rfl))];exact Mok.q8 (k:=.prs M) hpr hw),Below.refl _ _,hnob⟩⟩
     | 2,ho,hd =>
      obtain rfl:=osi ho;exact⟨rfl,Option.some_ne_none _,q1b _ (.inl rfl) ⟨_,rfl,hbase 10 (qab (by kernel_rfl)),Below.refl _ _,hnob⟩⟩
     | 3,ho,hd =>
      obtain rfl:=osi ho;have f0:((.cx K:Mok)).holds (a.tmps.getD 28 undef) w':=hd 0 _ _ rfl rfl (by kernel_rfl);have f1:((.prs M:Mok)).holds (a.tmps.getD 29 undef) w':=hd 1 _ _ rfl rfl (by kernel_rfl);have f2:a.tmps.getD 30 undef = .int .i64 d:=hd 2 _ _ rfl rfl (by kernel_rfl);exact⟨rfl,Option.some_ne_none _,qdj _ _ _ rfl q1v9 #[a.tmps.getD 28 undef,a.tmps.getD 29 undef,.int .i64 d] (by rw[<-f2];simp[Act.eval]) ((hA _ _ _ f0 f1).mono fun _ _ ⟨r,he,hk,hb⟩=>⟨r,he,r,rfl,hk,hb,hnob⟩)⟩
     | 4,ho,hd =>
      obtain rfl:=osi ho;exact⟨rfl,Option.some_ne_none _,q8o _ _ rfl _ (hbase 6 (qab (by kernel_rfl))) _ (ldK (hbv.q8 hw)) ⟨_,rfl,Mok.q8 (k:=.cx K) hcx hw,Below.refl _ _,hnob⟩⟩
     | 5,ho,hd =>
      obtain rfl:=osi ho;exact⟨rfl,Option.some_ne_none _,q1b _ (.inl rfl) ⟨_,rfl,(by show ((.prs M:Mok)).holds (a.tmps.getD 7 undef) w';rw[hbase 7 (qab (by kernel_rfl))];exact Mok.q8 (k:=.prs M) hpr hw),Below.refl _ _,hnob⟩⟩
     | 6,ho,hd =>
      obtain rfl:=osi ho;exact⟨rfl,Option.some_ne_none _,q1b _ (.inl rfl) ⟨_,rfl,hbase 10 (qab (by kernel_rfl)),Below.refl _ _,hnob⟩⟩
     | 7,ho,hd =>
      obtain rfl:=osi ho;have f0:a.tmps.getD 34 undef = .int .i64 d:=hd 6 _ _ rfl rfl (by kernel_rfl);exact⟨rfl,Option.some_ne_none _,qnf _ _ _ _ _ rfl _ _ f0 rfl _ rfl (qko _ _ _ hw1) ⟨_,rfl,rfl,Below.refl _ _,hnob⟩⟩
     | 8,ho,hd =>
      obtain rfl:=osi ho;have f0:((.cx K:Mok)).holds (a.tmps.getD 32 undef) w':=hd 4 _ _ rfl rfl (by kernel_rfl);have f1:((.prs M:Mok)).holds (a.tmps.getD 33 undef) w':=hd 5 _ _ rfl rfl (by kernel_rfl);have f2:a.tmps.getD 35 undef = .int .i64 ((d:Int)+1):=hd 7 _ _ rfl rfl (by kernel_rfl);exact⟨rfl,Option.some_ne_none _,qdj _ _ _ rfl q1v9 #[a.tmps.getD 32 undef,a.tmps.getD 33 undef,.int .i64 ((d:Int)+1)] (by rw[<-f2];simp[Act.eval]) ((hBn _ _ _ f0 f1).mono fun _ _ ⟨r,he,hk,hb⟩=>⟨r,he,r,rfl,hk,hb,hnob⟩)⟩
     | 9,ho,hd =>
      obtain rfl:=osi ho;exact⟨rfl,Option.some_ne_none _,qrd _ rfl _ _ (qr0 _) ⟨_,rfl,qrf _ hw.size,(Below.refl _ _).alloc (nlr _) _,fun _=>⟨_,rfl,nlr _,by simp⟩⟩⟩
     | 10,ho,hd =>
      obtain rfl:=osi ho;exact⟨rfl,Option.some_ne_none _,qrd _ rfl _ _ (qr0 _) ⟨_,rfl,qrf _ hw.size,(Below.refl _ _).alloc (nlr _) _,fun _=>⟨_,rfl,nlr _,by simp⟩⟩⟩
     | i+11,ho,hd=>omega
    case mid =>
     intro a w' hsz hdf hf hbase hw hap;have f3:((.mat r1 r2 LA:Mok)).holds (a.tmps.getD 31 undef) w':=hf 3 _ _ rfl rfl (by decide);have f8:((.mat r2 r3 LB:Mok)).holds (a.tmps.getD 36 undef) w':=hf 8 _ _ rfl rfl (by decide);have f9:BoxM wr.heap.size (a.tmps.getD 11 undef) w':=hf 9 _ _ rfl rfl (by decide);have f10:BoxM wr.heap.size (a.tmps.getD 12 undef) w':=hf 10 _ _ rfl rfl (by decide);have hne:=hap 9 _ _ 10 _ _ rfl rfl rfl rfl (by decide) (by decide) rfl rfl (by decide);have hne:a.tmps.getD 11 undef≠a.tmps.getD 12 undef:=hne;obtain⟨xa,ea,sa⟩:=f3;obtain⟨xb,eb,sb⟩:=f8;obtain⟨a2,n2,k2,rfl⟩:=qg sa;obtain⟨a3,n3,k3,rfl⟩:=qg sb;have b9:=f9;have b10:=f10;obtain⟨p1,e1,l1,u1,_⟩:=f9;obtain⟨p2,e2,l2,u2,_⟩:=f10;rw[e1] at b9 hne;rw[e2] at b10 hne;have hpp:p1≠p2:=fun e=>hne (by rw[e])
     refine⟨fun k b U=>b=a/\Below wr.heap.size wr U/\(k=0->BoxM wr.heap.size (.pointer (some ⟨p1,0,none⟩)) U)/\(k<=1->BoxM wr.heap.size (.pointer (some ⟨p2,0,none⟩)) U)/\(1<=k->qox U p1 r1 r2 (.slice a2 n2 k2))/\(2<=k->qox U p2 r2 r3 (.slice a3 n3 k3))/\Sl U 2 (.slice a2 n2 k2) (wvs LA)/\Sl U 2 (.slice a3 n3 k3) (wvs LB),⟨rfl,hw,fun _=>b9,fun _=>b10,fun h=>by omega,fun h=>by omega,sa,sb⟩,?_,?_⟩
     ·rintro k o ho b U ⟨hba,t1,t2,t3,t4,t5,t6,t7⟩;rw[hba]
      match k,ho with
      | 0,ho =>
       obtain rfl:=osi ho;have hb1:=t2 rfl;exact⟨rfl,qhx _ _ _ rfl _ _ e1 ea (qr1 U p1 r1 r2 a2 n2 k2 hb1) ⟨rfl,qr2 t1 l1 _ _ _,fun h=>by omega,fun _=>(t3 (by omega)).set (fun e=>hpp e.symm) _ _ _,fun _=>qox.new hb1,fun h=>by omega,qqw hb1 t6 _ _ _,qqw hb1 t7 _ _ _⟩⟩
      | 1,ho =>
       obtain rfl:=osi ho;have hb2:=t3 (by omega);exact⟨rfl,qhx _ _ _ rfl _ _ e2 eb (qr1 U p2 r2 r3 a3 n3 k3 hb2) ⟨rfl,qr2 t1 l2 _ _ _,fun h=>by omega,fun h=>by omega,fun _=>(t4 (by omega)).set hpp _ _ _,fun _=>qox.new hb2,qqw hb2 t6 _ _ _,qqw hb2 t7 _ _ _⟩⟩
      | k+2,ho =>
       have:11+(k+2) < 13:=(Array.getElem?_eq_some_iff.1 ho).1;omega
     ·rintro b U ⟨hba,t1,t2,t3,t4,t5,t6,t7⟩;rw[hba];have t4:=t4 (by decide);have t5:=t5 (by decide);refine hK2 _ _ (Met.intro (hJ _ _ ⟨a.tmps.getD 11 undef,a.tmps.getD 12 undef,a.tmps.getD 28 undef,a.tmps.getD 29 undef,a.tmps.getD 30 undef,a.tmps.getD 31 undef,a.tmps.getD 32 undef,a.tmps.getD 33 undef,a.tmps.getD 34 undef,a.tmps.getD 35 undef,a.tmps.getD 36 undef,⟨p1,p2,a2,n2,k2,a3,n3,k3,e1,e2,lhd ⟨t4,t5,t6,t7,t1⟩⟩,(q8z hsz hdf fun s hs=>hbase s fun i o _=>hs i o).trans ?_⟩));kernel_rfl
   case rest =>
    obtain⟨p1,p2,a2,n2,k2,a3,n3,k3,rfl,rfl,HM⟩:=hcut;obtain⟨S,hS⟩ : ∃ S,S=qml (fun d=>(yt K M d).length) d:=⟨_,rfl⟩
    obtain⟨sg,hsg⟩ : ∃ sg,sg=sd (d:Int):=⟨_,rfl⟩
    rw[<-hS,<-hsg];have hsgo:sg=1\/sg = -1:=hsg ▸ qsu _;have hSb : -1080<=S/\S<=1080:=by
     have:=qrs (fun d=>(yt K M d).length) 180 (fun e=>by have:=kz9 HK.out.2.2.1 M (e:Int);have:=HK.out.2.1;omega) d;rw[<-hS] at this;omega
    have HS:=lhd (aiq hS hsg);clear hS hsg b0;have E8:=lhd (HE.out.q8 HM.out.2.2.2.2);have m0:=HM.out.1.1;have m1:=HM.out.1.2.1;have m2:=HM.out.1.2.2;have m3:=HM.out.2.1.1;have m4:=HM.out.2.1.2.1;have m5:=HM.out.2.1.2.2;go_wp2_with fail;refine(qt5 r1 r2 r3 200 _ _ LA LB wc HM.out.2.2.1 HM.out.2.2.2.1 HR.out.2.2.1 HR.out.2.2.2.1 hc1 (by omega) hc3 (by omega) HR.out.2.2.2.2.1 HR.out.2.2.2.2.2.1).mono ?_;rintro e w9 ⟨E,rfl,hE1,hE2,hEW,hb9⟩;obtain⟨N,hN⟩ : ∃ N,N=r1*r3:=⟨_,rfl⟩
    have hNb:N<=40000:=by rw[hN];exact Nat.le_trans (Nat.mul_le_mul hc1 hc3) (by decide)
    have hs9:Sl w9 2 (.slice (some ⟨E,0,none⟩) N N) (wvs ((List.range (r1*r3)).map fun _=>0)):=by
     have:=hEW.sl (by rw[<-hN];omega);rw[HR.out.2.2.2.2.2.2.1,<-hN] at this;rw[<-hN];exact this
    obtain⟨Z,hZ⟩ : ∃ Z,Z=(List.range (r1*r3)).map fun _=>(0:Int):=⟨_,rfl⟩
    rw[<-hZ] at hs9;have hZl:Z.length=r1*r3:=by rw[hZ,List.length_map,List.length_range]
    rw[<-hN];have H9:=lhd (aiq hs9 (aiq hb9 (aiq hZ hZl)));clear hEW hs9 hb9 hZ hZl hE1 hE2 hN hNb m0 m1 m2 m3 m4 m5;go_upto_region 10 with fail;obtain⟨V,hV⟩ : ∃ V,V=w9.alloc (.cells #[.int .i64 r1,.int .i64 r3,.slice (some ⟨E,0,none⟩) N N] 44):=⟨_,rfl⟩
    obtain⟨p3,hp3⟩ : ∃ p3,p3=w9.heap.size:=⟨_,rfl⟩
    have hB9V:Below w9.heap.size w9 V:=by rw[hV];exact(Below.refl _ _).alloc (nlr _) _
    have hBV:Below wc.heap.size wc V:=H9.out.2.1.trans (hB9V.mono H9.out.2.1.size);have hM3:qox V p3 r1 r3 (.slice (some ⟨E,0,none⟩) N N):=by
     rw[hV,hp3];exact⟨qd w9 _ _ (0,0) 0,qd w9 _ _ (0,0) 1,qd w9 _ _ (0,0) 2⟩
    have hM1:=HM.out.1.q8 hBV;have hM2:=HM.out.2.1.q8 hBV;have hz3:Sl V 2 (.slice (some ⟨E,0,none⟩) N N) (wvs Z):=H9.out.1.q8 hB9V;rw[<-hp3,<-hV];have HV:=lhd (aiq hM1 (aiq hM2 (aiq hM3 (aiq hz3 (aiq (E8.out.q8 hBV) (HM.out.2.2.2.2.trans (hBV.mono HM.out.2.2.2.2.size)))))));clear hV hp3 hB9V hBV hM3 hM1 hM2 hz3
    go_cut [54] from 43 to 53 (fun x wx=>x=Value.bool false/\Hid (Below V.heap.size V wx))
    case first =>
     rename_i J K2 hJ hK2;have hM1:=HV.out.1;have hM2:=HV.out.2.1;have hM3:=HV.out.2.2.1;have hz3:=HV.out.2.2.2.1;have hZ:=H9.out.2.2.1;have hZl:=H9.out.2.2.2;refine qg9 rfl (fun i v w=>(([.val (.bool true),.val (.bool false),.val (.bool false),.mat r1 r3 Z,.val (.pointer (some ⟨p1,0,none⟩)),.val (.int .i64 r1),.val (.pointer (some ⟨p2,1,none⟩)),.val (.int .i64 r3),.mat r1 r3 Z,.tt,.val (.bool false),.val (.bool false)] : List Mok).getD i .any).holds v w) 74 rfl (by kernel_rfl) (by kernel_rfl) (fun i v w w' h hb=>Mok.q8 h hb) ?step ?done
     case step =>
      intro i o ho a w' hw hd hbase hsz
      match i,ho,hd with
      | 0,ho,hd =>
       obtain rfl:=osi ho;exact⟨rfl,jf _ (.inl rfl) (hbase 14 (qu (by kernel_rfl)))⟩
      | 1,ho,hd =>
       obtain rfl:=osi ho;have f0:a.tmps.getD 43 undef = .bool true:=hd 0 _ _ rfl rfl (by kernel_rfl);exact⟨rfl,qro _ true rfl f0⟩
      | 2,ho,hd =>
       obtain rfl:=osi ho;have f0:a.tmps.getD 44 undef = .bool false:=hd 1 _ _ rfl rfl (by kernel_rfl);exact⟨rfl,jf _ (.inl rfl) f0⟩
      | 3,ho,hd =>
       obtain rfl:=osi ho;have fg:a.tmps.getD 45 undef = .bool false:=hd 2 _ _ rfl rfl (by kernel_rfl);exact⟨q7b 2 45 rfl rfl (by rw[hsz];decide) fg,zr _ _ rfl _ (hbase 13 (qu (by kernel_rfl))) _ (qrv _ _ _ _ _ _ _ (hM3.q8 hw)) ⟨_,rfl,hz3.q8 hw⟩⟩
      | 4,ho,hd =>
       obtain rfl:=osi ho;have fg:a.tmps.getD 45 undef = .bool false:=hd 2 _ _ rfl rfl (by kernel_rfl);exact⟨q7b 2 45 rfl rfl (by rw[hsz];decide) fg,q8b _ _ _ rfl _ (hbase 11 (qu (by kernel_rfl))) _ (qqu _ p1 0 (by omega)) ⟨_,rfl,rfl,Below.refl _ _⟩⟩
      | 5,ho,hd =>
       obtain rfl:=osi ho;have fg:a.tmps.getD 45 undef = .bool false:=hd 2 _ _ rfl rfl (by kernel_rfl);have f0:a.tmps.getD 47 undef = .pointer (some ⟨p1,0,none⟩):=hd 4 _ _ rfl rfl (by kernel_rfl);exact⟨q7b 2 45 rfl rfl (by rw[hsz];decide) fg,zr _ _ rfl _ f0 _ (qe0 _ _ _ (hM1.q8 hw).1) rfl⟩
      | 6,ho,hd =>
       obtain rfl:=osi ho;have fg:a.tmps.getD 45 undef = .bool false:=hd 2 _ _ rfl rfl (by kernel_rfl);exact⟨q7b 2 45 rfl rfl (by rw[hsz];decide) fg,q8b _ _ _ rfl _ (hbase 12 (qu (by kernel_rfl))) _ (qqu _ p2 1 (by omega)) ⟨_,rfl,rfl,Below.refl _ _⟩⟩
      | 7,ho,hd =>
       obtain rfl:=osi ho;have fg:a.tmps.getD 45 undef = .bool false:=hd 2 _ _ rfl rfl (by kernel_rfl);have f0:a.tmps.getD 49 undef = .pointer (some ⟨p2,1,none⟩):=hd 6 _ _ rfl rfl (by kernel_rfl);exact⟨q7b 2 45 rfl rfl (by rw[hsz];decide) fg,zr _ _ rfl _ f0 _ (qe0 _ _ _ (hM2.q8 hw).2.1) rfl⟩
      | 8,ho,hd =>
       obtain rfl:=osi ho;have fg:a.tmps.getD 45 undef = .bool false:=hd 2 _ _ rfl rfl (by kernel_rfl);have f0:a.tmps.getD 48 undef = .int .i64 r1:=hd 5 _ _ rfl rfl (by kernel_rfl);have f1:a.tmps.getD 50 undef = .int .i64 r3:=hd 7 _ _ rfl rfl (by kernel_rfl);have hk:=qt4 r1 r3 w' hc1 hc3;rw[<-hZ] at hk;exact⟨q7b 2 45 rfl rfl (by rw[hsz];decide) fg,xz _ _ _ rfl qr3 #[.int .i64 r1,.int .i64 r3] (by rw[<-f0,<-f1];simp[Act.eval]) hk⟩
      | 9,ho,hd =>
       obtain rfl:=osi ho;have fg:a.tmps.getD 45 undef = .bool false:=hd 2 _ _ rfl rfl (by kernel_rfl);have f0:((.mat r1 r3 Z:Mok)).holds (a.tmps.getD 46 undef) w':=hd 3 _ _ rfl rfl (by kernel_rfl);have f1:((.mat r1 r3 Z:Mok)).holds (a.tmps.getD 51 undef) w':=hd 8 _ _ rfl rfl (by kernel_rfl);exact⟨q7b 2 45 rfl rfl (by rw[hsz];decide) fg,xz _ _ _ rfl q9l #[a.tmps.getD 46 undef,a.tmps.getD 51 undef] (by simp[Act.eval]) (kEq _ _ _ _ _ _ f0 f1 hc1 hc3 hZl)⟩
      | 10,ho,hd =>
       obtain rfl:=osi ho;have fg:a.tmps.getD 45 undef = .bool false:=hd 2 _ _ rfl rfl (by kernel_rfl);have f0:a.tmps.getD 52 undef = .bool true:=hd 9 _ _ rfl rfl (by kernel_rfl);exact⟨q7b 2 45 rfl rfl (by rw[hsz];decide) fg,qro _ true rfl f0⟩
      | 11,ho,hd =>
       obtain rfl:=osi ho;have f0:a.tmps.getD 45 undef = .bool false:=hd 2 _ _ rfl rfl (by kernel_rfl);have f1:a.tmps.getD 53 undef = .bool false:=hd 10 _ _ rfl rfl (by kernel_rfl);exact⟨rfl,qru _ _ _ rfl f0 f1⟩
      | i+12,ho,hd =>
       have:i+12 < 12:=(Array.getElem?_eq_some_iff.1 ho).1;omega
     case done =>
      intro a w7 hsz hdf hf hbase hw;have ht:a.tmps.getD 54 undef = .bool false:=hf 11 _ _ rfl rfl;refine hK2 _ _ (Met.intro (hJ _ _ ⟨a.tmps.getD 43 undef,a.tmps.getD 44 undef,a.tmps.getD 45 undef,a.tmps.getD 46 undef,a.tmps.getD 47 undef,a.tmps.getD 48 undef,a.tmps.getD 49 undef,a.tmps.getD 50 undef,a.tmps.getD 51 undef,a.tmps.getD 52 undef,a.tmps.getD 53 undef,a.tmps.getD 54 undef,⟨ht,lhd hw⟩,(q8z hsz hdf hbase).trans ?_⟩));kernel_rfl
    case rest =>
     obtain⟨rfl,HB⟩:=hcut;have EV:=lhd (HV.out.2.2.2.2.1.q8 HB.out);have bv:=EV.out.bv.1;go_wp2_with fail;refine(qbf _ _ K M _ EV.out.cx HK.out.1 (by have:=HK.out.2.1;omega) EV.out.pr HK.out.2.2.2.2.1 d _ rfl).mono ?_;rintro e w12 ⟨r12,rfl,hr12,hb12⟩;obtain⟨a12,n12,c12,rfl⟩:=qg hr12;have hr12:Sl w12 1 (.slice a12 n12 c12) (ints (yt K M d)):=hr12;have hn12:(yt K M d).length=n12:=by
      obtain⟨_,_,h3,_⟩:=hr12.open;rw[xl] at h3;omega
     have hn12b:n12<=180:=by rw[<-hn12,<-HR.out.2.2.2.2.2.2.2];exact hc2
     have EX:=lhd (EV.out.q8 hb12);have HN12:=lhd hn12;have hwA:IntKind.i64.wrap (sg*(n12:Int))=sg*(n12:Int):=IntWalk.i64_in _ (by rcases hsgo with e | e <;> rw[e] <;> omega);have hwB:IntKind.i64.wrap (S+sg*(n12:Int))=S+sg*(n12:Int):=IntWalk.i64_in _ (by rcases hsgo with e | e <;> rw[e] <;> omega);have hwC:IntKind.i64.wrap (-sg) = -sg:=IntWalk.i64_in _ (by rcases hsgo with e | e <;> rw[e] <;> omega);clear hr12 hn12 hb12 bv hsgo hSb;go_wp2_with fail;go_roundg g
     case measure=>omega
     case rel =>
      refine⟨d+1,by omega,qh (by omega),?_,?_,EX.out⟩
      ·show Value.int .i64 _=Value.int .i64 (qml (fun d=>(yt K M d).length) d+sd (d:Int)*((yt K M d).length:Nat));rw[HN12.out,<-HS.out.1,<-HS.out.2]
      ·rw[qsq,<-HS.out.2]
end Go.Proofs.YtlhicnfeajejhaaGreatDoor
