/- Steps towards SequenceChecks. Conditions: none. -/
import Derived.Test.YtmkpbhaoalbhjaaGreatDoorXRh
set_option maxRecDepth 1000000
set_option maxHeartbeats 0
open Go.Value renaming slice→O,agg→I,pointer→σ,bool→τ,int→H,tuple→ψ
open Option renaming none→Z,some→Y
open Go renaming undef→V,World→δ,Value→ε
open Go.IntKind renaming i64→φ
open Go.Cx renaming keep→J
namespace Go.Cx
def SW (M:List (List Int))(a i k:Nat):List (List Int):=(M.set a (kt (zm M i) (zm M a) k)).set i (kt (zm M a) (zm M i) k)
theorem qoq (x:List Int)(k:Nat):kt x x k=x:=bC k x
theorem q23 {M:List (List Int)}{i:Nat}(h:i<M.length):M.set i (zm M i)=M:=by
 refine List.ext_getElem? fun j=>?_
 rw[List.getElem?_set];by_cases hj:i=j
 ·subst hj;rw[if_pos rfl,if_pos h,q1k h]
 ·rw[if_neg hj]
theorem qrk {M:List (List Int)}{a i:Nat}(ha:a<M.length)(hi:i<M.length):SW M a i 0=M:=by unfold SW;rw[q17,q17,q23 ha,q23 hi]
theorem qgi {M:List (List Int)}{a:Nat}(ha:a<M.length)(k:Nat):SW M a a k=M:=by unfold SW;rw[qoq,q23 ha,q23 ha]
theorem qrl {p:Int}{r m:Nat}{M:List (List Int)}(h:FM p r m M){a i:Nat}(ha:a<r)(hi:i<r):SW M a i m=q0f M a i:=by unfold SW q0f;rw[q26 (h.row hi).1 (h.row ha).1,q26 (h.row ha).1 (h.row hi).1]
theorem qor {p:Int}{r m:Nat}{M:List (List Int)}(h:FM p r m M){a i:Nat}(ha:a<r)(hi:i<r)(k:Nat):FM p r m (SW M a i k):=by obtain⟨a1,a2,_⟩:=h.row ha;obtain⟨b1,b2,_⟩:=h.row hi;exact(h.set a (by rw[q1p (by omega)];exact a1) (q6d b2 a2 k)).set i (by rw[q1p (by omega)];exact b1) (q6d a2 b2 k)
theorem ql6 {p:Int}{r m:Nat}{M:List (List Int)}(h:FM p r m M){a i:Nat}(ha:a<r)(hi:i<r)(k:Nat):zm (SW M a i k) i=kt (zm M a) (zm M i) k/\(a≠i->zm (SW M a i k) a=kt (zm M i) (zm M a) k):=by unfold SW;refine⟨yl (by rw[List.length_set,h.len];exact hi),fun ah=>?_⟩;rw[q11 (Ne.symm ah),yl (by rw[h.len];exact ha)]
theorem qtf {p:Int}{r m:Nat}{M:List (List Int)}(h:FM p r m M){a i k:Nat}(ha:a<r)(hi:i<r)(hk:k<m):((SW M a i k).flatten.set (a*m+k) (j6 (zm M i) k)).set (i*m+k) (j6 (zm M a) k)=(SW M a i (k+1)).flatten:=by
 have hF:=qor h ha hi k;obtain⟨ir,cE⟩:=ql6 h ha hi k;have la:=(h.row ha).1;have li:=(h.row hi).1;by_cases jO:a=i
 ·subst jO;rw[qgi (by rw[h.len];exact ha),qgi (by rw[h.len];exact ha)];have e:=q1k (M:=M) (i:=a) (by rw[h.len];exact ha);rw[q1r _ h.wid (by rw[h.len];exact ha) hk];have e2:(zm M a).set k (j6 (zm M a) k)=zm M a:=by
   refine List.ext_getElem? fun j=>?_
   rw[List.getElem?_set];by_cases hj:k=j
   ·subst hj;rw[if_pos rfl,if_pos (by omega),q09 (by omega)]
   ·rw[if_neg hj]
  rw[e2,q23 (by rw[h.len];exact ha),q1r _ h.wid (by rw[h.len];exact ha) hk,e2,q23 (by rw[h.len];exact ha)]
 ·rw[q1r _ hF.wid (by rw[hF.len];exact ha) hk,cE jO,q2t (by omega) (by omega)];have mM:=hF.set a (x:=kt (zm M i) (zm M a) (k+1)) (by rw[q1p (by omega)];exact la) (q6d (h.row hi).2.1 (h.row ha).2.1 _);rw[q1r _ mM.wid (by rw[mM.len];exact hi) hk,q11 jO,ir,q2t (by omega) (by omega)]
  congr 1
  unfold SW;refine List.ext_getElem? fun j=>?_
  simp only [List.getElem?_set,List.length_set];by_cases h1:i=j
  ·subst h1;simp
  ·by_cases h2:a=j
   ·subst h2;simp[h1]
   ·simp[h1,h2]
theorem qus {p:Int}{r m:Nat}{M:List (List Int)}(h:FM p r m M){a i k:Nat}(ha:a<r)(hi:i<r)(hk:k<m):(SW M a i k).flatten[a*m+k]? =Y (j6 (zm M a) k)/\(SW M a i k).flatten[i*m+k]? =Y (j6 (zm M i) k):=by
 have hF:=qor h ha hi k;obtain⟨ir,cE⟩:=ql6 h ha hi k;have la:=(h.row ha).1;have li:=(h.row hi).1;refine⟨?_,?_⟩
 ·rw[flat_get hF.wid (by rw[hF.len];exact ha) hk];by_cases jO:a=i
  ·subst jO;rw[qgi (by rw[h.len];exact ha)]
  ·rw[cE jO,q3h (by omega) (by omega)]
 ·rw[flat_get hF.wid (by rw[hF.len];exact hi) hk,ir,q3h (by omega) (by omega)]
def stE (l:List Int)(o:Nat)(f:Nat->Int):Nat->List Int
 |0=>l
 |k+1=>(stE l o f k).set (o+k) (f k)
theorem ql7 (l:List Int)(o:Nat)(f:Nat->Int):∀k,(stE l o f k).length=l.length
 |0=>rfl
 |k+1=>by show ((stE l o f k).set _ _).length=_;rw[List.length_set,ql7 l o f k]
theorem qjj (l:List Int)(o:Nat)(f:Nat->Int):∀k j,(∀t,t<k->j≠o+t)->(stE l o f k)[j]? =l[j]?
 |0,_,_=>rfl
 |k+1,j,h=>by show ((stE l o f k).set _ _)[j]? =_;rw[List.getElem?_set,if_neg (fun e=>h k (Nat.lt_succ_self k) e.symm),qjj l o f k j fun t ht=>h t (by omega)]
theorem qgj {m:Nat}{M:List (List Int)}(hw:∀x∈M,x.length=m){i:Nat}(hi:i<M.length){new:List Int}(hn:new.length=m):∀k,k<=m->stE M.flatten (i*m) (fun k=>j6 new k) k=(M.set i (kt new (zm M i) k)).flatten
 |0,_=>by rw[q17,q23 hi];rfl
 |k+1,hk=>by
  have hl:(zm M i).length=m:=hw _ (gi (q1k hi));show (stE M.flatten (i*m) _ k).set (i*m+k) (j6 new k)=_;rw[qgj hw hi hn k (by omega)];have iQ:∀x∈M.set i (kt new (zm M i) k),x.length=m:=fun x hx=>by
   rcases List.mem_or_eq_of_mem_set hx with hx|rfl
   ·exact hw x hx
   ·rw[q1p (by omega)];exact hl
  rw[q1r _ iQ (by rw[List.length_set];exact hi) (by omega),yl hi,q2t (by omega) (by omega),List.set_set]
structure Bk (E:Nat)(w w':δ):Prop where
 os:w'.os=w.os
 tape:w'.tape=w.tape
 output:w'.output=w.output
 size:w.heap.size<=w'
 block:∀k,k<w.heap.size->k≠E->w'.heap[k]? =w.heap[k]?
theorem Bk.refl (E:Nat)(w:δ):Bk E w w:=⟨rfl,rfl,rfl,nlr _,fun _ _ _=>rfl⟩
theorem Bk.trans {E:Nat}{a b c:δ}(h:Bk E a b)(k:Bk E b c):Bk E a c :=
 ⟨k.os.trans h.os,k.tape.trans h.tape,k.output.trans h.output,gd h.size k.size,fun i hi ah=>(k.block i (gz hi h.size) ah).trans (h.block i hi ah)⟩
theorem Bk.of {E:Nat}{w w':δ}(h:Go.RowKit.Below w.heap.size w w'):Bk E w w':=⟨h.os,h.tape,h.output,h.size,fun k hk _=>h.block k hk⟩
theorem Bk.below {E:Nat}{a w w':δ}(h:Bk E a w)(hb:Go.RowKit.Below w.heap.size w w'):Bk E a w':=h.trans (Bk.of hb)
theorem Bk.set {E:Nat}{a w:δ}(h:Bk E a w)(k:Nat)(u:ε):Bk E a (w.setCell ⟨E,k,Z⟩ u) :=
 h.trans ⟨rfl,rfl,rfl,by simp[World.setCell],fun i _ ah=>Go.RowKit.Below.heap_setCell _ _ _ _ (by exact ah)⟩
theorem Bk.cell {E:Nat}{w w':δ}(h:Bk E w w'){p:Addr}{u:ε}(hp:p.block≠E)(hu:w.cell? p=Y u):w'.cell? p=Y u :=
 (World.cell?_of_block (w:=w) (h.block p.block (World.block_lt_of_cell? w p hu) hp)).trans hu
theorem Bk.q5d {E:Nat}{w w':δ}(h:Bk E w w'){p:Addr}(hp:p.block≠E)(hl:p.block<w.heap.size)(hf:w.frozen? p=false):w'.frozen? p=false :=
 (World.frozen?_of_block (w:=w) (h.block p.block hl hp)).trans hf
theorem Bk.lower {E b:Nat}{a w w':δ}(h:Bk E w w')(hb:Go.RowKit.Below b a w)(hE:b<=E)(hw:b<=w.heap.size):Go.RowKit.Below b a w' :=
 hb.trans ⟨h.os,h.tape,h.output,h.size,fun k hk=>h.block k (by omega) (by omega)⟩
end Go.Cx
namespace Go.Proofs.YtmkpbhaoalbhjaaGreatDoor
open Go.RowKit Go.Cx
attribute [local go_sem ↓] Go.wp_at_zero Go.wp_at_succ
theorem IL.bk {w w':δ}{E F:Nat}{l:List Int}(h:IL w E l)(hb:Bk F w w')(D7:E≠F):IL w' E l:=fun i n hi =>⟨hb.cell D7 (h i n hi).1,hb.q5d D7 (World.block_lt_of_cell? w _ (h i n hi).1) (h i n hi).2⟩
theorem qie (R E N c r m i:Nat)(w:δ)(h2:w ⟨R,2,Z⟩=m)(h3:w ⟨R,3,Z⟩=O E N c)(hN:N=r*m)(uG:N<=c)(hi:i<r)(iG:0<m)(hr:r<=400)(hm:m<=800) :
  Calls Tryz.prog 99 #[σ R,i] w fun e w'=>e=.returned (O (Y ⟨E,i*m,Z⟩) m (c-i*m))/\Below w w w':=by
 have rK:IntKind.i64.wrap ((i:Int)*(m:Int))=((i*m:Nat):Int):=kd (by omega) (by omega);have pj:IntKind.i64.wrap ((i:Int)+1)=((i+1:Nat):Int):=IntWalk.i64_in _ (by omega);have qF:IntKind.i64.wrap (((i+1:Nat):Int)*(m:Int))=(((i+1)*m:Nat):Int):=kd (by omega) (by omega);have hle:(i+1)*m<=N:=by rw[hN];exact gI m hi
 have ak:i*m<(i+1)*m:=by rw[Nat.add_mul,Nat.one_mul];omega
 have hcut:∀W,(Instr.sliceAt 23 (O E N c) (Y ((i*m:Nat):Int)) (Y (((i+1)*m:Nat):Int)) Z).run Tryz.prog W=.ok (O (Y ⟨E,i*m,Z⟩) m (c-i*m)) W:=fun W=>by
  have g0:(0:Int)<=((i*m:Nat):Int):=by omega
  have g1:((i*m:Nat):Int)<=(((i+1)*m:Nat):Int):=by omega
  have g2:(((i+1)*m:Nat):Int)<=(c:Int):=by omega
  have e1:(i+1)*m-i*m=m:=succ_sub i m;have e2:¬c=i*m:=by omega
  obtain⟨x,hx⟩:=x4 (i*m);obtain⟨y,hy⟩:=x4 ((i+1)*m);rw[<-hx,<-hy]at g1 e1;rw[<-hx]at g0 e2 ⊢;rw[<-hy]at g2 ⊢;simp[go_sem,sliced,Tryz.underlying23,g0,g1,g2,e1,e2]
 obtain⟨x,hx⟩:=x4 (i*m);obtain⟨y,hy⟩:=x4 ((i+1)*m);obtain⟨i1,eu⟩:=x4 (i+1);rw[<-hx]at rK;rw[<-eu]at pj;rw[<-hy,<-eu]at qF;rw[<-hx,<-hy]at hcut;rw[<-hx];clear hx hy eu hle ak hN;go_enter Tryz.func99,Tryz.ntmps99;go_wp2_with fail
 go_quiet (fail)
 go_wp2;go_ret;exact⟨rfl,qb q9 _⟩
theorem qtg (u:ε)(t p k n:Int)(w:δ)(ht:0<=t/\t<p)(hn:0<=n/\n<p)(hp:p<=997) :
  Calls Tryz.prog 103 #[I #[u,t,p],k,n] w fun e w'=>e=.returned (n*t%p:Int)/\Below w w w':=by
 obtain⟨w1,_,h0,_⟩:=q41 hp hn hn ht;have hQ:(n*t).tmod p=n*t%p:=q4g h0;have cp:¬(p=0):=by omega
 have ng:(p == 0)=false:=by simpa using cp
 obtain⟨q,hq⟩:=x4 (n*t);rw[<-hq]at hQ
 replace w1:IntKind.i64.wrap (n*t)=q:=by rw[hq];exact w1
 have HQ:=lhd hq;clear hq h0;go_enter Tryz.func103,Tryz.ntmps103;go_wp2;go_ret;exact⟨by rw[<-HQ.out];rfl,(q9).alloc (nlr _) _⟩
theorem qut (E o m c:Nat)(t p x n:Int)(k:Nat)(w:δ)(hk:k<m)(hx:w ⟨E,o+k,Z⟩=x)(nu:0<=x/\x<p)(ht:0<=t/\t<p)(hn:0<=n/\n<p)(hp:p<=997) :
  Calls Tryz.prog 104 #[I #[O (Y ⟨E,o,Z⟩) m c,t,p],k,n] w fun e w'=>e=.returned ((n+x*t)%p:Int)/\Below w w w':=by
 obtain⟨w1,w2,h0,h1⟩:=q41 hp hn nu ht;have hQ:(n+x*t).tmod p=(n+x*t)%p:=q4g (by omega);have cp:¬(p=0):=by omega
 have ng:(p == 0)=false:=by simpa using cp
 have cV:(k:Int)<m:=by omega
 obtain⟨q,hq⟩:=x4 (x*t);rw[<-hq]at hQ w2
 replace w1:IntKind.i64.wrap (x*t)=q:=by rw[hq];exact w1
 have HQ:=lhd hq;have rU:∀o',(w.alloc o') ⟨E,o+k,Z⟩=x:=fun o'=>qk hx o'
 clear hq h0 h1;go_enter Tryz.func104,Tryz.ntmps104;go_wp2_with fail
 go_quiet (fail)
 go_wp2;go_ret;exact⟨by rw[<-HQ.out];rfl,qb ((q9).alloc (nlr _) _) _⟩
theorem quu (R E N c r m a i:Nat)(p:Int)(M:List (List Int))(w:δ)(h2:w ⟨R,2,Z⟩=m)(h3:w ⟨R,3,Z⟩=O E N c)(hN:N=r*m)(uG:N<=c)(zP:R≠E)(hM:FM p r m M)(hI:IL w E M.flatten)(ha:a<r)(hi:i<r)(iG:0<m)(hr:r<=400)(hm:m<=800)(jQ:E<w) :
  Calls Tryz.prog 100 #[σ (Y ⟨R,0,Z⟩),H φ a,H φ i] w fun e w'=>e=.returned (ψ #[])/\IL w' E (q0f M a i).flatten/\Bk E w w':=by
 have HH:=yt hM hI hN zP;clear hM hI;go_enter Tryz.func100,Tryz.ntmps100;go_wp2_with fail;refine(qie R E N c r m a w h2 h3 hN uG ha iG hr hm).mono ?_;rintro e w1 ⟨rfl,ae⟩
 replace h2:=J ae h2
 replace h3:=J ae h3
 have cX:=lhd ae;clear ae;go_wp2_with fail;refine(qie R E N c r m i w1 h2 h3 hN uG hi iG hr hm).mono ?_;rintro e w2 ⟨rfl,aj⟩;have aR:=lhd ((btr cX.out aj));have l8:IL w2 E M.flatten:=HH.a1.keep aR.out jQ;have HI:=lhd l8;obtain⟨am,nR⟩:=x4 (a*m);obtain⟨im,aD⟩:=x4 (i*m);rw[<-nR,<-aD];have HA:=jg nR aD;clear aj l8 h2 h3 nR aD hN uG;go_wp2_with fail;go_loopw [17] (fun x wr=>∃k:Nat,x=H φ k/\k<=m/\Hid (IL wr E (SW M a i k).flatten)/\Hid (Bk E w2 wr)) (fun x _=>m-(vI x).toNat)
 case atStart =>refine⟨0,rfl,gm _,(show Hid _ from ?_),(lhd (Bk.refl _ _))⟩;rw[qrk (by rw[HH.out.1.len];exact ha) (by rw[HH.out.1.len];exact hi)];exact HI.out
 case round =>
  obtain⟨k,rfl,hk,HE,HK⟩:=hrel;by_cases cd:k<m
  ·have cV:(k:Int)<m:=by omega
   obtain⟨g1,g2⟩:=qus HH.out.1 ha hi cd;obtain⟨x,hx⟩:=x4 (j6 (zm M a) k);obtain⟨y,hy⟩:=x4 (j6 (zm M i) k);rw[<-hx]at g1;rw[<-hy]at g2;obtain⟨c1,z1⟩:=HE.out _ _ g1;obtain⟨c2,z2⟩:=HE.out _ _ g2;rw[<-HA.out.1]at c1 z1;rw[<-HA.out.2]at c2 z2;have HX:=yt hx hy g1 g2;clear hx hy g1 g2;go_wp2_with fail;refine qp4 fun KO cD=>?_
   go_cut [20]from 21 to 33 (fun _ wx=>wx=(wr.drew.setCell ⟨E,am+k,Z⟩ y).setCell ⟨E,im+k,Z⟩ x)
   case first =>
    rename_i At K2 hJ aQ;refine yg (by kernel_rfl) (VF [Y (O (Y ⟨E,am,Z⟩) m (c-am)),Y (k:Int),Y (O (Y ⟨E,im,Z⟩) m (c-im)),Y (k:Int),Y (O (Y ⟨E,im,Z⟩) m (c-im)),Y (k:Int),Y (σ (Y ⟨E,im+k,Z⟩)),Y y,Y (O (Y ⟨E,am,Z⟩) m (c-am)),Y (k:Int),Y (σ (Y ⟨E,am+k,Z⟩)),Y x,Y (σ (Y ⟨E,am+k,Z⟩)),Z,Y (σ (Y ⟨E,im+k,Z⟩)),Z]) [13] (fun vs w2=>match vs with|[]=>w2=wr.drew|[_]=>w2=wr.drew.setCell ⟨E,am+k,Z⟩ y|_=>False) 15 20 35 rfl (by kernel_rfl) (by kernel_rfl) (by decide) (by kernel_rfl) (by kernel_rfl) (by kernel_rfl) (by decide) (by decide) (fun a w2=>K2 a w2) ?start ?pure ?eff ?last ?done
    case start=>exact rfl
    case pure =>
     intro i o ho hL hE a w' vs hT ai hd ab hsz
     match i,ho,hL,hE,ai,hd with
     |0,rfl,hL,hE,ai,hd =>exact jo (.inl rfl) ⟨_,rfl,fun _ h=>(zr qu ab 6).trans (osi h),rfl⟩
     |1,rfl,hL,hE,ai,hd =>exact jo (.inl rfl) ⟨_,rfl,fun _ h=>(zr qu ab 8).trans (osi h),rfl⟩
     |2,rfl,hL,hE,ai,hd =>exact jo (.inl rfl) ⟨_,rfl,fun _ h=>(zr qu ab 7).trans (osi h),rfl⟩
     |3,rfl,hL,hE,ai,hd =>exact jo (.inl rfl) ⟨_,rfl,fun _ h=>(zr qu ab 8).trans (osi h),rfl⟩
     |4,rfl,hL,hE,ai,hd =>exact jo (.inl rfl) ⟨_,rfl,fun _ h=>(zr qu ab 7).trans (osi h),rfl⟩
     |5,rfl,hL,hE,ai,hd =>exact jo (.inl rfl) ⟨_,rfl,fun _ h=>(zr qu ab 8).trans (osi h),rfl⟩
     |6,rfl,hL,hE,ai,hd =>exact q4r rfl (j8 hd 4) (j8 hd 5) (q3o _ _ _ _ _ _ cd) (gone rfl)
     |7,rfl,hL,hE,ai,hd =>
      have hv:=ai 0 13 rfl (by kernel_rfl);obtain rfl:=gl (Nat.le_zero.1 hv);have SB:w' ⟨E,im+k,Z⟩=y:=by rw[show w'=wr.drew from hT];exact c2
      exact jm rfl (j8 hd 6) (qe0 _ _ _ (SB)) (gone rfl)
     |8,rfl,hL,hE,ai,hd =>exact jo (.inl rfl) ⟨_,rfl,fun _ h=>(zr qu ab 6).trans (osi h),rfl⟩
     |9,rfl,hL,hE,ai,hd =>exact jo (.inl rfl) ⟨_,rfl,fun _ h=>(zr qu ab 8).trans (osi h),rfl⟩
     |10,rfl,hL,hE,ai,hd =>exact q4r rfl (j8 hd 8) (j8 hd 9) (q3o _ _ _ _ _ _ cd) (gone rfl)
     |11,rfl,hL,hE,ai,hd =>
      have hv:=ai 0 13 rfl (by kernel_rfl);obtain rfl:=gl (Nat.le_zero.1 hv);have SC:w' ⟨E,am+k,Z⟩=x:=by rw[show w'=wr.drew from hT];exact c1
      exact jm rfl (j8 hd 10) (qe0 _ _ _ (SC)) (gone rfl)
     |12,rfl,hL,hE,ai,hd =>exact q4r rfl (j8 hd 0) (j8 hd 1) (q3o _ _ _ _ _ _ cd) (gone rfl)
     |13,ho,hL,hE,ai,hd =>exact absurd (by decide) hE
     |14,rfl,hL,hE,ai,hd =>exact q4r rfl (j8 hd 2) (j8 hd 3) (q3o _ _ _ _ _ _ cd) (gone rfl)
     |15,ho,hL,hE,ai,hd =>exact absurd rfl hL
     |i+16,ho,hL,hE,ai,hd =>have:i+16<16:=(gh.1 ho).1;omega
    case eff =>
     intro s i o hs ho a w' vs hl hT hd hr ab hsz
     match s,hs,hr,hl with
     |0,hs,hr,hl =>obtain rfl:=osi hs;obtain rfl:=osi ho;obtain rfl:=gl hl;obtain rfl:w'=wr.drew:=hT;have g0:a 32 V=σ (Y ⟨E,am+k,Z⟩):=j8 hd 12;have g1:a 27 V=y:=j8 hd 7;exact⟨rfl,ju _ _ _ rfl _ _ g0 g1 (q6j _ _ _ _ c1 z1) ⟨V,rfl,rfl⟩⟩
     |s+1,hs,hr,hl=>cases hs
    case last =>intro o ho a w' vs hsz aO hl hT hf hr ab;obtain rfl:=osi ho;obtain⟨v1,rfl⟩:=List.length_eq_one_iff.1 hl;obtain rfl:w'=wr.drew.setCell ⟨E,am+k,Z⟩ y:=hT;have g0:a 33 V=σ (Y ⟨E,im+k,Z⟩):=hf 14 _ _ rfl rfl (by kernel_rfl) (by decide) _ rfl;have g1:a 31 V=x:=hf 11 _ _ rfl rfl (by kernel_rfl) (by decide) _ rfl;obtain⟨u,hu⟩:=qmn (w:=wr.drew) (u:=y) c2 c1;refine⟨rfl,ju _ _ _ rfl _ _ g0 g1 (q6j _ _ _ _ hu (by simpa [World.frozen?_setCell]using z2)) ?_⟩;refine aQ _ _ (Met.intro (hJ _ _ ⟨a 20 V,a 21 V,a 22 V,a 23 V,a 24 V,a 25 V,a 26 V,a 27 V,a 28 V,a 29 V,a 30 V,a 31 V,a 32 V,a 33 V,rfl,(q8z hsz aO ab).trans ?_⟩));kernel_rfl
    case done=>exact fun _ _ h=>h
   case rest =>
    subst hcut;refine cD _ _ ?_;go_wp2;go_roundw
    case measure=>simp[vI];omega
    case rel =>
     have hM:=HH.out.1;have hl:∀j,j<r->j*m+k<(SW M a i k).flatten.length:=fun j hj=>by rw[(qor hM ha hi k).q1d];exact q2x hj cd
     refine⟨k+1,qh (by omega),by omega,(show Hid _ from ?_),(lhd (((HK.out.below (qb (Below.refl _ wr) 1)).set _ _).set _ _))⟩;have h5:=(show IL wr.drew E (SW M a i k).flatten from HE.out).put (k:=a*m+k) (hl a ha) y;have h6:=h5.put (k:=i*m+k) (by rw[List.length_set];exact hl i hi) x;rw[HX.out.1,HX.a1,qtf hM ha hi cd,<-HA.out.1,<-HA.out.2]at h6;rw[HX.out.1,HX.a1];exact h6
  ·have aM:k=m:=by omega
   have hM:=HH.out.1;have HF:Hid (IL wr E (q0f M a i).flatten):=(lhd (by rw[<-qrl hM ha hi,<-aM];exact HE.out))
   clear aM hM;go_wp2
   go_end0
   exact⟨rfl,HF.out,(Bk.of aR.out).trans HK.out⟩
structure RD (w:δ)(R:Nat)(sv:ε)(p:Int)(r m:Nat):Prop where
 c0:w R=p
 c1:w ⟨R,1,Z⟩=r
 c2:w ⟨R,2,Z⟩=m
 c3:w ⟨R,3,Z⟩=Y sv
 ov:∀n,n<998->∃x:Int,w ⟨R,4+n,Z⟩=x/\w.frozen? ⟨R,4+n,Z⟩=false/\(x=0\/x=(ovN p.toNat n:Int))
theorem RD.keep {w w':δ}{R:Nat}{sv:ε}{p:Int}{r m:Nat}(h:RD w R sv p r m)(hb:Below w w w'):RD w' R sv p r m :=
 ⟨J hb h.c0,J hb h.c1,J hb h.c2,J hb h.c3,fun n hn=>by obtain⟨x,h1,h2,h3⟩:=h.ov n hn;exact⟨x,J hb h1,xf hb (World.block_lt_of_cell? w _ h1) h2,h3⟩⟩
theorem RD.bk {w w':δ}{R F:Nat}{sv:ε}{p:Int}{r m:Nat}(h:RD w R sv p r m)(hb:Bk F w w')(ah:R≠F):RD w' R sv p r m :=
 ⟨hb.cell ah h.c0,hb.cell ah h.c1,hb.cell ah h.c2,hb.cell ah h.c3,fun n hn=>by obtain⟨x,h1,h2,h3⟩:=h.ov n hn;exact⟨x,hb.cell ah h1,hb.q5d ah (World.block_lt_of_cell? w _ h1) h2,h3⟩⟩
theorem RD.put {w:δ}{R:Nat}{sv:ε}{p:Int}{r m:Nat}(h:RD w R sv p r m){n:Nat}(hn:n<998):RD (w.setCell ⟨R,4+n,Z⟩ (ovN p.toNat n:Int)) R sv p r m :=
 ⟨x8 h.c0 (by simp),x8 h.c1 (by simp),x8 h.c2 (by simp <;> omega),x8 h.c3 (by simp <;> omega),fun k hk=>by
  obtain⟨x,h1,h2,h3⟩:=h.ov k hk;obtain⟨y,g1,g2,_⟩:=h.ov n hn;by_cases dy:k=n
  ·subst dy;exact⟨_,World.cell?_setCell_same' _ _ _ (by rw[g1];rfl),by rw[World.frozen?_setCell];exact g2,.inr rfl⟩
  ·exact⟨x,x8 h1 (by simp <;> omega),by rw[World.frozen?_setCell];exact h2,h3⟩⟩
theorem qsx (E o m c g:Nat)(pb:ε)(l:List Int)(f:Nat->Int)(w:δ)(hI:IL w E l)(hl:o+m<=l.length)(hm:m<=800)
  (eg:∀args w,(callFunc g args).run Tryz.prog w=.ok (.enter g args) w)
  (hf:∀k W n,k<m->l[o+k]? =Y n->Bk E w W->IL W E (stE l o f k)->Calls Tryz.prog g #[pb,H φ k,H φ n] W fun e w'=>e=.returned (H φ (f k))/\Below W.heap.size W w') :
  Calls Tryz.prog 101 #[O (Y ⟨E,o,Z⟩) m c,.func (.func g) #[pb] #[]] w fun e w'=>e=.returned (ψ #[])/\IL w' E (stE l o f m)/\Bk E w w':=by
 have HF:=lhd hf;have HL:=lhd hl;have HI:=lhd hI;clear hf hl hI;go_enter Tryz.func101,Tryz.ntmps101;go_wp2;go_loopw [8] (fun x wr=>∃k:Nat,x=H φ k/\k<=m/\Hid (IL wr E (stE l o f k))/\Hid (Bk E w wr)) (fun x _=>m-(vI x).toNat)
 case atStart=>exact⟨0,rfl,gm _,(lhd HI.out),(lhd (Bk.refl _ _))⟩
 case round =>
  obtain⟨k,rfl,hk,HE,HK⟩:=hrel;by_cases cd:k<m
  ·have cV:(k:Int)<m:=by omega
   obtain⟨n,hn⟩:∃n,l[o+k]? =Y n:=⟨_,gg (by have:=HL.out;omega)⟩
   have bZ:(stE l o f k)[o+k]? =Y n:=by rw[qjj _ _ _ _ _ fun t ht=>by omega];exact hn
   obtain⟨d0,z0⟩:=HE.out _ _ bZ;have aq:=HF.out k wr n cd hn HK.out HE.out;have HC:=lhd aq;clear hn bZ aq;go_wp2_with fail;refine HC.out.mono ?_;rintro e w2 ⟨rfl,aj⟩;have jQ:E<wr:=World.block_lt_of_cell? wr ⟨E,o+k,Z⟩ d0;have SD:=lhd jQ
   replace d0:=J aj d0
   replace z0:=xf aj (by exact jQ) z0
   clear jQ;go_wp2;go_roundw
   case measure=>simp[vI];omega
   case rel =>refine⟨k+1,qh (by omega),by omega,(show Hid _ from ?_),(lhd ((HK.out.below aj).set _ _))⟩;have h5:IL w2 E (stE l o f k):=HE.out.keep aj SD.out;exact h5.put (by rw[ql7];have:=HL.out;omega) _
  ·have aM:k=m:=by omega
   subst aM;go_wp2
   go_end0
   exact⟨rfl,HE.out,HK.out⟩
theorem i64_and1' (n:Int):bits .and φ n 1=n%2:=by
 have h1:(BitVec.ofInt 64 1).toNat=2^1-1:=by decide
 have key:(BitVec.ofInt 64 n &&& BitVec.ofInt 64 1).toNat=(n%((2^64:Nat):Int)).toNat%2^1:=by rw[BitVec.toNat_and,BitVec.toNat_ofInt,h1,Nat.and_two_pow_sub_one_eq_mod]
 show IntKind.i64.wrap ((BitVec.ofInt 64 n &&& BitVec.ofInt 64 1).toNat:Nat)=n%2;rw[key,IntKind.wrap_i64];omega
theorem qfm {p f e o q:Nat}(he:0<e)(hf:e<2^f):∃f',f=f'+1/\e / 2<2^f'/\q8v p f e o q=q8v p f' (e / 2) (if e%2=1 then o*q%p else o) (q*q%p):=by
 cases f with
 |zero=>simp at hf;omega
 |succ f' =>
  refine⟨f',rfl,by rw[Nat.pow_succ]at hf;omega,?_⟩;show cond (Nat.beq e 0) _ _=_;rw[show Nat.beq e 0=false by cases e with|zero=>omega|succ _=>rfl];show q8v p f' (e / 2) (cond (Nat.beq (e%2) 1) _ _) _=_;by_cases h:e%2=1
  ·rw[if_pos h,h];rfl
  ·rw[if_neg h,show e%2=0 by omega];rfl
theorem qos (p f o q:Nat):q8v p f 0 o q=o:=by cases f <;> rfl
theorem qrm (R r m n:Nat)(sv:ε)(p:Int)(w:δ)(hD:RD w R sv p r m)(hp:prN p.toNat=true)(h0:n≠0)(hn:n<p.toNat) :
  Calls Tryz.prog 102 #[σ (Y ⟨R,0,Z⟩),H φ n] w fun e w'=>e=.returned (H φ (ovN p.toNat n:Int))/\RD w' R sv p r m/\Bk R w w':=by
 have NS:p.toNat<=997/\2<=p.toNat:=by have:=yi.1 hp;omega
 obtain⟨g1,g2,g3,g4⟩:=q6t hp h0 hn;obtain⟨x,hx,hz,Kk⟩:=hD.ov n (by omega);have c0:=hD.c0;obtain⟨P,hP⟩:=x4 (p.toNat:Nat);obtain rfl:p=(P:Int):=by omega
 rw[show ((P:Int)).toNat=P from by omega]at *;have uH:(n:Int)<998:=by omega
 have HH:=yh hD g4 Kk;obtain⟨v,hv⟩:=x4 (ovN P n);rw[<-hv]at g1 g2 g4 Kk ⊢;have HV:=lhd hv;have HG:=lhd g4;clear hD g3 g4 hv hP hp;go_enter Tryz.func102,Tryz.ntmps102;rcases Kk with rfl|rfl
 ·have Km:¬((P:Int)=0):=by omega
  have SF:((P:Int) == 0)=false:=by simpa using Km
  have iQ:IntKind.i64.wrap ((P:Int)-2)=((P-2:Nat):Int):=by rw[IntWalk.i64_in _ (by omega)];omega
  obtain⟨e0,wY⟩:=x4 (P-2);rw[<-wY]at iQ HG;have SG:e0<2^10:=by omega
  clear wY;go_wp2;go_loopw [5,6,7] (fun a b d wr=>∃o q e:Nat,a=o/\b=q/\d=e/\o<P/\q<P/\Hid (∃f,e<2^f/\q8v P f e o q=v)/\Hid (Below w w wr)) (fun _ _ d _=>(vI d).toNat)
  case atStart=>exact⟨1,n,e0,rfl,rfl,rfl,by omega,hn,(lhd ⟨10,SG,HG.out.symm⟩),(lhd q9)⟩
  case round =>
   obtain⟨o,q,e,rfl,rfl,rfl,ho,hq,HE,HB⟩:=hrel;by_cases he:0<e
   ·have NT:(0:Int)<e:=by omega
    have d0:=J HB.out c0;have s1:0<=(o:Int)*q/\(o:Int)*q<=1000*1000:=⟨Int.mul_nonneg (by omega) (by omega),Int.mul_le_mul (by omega) (by omega) (by omega) (by omega)⟩
    have s2:0<=(q:Int)*q/\(q:Int)*q<=1000*1000:=⟨Int.mul_nonneg (by omega) (by omega),Int.mul_le_mul (by omega) (by omega) (by omega) (by omega)⟩
    have w1:IntKind.i64.wrap ((o:Int)*q)=((o*q:Nat):Int):=by rw[IntWalk.i64_in _ (by omega)];simp
    have w2:IntKind.i64.wrap ((q:Int)*q)=((q*q:Nat):Int):=by rw[IntWalk.i64_in _ (by omega)];simp
    have t1:((o*q:Nat):Int).tmod P=((o*q%P:Nat):Int):=by rw[Int.tmod_eq_emod_of_nonneg (by omega)];simp
    have t2:((q*q:Nat):Int).tmod P=((q*q%P:Nat):Int):=by rw[Int.tmod_eq_emod_of_nonneg (by omega)];simp
    have BE:(e:Int) / 2^(1:Int).toNat=((e / 2:Nat):Int):=by show (e:Int) / 2^1=_;simp
    have fP:o*q%P<P:=Nat.mod_lt _ (by omega);have dE:q*q%P<P:=Nat.mod_lt _ (by omega);obtain⟨oq,NU⟩:=x4 (o*q);obtain⟨qq,dA⟩:=x4 (q*q);obtain⟨om,Kn⟩:=x4 (o*q%P);obtain⟨qm,oC⟩:=x4 (q*q%P);obtain⟨e2,uB⟩:=x4 (e / 2);have HX:=yh Kn oC uB;rw[<-Kn]at t1 fP;rw[<-oC]at t2 dE;rw[<-NU]at t1 w1;rw[<-dA]at t2 w2;rw[<-uB]at BE;have ak:e2<e:=by omega
    clear s1 s2 NU dA Kn oC uB;by_cases hb:e%2=1
    ·have SH:bits .and φ (e:Int) 1=1:=by rw[i64_and1'];omega
     have HS:Hid (∃f,e2<2^f/\q8v P f e2 om qm=v):=(lhd (by obtain⟨f,hf,hv⟩:=HE.out;obtain⟨f',rfl,h1,h2⟩:=qfm (p:=P) (o:=o) (q:=q) he hf;rw[if_pos hb,<-HX.out.1,<-HX.a1,<-HX.b2]at h2;rw[<-HX.b2]at h1;exact⟨f',h1,by rw[<-h2];exact hv⟩))
     clear hb;go_wp2;go_roundw
     case measure=>simp[vI];omega
     case rel=>exact⟨om,qm,e2,rfl,rfl,qh (by first|exact BE|omega),fP,dE,HS,(lhd HB.out)⟩
    ·have SH:bits .and φ (e:Int) 1=0:=by rw[i64_and1'];omega
     have HS:Hid (∃f,e2<2^f/\q8v P f e2 o qm=v):=(lhd (by obtain⟨f,hf,hv⟩:=HE.out;obtain⟨f',rfl,h1,h2⟩:=qfm (p:=P) (o:=o) (q:=q) he hf;rw[if_neg hb,<-HX.a1,<-HX.b2]at h2;rw[<-HX.b2]at h1;exact⟨f',h1,by rw[<-h2];exact hv⟩))
     clear hb;go_wp2;go_roundw
     case measure=>simp[vI];omega
     case rel=>exact⟨o,qm,e2,rfl,rfl,qh (by first|exact BE|omega),ho,dE,HS,(lhd HB.out)⟩
   ·obtain rfl:e=0:=by omega
    have tK:o=v:=by obtain⟨f,_,hv⟩:=HE.out;rw[qos]at hv;exact hv
    subst tK;have tL:R<w:=World.block_lt_of_cell? w ⟨R,4+n,Z⟩ hx;have d1:=J HB.out hx;have z1:=xf HB.out (by exact tL) hz;have HR:=lhd tL;clear tL;go_wp2;go_ret;refine⟨rfl,?_,((Bk.of HB.out).set _ _)⟩;have h5:=(HH.out.1.keep HB.out).put (n:=n) (by omega);rw[show ((P:Int)).toNat=P from by omega,<-HV.out]at h5;exact h5
 ·go_wp2;go_ret;exact⟨rfl,HH.out.1,Bk.refl _ _⟩
theorem qdl (v:ε)(l:List Int)(w:δ)(h:Sl w 1 v (ints l))(hl:l.length<=1099511627776) :
  Calls Tryz.prog 34 #[v] w fun e w'=>∃r,e=.returned r/\w'.ownsRow w 3 1 r l.length (ints l)/\Below w w w':=by
 have qe:∀(w:δ) (a:Option Addr) (n c n' c':Nat),(binOp .eql 23 (O a n c) (O Z n' c')).run Tryz.prog w=.ok (τ a.isNone) w:=fun w a n c n' c'=>Lib.run_eql_slice_nil w _ _ a n c n' c' Tryz.underlying23
 obtain⟨a,n,cap,rfl,h2,h3,h4,h5,h6⟩:=h;cases a with
 |none =>
  have hc:=h5 rfl;have hn:n=0:=by omega
  subst hn hc;have iV:l=[]:=gl (by rw[xl]at h4;omega);subst iV;clear h2 h3 h4 h5 h6;go_enter Tryz.func34,Tryz.ntmps34;go_wp2;go_ret;exact⟨_,rfl,World.ownsRow_nil _ _ _ _,q9⟩
 |some ad =>
  have hs:Sl w 1 (O (Y ad) n cap) (ints l):=⟨Y ad,n,cap,rfl,h2,h3,h4,h5,h6⟩
  clear h2 h3 h4 h5 h6;have lN:Below w w (w.alloc (.cells #[] 3)):=bal w _;have hk:=hs.alloc (.cells #[] 3);have HS:=lhd hk;clear hs hk;go_enter Tryz.func34,Tryz.ntmps34;go_wp2_with (at_builtin;refine q2f (W:=w) rfl _ _ 23 rfl w 3 Tryz.xg Tryz.underlying23 rfl (by decide) (by decide) _ _ _ rfl (zj w 3 1) _ l.length (ints l) rfl HS.out (by rw[xl,gK]) (q65 l) ?ad1 lN lN.size ?_)
  case ad1=>omega
  intro v1 w1 ir fp aF;go_wp2;go_ret;exact⟨_,rfl,by simpa using ir,aF⟩
theorem qgm {w:δ}{base n:Nat}{v:ε}{l:List Int}(h:w.ownsRow base 3 1 v n (ints l))(hn:0<n):∃E c,v=O (Y ⟨E,0,Z⟩) n c/\base<=E/\E<w.heap.size/\n<=c/\c<=maxLen/\IL w E l:=by
 obtain⟨h1,h2⟩:=h;rw[xl,gK]at h1;rcases h2 with ⟨_,h2⟩|⟨g,cap,cur,hv,hg,hh,hc,fO,iq,ht⟩
 ·omega
 ·have ak:g<w:=by rw[gh]at hh;exact hh.1
  refine⟨g,cap,hv,hg,ak,hc,fO,fun i x hx=>?_⟩;have hi:i<n:=by have:=(gk.1 hx).1;omega
  have e1:(ints l)[i]? =x:=by simp[ints,hx]
  rw[<-ht,List.getElem?_take,if_pos (by omega),Array.getElem?_toList]at e1;exact⟨(show w ⟨g,i,Z⟩=cur[i]? by simp[World.cell?,hh]).trans e1,jz hh i⟩
theorem qgz {w w':δ}{base st n E:Nat}{e:TypeId}{v:ε}{xs:List ε}(h:w.ownsRow base e st v n xs)(hb:Bk E w w')(hE:E<base):w'.ownsRow base e st v n xs:=by
 obtain⟨h1,h2⟩:=h;refine⟨h1,?_⟩;rcases h2 with h2|⟨g,cap,cur,hv,hg,hh,r⟩
 ·exact .inl h2
 ·have ak:g<w.heap.size:=by rw[gh]at hh;exact hh.1
  exact .inr ⟨g,cap,cur,hv,hg,(hb.block g ak (by omega)).trans hh,r⟩
theorem quv {a k m x t:Nat}(hx:x<m)(ht:t<m)(h:a≠k):a*m+x≠k*m+t:=fun e=>by
 have h1:(a*m+x) / m=a:=by rw[Nat.mul_comm,Nat.mul_add_div (by omega),Nat.div_eq_of_lt hx];omega
 have h2:(k*m+t) / m=k:=by rw[Nat.mul_comm,Nat.mul_add_div (by omega),Nat.div_eq_of_lt ht];omega
 rw[e,h2]at h1;exact h h1.symm
theorem quw (E c r m a j:Nat)(p t:Int)(u:ε)(M:List (List Int))(w:δ)(hM:FM p r m M)(hI:IL w E M.flatten)(ha:a<r)(hm:m<=800)(hp:p<=997)(ht:t=(ovN p.toNat (j6 (zm M a) j).toNat:Int))(mi:0<=t/\t<p) :
  Calls Tryz.prog 101 #[O (Y ⟨E,a*m,Z⟩) m c,.func (.func 103) #[I #[u,H φ t,H φ p]] #[]] w fun e w'=>e=.returned (ψ #[])/\IL w' E (M.set a (ye p j (zm M a))).flatten/\Bk E w w':=by
 obtain⟨l1,l2,_⟩:=hM.row ha;have hle:a*m+m<=M.flatten.length:=by rw[hM.q1d];have:=gI m (show a+1<=r from ha);rw[Nat.add_mul,Nat.one_mul]at this;exact this
 have hl:(ye p j (zm M a)).length=m:=by unfold ye;rw[gp,l1]
 refine(qsx E (a*m) m c 103 _ M.flatten (fun k=>j6 (ye p j (zm M a)) k) w hI hle hm (fun _ _=>rfl) fun k W n hk hn _ _=>?_).mono ?_
 ·rw[flat_get hM.wid (by rw[hM.len];exact ha) hk]at hn;injection hn with hn
  subst hn;refine(qtg u t p k _ W mi (hM.at ha hk) hp).mono ?_;rintro e w' ⟨rfl,hb⟩;refine⟨?_,hb⟩;unfold ye;rw[qcg (by omega),ht]
 ·rintro e w' ⟨rfl,h1,h2⟩;refine⟨rfl,?_,h2⟩;rw[qgj hM.wid (by rw[hM.len];exact ha) hl m (nlr _),q26 hl l1]at h1;exact h1
theorem qux (E c c' r m a k j:Nat)(p t:Int)(M:List (List Int))(w:δ)(hM:FM p r m M)(hI:IL w E M.flatten)(ha:a<r)(hk:k<r)(BF:a≠k)(hm:m<=800)(hp:p<=997)(ht:t=p-j6 (zm M k) j)(ah:j6 (zm M k) j≠0)(mi:0<=t/\t<p) :
  Calls Tryz.prog 101 #[O (Y ⟨E,k*m,Z⟩) m c,.func (.func 104) #[I #[O (Y ⟨E,a*m,Z⟩) m c',H φ t,H φ p]] #[]] w fun e w'=>e=.returned (ψ #[])/\IL w' E (M.set k (vg p j (zm M a) (zm M k))).flatten/\Bk E w w':=by
 obtain⟨l1,l2,_⟩:=hM.row hk;obtain⟨l3,l4,_⟩:=hM.row ha;have hle:k*m+m<=M.flatten.length:=by rw[hM.q1d];have:=gI m (show k+1<=r from hk);rw[Nat.add_mul,Nat.one_mul]at this;exact this
 have hl:(vg p j (zm M a) (zm M k)).length=m:=by unfold vg;rw[if_neg ah,List.length_zipWith,l1,l3,Nat.min_self]
 refine(qsx E (k*m) m c 104 _ M.flatten (fun i=>j6 (vg p j (zm M a) (zm M k)) i) w hI hle hm (fun _ _=>rfl) fun i W n hi hn _ pt=>?_).mono ?_
 ·rw[flat_get hM.wid (by rw[hM.len];exact hk) hi]at hn;injection hn with hn
  subst hn;have hx:(stE M.flatten (k*m) (fun i=>j6 (vg p j (zm M a) (zm M k)) i) i)[a*m+i]? =Y (j6 (zm M a) i):=by rw[qjj _ _ _ _ _ fun t ht=>quv hi (by omega) BF];exact flat_get hM.wid (by rw[hM.len];exact ha) hi
  refine(qut E (a*m) m c' t p _ _ i W hi (pt _ _ hx).1 (hM.at ha hi) mi (hM.at hk hi) hp).mono ?_;rintro e w' ⟨rfl,hb⟩;refine⟨?_,hb⟩;unfold vg;rw[if_neg ah,q9a (by omega) (by omega),ht]
 ·rintro e w' ⟨rfl,h1,h2⟩;refine⟨rfl,?_,h2⟩;rw[qgj hM.wid (by rw[hM.len];exact hk) hl m (nlr _),q26 hl l1]at h1;exact h1
def elK (p:Int)(j a:Nat)(M:List (List Int))(k:Nat):List (List Int):=M.mapIdx fun i x=>if i<k then (if i=a then x else vg p j (zm M a) x)else x
theorem qif (p:Int)(j a:Nat)(M:List (List Int)):elK p j a M 0=M:=by
 unfold elK;refine List.ext_getElem? fun i=>?_
 rw[List.getElem?_mapIdx];simp
theorem q7u (p:Int)(j a:Nat)(M:List (List Int))(k:Nat){i:Nat}(hi:i<M.length):zm (elK p j a M k) i=if i<k then (if i=a then zm M i else vg p j (zm M a) (zm M i))else zm M i:=qch hi
theorem qoz {p:Int}(hp:0<p){r m:Nat}{M:List (List Int)}(h:FM p r m M)(j a k:Nat)(ha:a<r):FM p r m (elK p j a M k):=by
 refine h.qui _ fun i x hl hr=>?_
 by_cases h1:i<k
 ·rw[if_pos h1];by_cases h2:i=a
  ·rw[if_pos h2];exact⟨hl,hr⟩
  ·rw[if_neg h2];exact q7m hp j (h.row ha).1 hl hr
 ·rw[if_neg h1];exact⟨hl,hr⟩
theorem qig {p:Int}{j a:Nat}{M:List (List Int)}{k:Nat}(hk:k<M.length):elK p j a M (k+1)=(elK p j a M k).set k (if k=a then zm M k else vg p j (zm M a) (zm M k)):=by
 refine List.ext_getElem? fun i=>?_
 unfold elK;rw[List.getElem?_set,List.getElem?_mapIdx,List.length_mapIdx,List.getElem?_mapIdx];by_cases hi:k=i
 ·subst hi;rw[if_pos rfl,if_pos hk,q1k hk];simp
 ·rw[if_neg hi];have:(i<k+1)=(i<k):=by apply propext;omega
  simp only [this]
theorem qdm {p:Int}{r m:Nat}{s:List (List Int)×List Nat}(h:FM p r m s.1){j i:Nat}(hf:q25 s.1 j (s.1.length-s.2.length) s.2.length=Y i)(hs:s.2.length<r) :
  kr p s j=(elK p j s.2.length ((q0f s.1 s.2.length i).set s.2.length (ye p j (zm (q0f s.1 s.2.length i) s.2.length))) r,s.2++[j]):=by
 have hl:(q0f s.1 s.2.length i).length=r:=by unfold q0f;rw[List.length_set,List.length_set,h.len]
 unfold kr elK;rw[hf];show (_,_)=_;rw[yl (by omega)]
 congr 1
 refine List.ext_getElem? fun k=>?_
 rw[List.getElem?_mapIdx,List.getElem?_mapIdx];by_cases hk:k<r
 ·simp only [if_pos hk]
 ·have:((q0f s.1 s.2.length i).set s.2.length (ye p j (zm (q0f s.1 s.2.length i) s.2.length)))[k]? =none:=by rw[List.getElem?_eq_none_iff,List.length_set,hl];omega
  rw[this];rfl
