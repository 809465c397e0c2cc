/- Steps towards MorseParts. Conditions: none. -/
import Derived.Test.YtlhicnfeajejhaaGreatDoorGQk
import Derived.Test.YtlhicnfeajejhaaGreatDoorGQm
set_option maxRecDepth 1000000
set_option maxHeartbeats 16000000
namespace Go.Cx
open Go.Proofs.YtlhicnfeajejhaaGreatDoor
theorem q8a (l:List Int):chk (q25 l)=(0,0):=q4g _ (by rw[gn,gd];omega) fun s hs=>by obtain⟨x,_,rfl⟩:=gr.1 hs;exact⟨(q5d x).1,(q5d x).2.1⟩
theorem qbk (l:List Int):canon (q25 l)=q25 l:=yh _ _
theorem qcx (l:List Int):Cx.Good (q25 l):=by
 have:=q0d (q8a l)
 rwa [qbk] at this
theorem qj8 (a:List Sd) (x:Sd) (h:∀ y∈a,y.c<=x.c):yv a x=a++[x]:=by
 induction a with
 | nil=>rfl
 | cons y a ih =>unfold yv;rw[if_pos (h y (by simp)),ih fun z hz=>h z (by simp[hz])];rfl
theorem qek {l:List Sd} (h:l.Pairwise fun s t=>s.c<=t.c):zx l=l:=by
 have key:∀ (l a:List Sd),(a++l).Pairwise (fun s t=>s.c<=t.c)->l.foldl yv a=a++l:=fun l=>by
  induction l with
  | nil=>intro a _;simp
  | cons x l ih =>intro a h;rw[List.foldl_cons,qj8 a x fun y hy=>(List.pairwise_append.1 h).2.2 y hy x (by simp),ih (a++[x]) (by rw[gC];exact h),gC];rfl
 exact key l [] h
section
variable {K:List Cl} (G:Cx.Good K)
include G
theorem qsz (d:Int):qrd K d=q04 K d:=by rw[qrw G.asc,G.ids]
end
end Go.Cx
namespace Go.Proofs.YtlhicnfeajejhaaGreatDoor
open Go.RowKit Go.Cx
theorem qtj (v u:Value) (l:List Int) (w:World) (h:(Mok.idl l).holds v w) (k:(Mok.idl l).holds u w):Calls Tryz.prog 56 #[v,u] w (Gvs .tt w):=by refine(qq4 v u l l w h k).mono ?_;rintro e w' ⟨q,rfl,hq,hb⟩;exact⟨_,rfl,congrArg Value.bool (hq.2 rfl),hb⟩
theorem kEq (v u:Value) (r c:Nat) (l:List Int) (w:World) (h:(Mok.mat r c l).holds v w) (k:(Mok.mat r c l).holds u w) (hr:r<=200) (hc:c<=200) (hl:l.length=r*c):Calls Tryz.prog 53 #[v,u] w (Gvs .tt w):=by obtain⟨x,rfl,hx⟩:=h;obtain⟨y,rfl,hy⟩:=k;refine(qql r c x y l l w hx hy hr hc hl hl).mono ?_;rintro e w' ⟨q,rfl,hq,hb⟩;exact⟨_,rfl,congrArg Value.bool (hq.2 rfl),hb⟩
end Go.Proofs.YtlhicnfeajejhaaGreatDoor
namespace Go.Proofs.YtlhicnfeajejhaaGreatDoor
open Go.RowKit Go.Cx
attribute [local go_sem ↓] Go.wp_at_zero Go.wp_at_succ
section
variable {P:Program} {Q:Exit->Act->World->Prop} {o:Oper} {a:Act} {w:World} {k:Mok}
end
theorem qri:∀ args w,(callFunc 56 args).run Tryz.prog w = .ok (.enter 56 args) w:=q7b Tryz.func56 (by kernel_rfl) (by kernel_rfl)
theorem qr6:∀ args w,(callFunc 54 args).run Tryz.prog w = .ok (.enter 54 args) w:=q7b Tryz.func54 (by kernel_rfl) (by kernel_rfl)
theorem q9l:∀ args w,(callFunc 53 args).run Tryz.prog w = .ok (.enter 53 args) w:=q7b Tryz.func53 (by kernel_rfl) (by kernel_rfl)
theorem qpo (v:Value) (l:List Ce) (id:Int) (w:World) (h:Sl w 3 v (cat Ce.enc l)) (hl:l.length<=1000000) (hs:l.Pairwise fun x y=>x.id < y.id) (et:∀ x∈l,x.id≠id) :
  Calls Tryz.prog 84 #[v,.int .i64 id] w fun e w'=>e = .returned (.int .i64 (-1))/\BwQ w w':=by
 obtain⟨a,n,cap,rfl⟩:=qg h;have hlen:l.length=n:=by obtain⟨_,_,h3,_⟩:=h.open;rw[qt Ce.qp] at h3;omega
 obtain⟨fH,ml,_⟩:=h.open;unfold maxLen at ml;rw[hlen] at hl;have hlt:∀ (i j:Nat) (x y:Ce),l[i]? = some x->l[j]? = some y->i < j->x.id < y.id:=fun i j x y hx hy jE=>by
  obtain⟨hj,dM⟩:=ge.1 hx;obtain⟨hk,bE⟩:=ge.1 hy;have:=gN.1 hs i j hj hk jE
  rwa [dM,bE] at this
 have al:∀ (i:Nat) (x:Ce),l[i]? = some x->x.id≠id:=fun i x hx=>et x (gh hx)
 have HH:=lhd (aiq h (aiq hlen (aiq hlt al)));clear h hlen hlt hs et al;go_enter Tryz.func84,Tryz.ntmps84;go_wp2_with fail;go_loopw [5,6] (fun p q wr=>∃ lo hi:Nat,p = .int .i64 lo/\q = .int .i64 hi/\lo<=hi/\hi<=n/\Hid ((∀ j y,l[j]? = some y->j < lo->y.id < id)/\∀ j y,l[j]? = some y->hi<=j->id < y.id)/\BwQ w wr) (fun p q _=>(vI q).toNat - (vI p).toNat)
 case atStart=>exact⟨0,n,rfl,rfl,go _,nlr _,(show Hid _ from⟨fun j y _ hj=>by omega,fun j y hy hj=>by have:=(ge.1 hy).1;rw[HH.out.2.1] at this;omega⟩),Below.refl _ _⟩
 case round =>
  obtain⟨lo,hi,rfl,rfl,h1,h3,HI,hB⟩:=hrel;by_cases OR:lo < hi
  ·obtain⟨ad,aT⟩:=sadq HH.out.1.open.2.2.2.1 (by omega)
   subst aT;obtain⟨_,_,_,_,h6⟩:=HH.out.1.open;obtain⟨m,hm⟩ : ∃ m,m=(lo+hi) / 2:=⟨_,rfl⟩
   have fA:lo<=m/\m < hi:=by omega
   obtain⟨y,hy⟩ : ∃ y,l[m]? = some y:=⟨_,g8 (by rw[HH.out.2.1];omega)⟩
   have d0:wr.cell? (ad.add (m*3))=some (.int .i64 y.id):=Cx.q8 hB (h6 ad rfl _ _ (zh l m y hy).1);have kM:IntKind.i64.wrap ((lo:Int)+hi)=(lo:Int)+hi:=IntWalk.i64_in _ (by omega);have hq:((lo:Int)+hi).tdiv 2=(m:Int):=by rw[Int.tdiv_eq_ediv_of_nonneg (by omega)];omega
   have lI:((lo:Int)+hi) / 2=(m:Int):=by omega
   have Li:(m:Int) < n:=by omega
   have oC:IntKind.i64.wrap (m:Int)=(m:Int):=IntWalk.i64_in _ (by omega);have qW:=lhd hy;clear h6 hy hm;by_cases hc:y.id < id
   ·have HC:=lhd hc;go_wp2;go_roundw
    case measure=>simp[vI];omega
    case rel =>
     refine⟨m+1,hi,qh (by omega),rfl,by omega,h3,(show Hid _ from⟨fun j z hz hj=>?_,HI.out.2⟩),hB⟩;rcases gP j m with h | h
     ·exact Int.lt_trans (HH.out.2.2.1 j m z y hz qW.out h) HC.out
     ·have qB:j=m:=by omega
      subst qB;have:=qW.out;rw[hz] at this;cases this;exact HC.out
   ·have HC:=lhd hc;go_wp2;go_roundw
    case measure=>simp[vI];omega
    case rel =>
     refine⟨lo,m,rfl,rfl,fA.1,by omega,(show Hid _ from⟨HI.out.1,fun j z hz hj=>?_⟩),hB⟩;have iU:id < y.id:=by have h4:=HH.out.2.2.2 m y qW.out;have h5:=HC.out;omega
     rcases gP m j with h | h
     ·exact Int.lt_trans iU (HH.out.2.2.1 m j y z qW.out hz h)
     ·have qB:j=m:=by omega
      subst qB;have:=qW.out;rw[hz] at this;cases this;exact iU
  ·by_cases mn:lo < n
   ·obtain⟨ad,aT⟩:=sadq HH.out.1.open.2.2.2.1 (by omega)
    subst aT;obtain⟨_,_,_,_,h6⟩:=HH.out.1.open;obtain⟨y,hy⟩ : ∃ y,l[lo]? = some y:=⟨_,g8 (by rw[HH.out.2.1];omega)⟩
    have d0:wr.cell? (ad.add (lo*3))=some (.int .i64 y.id):=Cx.q8 hB (h6 ad rfl _ _ (zh l lo y hy).1);have hbb:(y.id == id)=false:=by simpa using HH.out.2.2.2 lo y hy
    have MJ:(lo:Int) < n:=by omega
    clear h6 hy;go_wp2;go_ret;exact⟨rfl,hB⟩
   ·have MJ:¬ (lo:Int) < n:=by omega
    go_wp2;go_ret;exact⟨rfl,hB⟩
theorem q4v {K:List Cl} (G:Cx.Good K):qc5 K=K:=by
 unfold qc5;rw[qap G.asc,qkz (G.asc.map (fun x=>⟨x.id,x.dim,zx x.s⟩) fun _=>rfl) none (fun _ _ e=>by cases e)]
 conv=>rhs;rw[<-List.map_id K]
 refine List.map_congr_left fun x hx=>?_
 show (⟨x.id,x.dim,zx x.s⟩ : Cl)=x;rw[qek ((G.sasc x hx).imp fun h=>by omega)]
theorem qok (v:Value) (l:List Ce) (id:Int) (w:World) (h:SlC w v l) (hl:l.length<=1000000) (aK:∀ x∈l,x.s.length<=1099511627776) (G:Cx.Good (l.map Ce.cl)) :
  Calls Tryz.prog 119 #[.agg #[v],.int .i64 id] w fun e w'=>BwQ w w' ∧
   ((∃ x:Ce,e = .returned (.tuple #[.agg #[.int .i64 x.id,.int .i64 x.dim,x.sl],.bool true])/\x.cl∈l.map Ce.cl/\x.id=id/\Sl w' 2 x.sl (cat Sd.enc x.s)) ∨
   ((∀ x∈l,x.id≠id)/\e = .returned (.tuple #[.agg #[.int .i64 0,.int .i64 0,.slice none 0 0],.bool false]))):=by
 obtain⟨a,len,cap,rfl⟩:=qg h.1;have HH:=lhd (h.mono fun p u hc=>qk hc (.cells #[.slice a len cap] 26));have iS:=lhd aK;have HG:=lhd G;clear h aK G;go_enter Tryz.func119,Tryz.ntmps119;go_wp2_with fail;obtain⟨W,hW⟩ : ∃ W:World,W=(w.alloc (.cells #[.slice a len cap] 26)).alloc (.cells #[.int .i64 0,.int .i64 0,.slice none 0 0] 75):=⟨_,rfl⟩
 rw[<-hW];have Gn:SlC W (.slice a len cap) l:=by rw[hW];exact HH.out.mono fun p u hc=>qk hc _
 have hw:BwQ w W:=by rw[hW];exact(bal _ _).alloc (by simp) _
 have hz:w.heap.size+2=W.heap.size:=by rw[hW];simp
 have f0:W.frozen? ⟨w.heap.size+1,0,none⟩=false:=by rw[hW];simp
 have f1:W.frozen? ⟨w.heap.size+1,1,none⟩=false:=by rw[hW];simp
 have f2:W.frozen? ⟨w.heap.size+1,2,none⟩=false:=by rw[hW];simp
 have b0:W.cell? ⟨w.heap.size+1,0,none⟩=some (.int .i64 0):=by rw[hW];simp
 have b1:W.cell? ⟨w.heap.size+1,1,none⟩=some (.int .i64 0):=by rw[hW];simp
 have b2:W.cell? ⟨w.heap.size+1,2,none⟩=some (.slice none 0 0):=by rw[hW];simp
 clear hW HH;refine(qdz _ l _ Gn (by omega) iS.out).mono ?_;rintro e w1 ⟨r,M,rfl,hM,hR,ai⟩;rw[q4v HG.out] at hM;have dx:M.length=l.length:=by have:=congrArg List.length hM;simpa using this
 have lR:M.Pairwise fun x y=>x.id < y.id:=by have h3:=HG.out.asc;rw[<-hM] at h3;exact(List.pairwise_map (f:=Ce.cl) (R:=fun x y:Cl=>x.id < y.id)).1 h3
 obtain⟨ma,mc,iX⟩:=qj hR.1;subst iX;have g0:=qv ai (by show w.heap.size+1 < _;omega) f0;have g1:=qv ai (by show w.heap.size+1 < _;omega) f1;have g2:=qv ai (by show w.heap.size+1 < _;omega) f2;have bR:w.heap.size+2<=w1.heap.size:=by rw[hz];exact ai.size
 have j0:=Cx.q8 ai b0;have j1:=Cx.q8 ai b1;have j2:=Cx.q8 ai b2;have ak:BwQ w w1:=(btr hw ai);have hS:=Sl.qc hR.1;have HM:=lhd (aiq hM dx);have HR:=lhd hR;have aV:=lhd (aiq ak hz);clear hM hR ai hw f0 f1 f2 b0 b1 b2 Gn ak hz;by_cases hex:∃ x∈M,x.id=id
 ·obtain⟨x,MK,qG⟩:=hex;obtain⟨i0,hi0⟩:=bp MK;subst qG;have cL:=qnm _ M i0 x w1 hS (by omega) lR hi0;have pU:=lhd cL;have HX:=lhd (aiq MK hi0);clear cL lR dx hS MK hi0;go_wp2_with fail;refine pU.out.mono ?_;rintro e w2 ⟨rfl,aj⟩;have m0:=Cx.q8 aj j0;have m1:=Cx.q8 aj j1;have m2:=Cx.q8 aj j2;have k0:=qv aj (by show w.heap.size+1 < _;omega) g0;have k1:=qv aj (by show w.heap.size+1 < _;omega) g1;have k2:=qv aj (by show w.heap.size+1 < _;omega) g2;obtain⟨fH,ml,_,h5,h6⟩:=(Sl.qc HR.out.1).open;obtain⟨ad,aT⟩ : ∃ ad,ma=some ad:=by
   cases ma with
   | none =>have:=h5 rfl;have:=(ge.1 HX.out.2).1;omega
   | some ad=>exact⟨ad,rfl⟩
  subst aT;obtain⟨q0,q1,q2⟩:=zh M i0 x HX.out.2;have d0:w2.cell? (ad.add (i0*3))=some (.int .i64 x.id):=Cx.q8 aj (h6 ad rfl _ _ q0);have d1:w2.cell? ⟨(ad.add (i0*3)).block,(ad.add (i0*3)).off+1,none⟩=some (.int .i64 x.dim):=by rw[qi _ _ _ (by omega)];exact Cx.q8 aj (h6 ad rfl _ _ q1)
  have d2:w2.cell? ⟨(ad.add (i0*3)).block,(ad.add (i0*3)).off+2,none⟩=some (.slice x.a x.n x.c):=by rw[qi _ _ _ (by omega)];exact Cx.q8 aj (h6 ad rfl _ _ q2)
  have cP:(i0:Int) < M.length:=by have:=(ge.1 HX.out.2).1;omega
  have hi1:¬ ((i0:Int) < 0):=by omega
  have bG:=lhd aj;clear g0 g1 g2 j0 j1 j2 aj q0 q1 q2 h5 h6 fH ml;go_wp2;have aw:BwQ w w2:=aV.out.1.trans (bG.out.mono (by omega));refine bodyPost_ret (v:=.tuple #[.agg #[.int .i64 x.id,.int .i64 x.dim,x.sl],.bool true]) ?_ rfl ⟨((aw.setCell (by simp) _).setCell (by simp) _).setCell (by simp) _,.inl ⟨x,rfl,?_,rfl,?_⟩⟩
  ·simp[results,Tryz.results119,go_sem,m0,m1,m2,Ce.sl]
  ·rw[<-HM.out.1];exact gr.2 ⟨x,HX.out.1,rfl⟩
  ·have h7:=qa (HR.out.2 x HX.out.1) bG.out;exact Sl.qc (ownsRow_setCell_below (ownsRow_setCell_below (ownsRow_setCell_below h7 (by have:=aV.out.2;show w.heap.size+1 < _;omega) _) (by have:=aV.out.2;show w.heap.size+1 < _;omega) _) (by have:=aV.out.2;show w.heap.size+1 < _;omega) _)
 ·have et:∀ x∈M,x.id≠id:=fun x hx he=>hex ⟨x,hx,he⟩
  have cL:=qpo _ M id w1 hS (by omega) lR et;have pU:=lhd cL;have yO:=lhd et;clear cL lR et hex dx hS;go_wp2_with fail;refine pU.out.mono ?_;rintro e w2 ⟨rfl,aj⟩;have m0:=Cx.q8 aj j0;have m1:=Cx.q8 aj j1;have m2:=Cx.q8 aj j2;have k0:=qv aj (by show w.heap.size+1 < _;omega) g0;have k1:=qv aj (by show w.heap.size+1 < _;omega) g1;have k2:=qv aj (by show w.heap.size+1 < _;omega) g2;have bG:=lhd aj;clear g0 g1 g2 j0 j1 j2 aj;go_wp2;have aw:BwQ w w2:=aV.out.1.trans (bG.out.mono (by omega));refine bodyPost_ret (v:=.tuple #[.agg #[.int .i64 0,.int .i64 0,.slice none 0 0],.bool false]) ?_ rfl ⟨((aw.setCell (by simp) _).setCell (by simp) _).setCell (by simp) _,.inr ⟨fun x hx he=>?_,rfl⟩⟩
  ·simp[results,Tryz.results119,go_sem,m0,m1,m2]
  have h8:x.cl∈M.map Ce.cl:=by rw[HM.out.1];exact gr.2 ⟨x,hx,rfl⟩
  obtain⟨y,hy,oI⟩:=gr.1 h8;exact yO.out y hy (by rw[<-he];exact congrArg Cl.id oI)
def atP (pl:Nat) (p:Int×Int):Int:=if pl=0 then p.1 else p.2
theorem qj9 (v:Value) (ps:List (Int×Int)) (pl:Nat) (id:Int) (w:World) (h:Sl w 2 v (pv ps)) (hl:ps.length<=1000000) (hp:pl < 2) :
  Calls Tryz.prog 159 #[v,.int .i64 pl,.int .i64 id] w fun e w'=>∃ z:Int,e = .returned (.int .i64 z)/\((z = -1/\∀ p∈ps,atP pl p≠id)\/∃ (i:Nat) (p:Int×Int),z=i/\ps[i]? = some p/\atP pl p=id/\∀ (j:Nat) (q:Int×Int),j < i->ps[j]? = some q->atP pl q≠id)/\BwQ w w':=by
 obtain⟨a,n,cap,rfl⟩:=qg h;have hlen:ps.length=n:=by obtain⟨_,_,h3,_⟩:=h.open;rw[yq] at h3;omega
 obtain⟨fH,ml,_⟩:=h.open;unfold maxLen at ml;rw[hlen] at hl;have HH:=lhd (aiq h hlen);clear h hlen;go_enter Tryz.func159,Tryz.ntmps159;go_wp2_with fail;go_loopw [7] (fun p wr=>∃ k:Nat,p = .int .i64 k/\k<=n/\Hid (∀ (j:Nat) (q:Int×Int),j < k->ps[j]? = some q->atP pl q≠id)/\BwQ w wr) (fun p _=>n - (vI p).toNat)
 case atStart=>exact⟨0,rfl,go _,(show Hid _ from fun j q hj=>by omega),Below.refl _ _⟩
 case round =>
  obtain⟨k,rfl,hk,HK,hB⟩:=hrel;by_cases hlt:k < n
  ·obtain⟨y,hy⟩ : ∃ y,ps[k]? = some y:=⟨_,g8 (by rw[HH.out.2];omega)⟩
   obtain⟨_,_,_,h5,h6⟩:=HH.out.1.open;obtain⟨ad,aT⟩:=sadq h5 (by omega)
   subst aT;have hg:=kv ps k y hy;have d0:wr.cell? ((ad.add (k*2)).add pl)=some (.int .i64 (atP pl y)):=by
    rcases (by omega:pl=0\/pl=1) with rfl | rfl
    ·rw[show (ad.add (k*2)).add 0=ad.add (k*2) from rfl];exact Cx.q8 hB (h6 ad rfl _ _ hg.1)
    ·rw[show (ad.add (k*2)).add 1=⟨(ad.add (k*2)).block,(ad.add (k*2)).off+1,none⟩ from rfl,qi _ _ _ (by omega)];exact Cx.q8 hB (h6 ad rfl _ _ hg.2)
   have cm:(pl:Int) < 2:=by omega
   have HY:=lhd hy;clear h5 h6 hy hg;by_cases he:atP pl y=id
   ·have hb:(atP pl y == id)=true:=by simpa using he
    have HE:=lhd he;clear he;go_wp2;go_ret;exact⟨_,rfl,.inr ⟨k,y,rfl,HY.out,HE.out,HK.out⟩,hB⟩
   ·have hb:(atP pl y == id)=false:=by simpa using he
    have HE:=lhd he;clear he;go_wp2;go_roundw
    case measure=>simp[vI];omega
    case rel =>
     refine⟨k+1,qh (by omega),by omega,(show Hid _ from fun j q hj hq=>?_),hB⟩;rcases gP j k with h | h
     ·exact HK.out j q h hq
     ·rw[show j=k by omega,HY.out] at hq;cases hq
      exact HE.out
  ·go_wp2;go_ret;refine⟨_,rfl,.inl ⟨rfl,fun p hx=>?_⟩,hB⟩;obtain⟨j,hj⟩:=bp hx;exact HK.out j p (by have:=(ge.1 hj).1;rw[HH.out.2] at this;omega) hj
theorem qja (v:Value) (ps:List (Int×Int)) (id:Int) (w:World) (h:Sl w 2 v (pv ps)) (hl:ps.length<=1000000) :
  Calls Tryz.prog 107 #[v,.int .i64 id] w fun e w'=>∃ q:Bool,e = .returned (.bool q)/\(q=true↔∃ p∈ps,p.1=id\/p.2=id)/\BwQ w w':=by
 have HH:=lhd h;have hp:=qj9 v ps 0 id w h hl (by omega);have HP:=lhd hp;clear h hp;go_enter Tryz.func107,Tryz.ntmps107;go_wp2_with fail;refine HP.out.mono ?_;rintro e w1 ⟨z,rfl,hz,hb⟩;rcases hz with ⟨rfl,hn⟩ | ⟨i,p,rfl,hi,ha,_⟩
 ·have HN:=lhd hn;have HB:=lhd hb;have hp:=qj9 v ps 1 id w1 (HH.out.q8 hb) hl (by omega);have Xf:=lhd hp;clear hn hb hp;go_wp2_with fail;refine Xf.out.mono ?_;rintro e w2 ⟨z,rfl,hz,aj⟩;have hB:BwQ w w2:=(btr HB.out aj);rcases hz with ⟨rfl,iA⟩ | ⟨i,p,rfl,hi,ha,_⟩
  ·have K8:=lhd iA;have bG:=lhd hB;clear iA aj hB;go_wp2;go_ret;exact⟨_,rfl,⟨fun h=>by simp at h,fun ⟨p,hp,hq⟩=>hq.elim (fun e=>absurd e (HN.out p hp)) (fun e=>absurd e (K8.out p hp))⟩,bG.out⟩
  ·have HX:=lhd (aiq (gh hi) ha);have bG:=lhd hB;have hi0:(0:Int)<=(i:Int):=by omega
   clear hi ha aj hB;go_wp2;go_ret;exact⟨_,rfl,⟨fun _=>⟨p,HX.out.1,.inr HX.out.2⟩,fun _=>by simp⟩,bG.out⟩
 ·have HX:=lhd (aiq (gh hi) ha);have HB:=lhd hb;have hi0:(0:Int)<=(i:Int):=by omega
  clear hi ha hb;go_wp2;go_ret;exact⟨_,rfl,⟨fun _=>⟨p,HX.out.1,.inl HX.out.2⟩,fun _=>by simp⟩,HB.out⟩
theorem qpp {l:List Sd} (h:l.Pairwise fun s t=>s.c < t.c) {s:Sd} (hs:s∈l):se l s.c=s.g:=by
 induction l with
 | nil=>cases hs
 | cons a l ih =>
  obtain⟨h1,h2⟩:=gE.1 h;show (if a.c=s.c then a.g else 0)+se l s.c=_;rcases gx.1 hs with rfl | hs
  ·rw[if_pos rfl,q9b fun t ht=>by have:=h1 t ht;omega];simp
  ·rw[if_neg (by have:=h1 s hs;omega),ih h2 hs];simp
theorem qjb (v:Value) (l:List Ce) (low high:Int) (w:World) (h:SlC w v l) (hl:l.length<=1000000) (aK:∀ x∈l,x.s.length<=1099511627776) (G:Cx.Good (l.map Ce.cl)) :
  Calls Tryz.prog 114 #[.agg #[v],.int .i64 low,.int .i64 high] w fun e w'=>e = .returned (.int .i64 (sgn (l.map Ce.cl) high low))/\BwQ w w':=by
 obtain⟨a,len,cap,rfl⟩:=qg h.1;have iS:=lhd aK;have HG:=lhd G;have Gn:SlC (w.alloc (.cells #[.slice a len cap] 26)) (.slice a len cap) l:=h.mono fun p u hc=>qk hc _
 have hf:=qok _ l high _ Gn hl aK G;have HF:=lhd hf;clear h aK G Gn hf;go_enter Tryz.func114,Tryz.ntmps114;go_wp2_with fail;refine HF.out.mono ?_;rintro e w1 ⟨ai,kH⟩;rcases kH with ⟨x,rfl,Ca,rfl,kC⟩ | ⟨et,rfl⟩
 ·have qT:zq (l.map Ce.cl) x.id=x.s:=q0b HG.out.asc Ca;have Rz:x.s.Pairwise fun s t=>s.c < t.c:=HG.out.sasc _ Ca
  have wF:Sl w1 2 (.slice x.a x.n x.c) (cat Sd.enc x.s):=kC;have hn:x.s.length=x.n:=by obtain⟨_,_,h3,_⟩:=wF.open;rw[qt Sd.qp] at h3;omega
  obtain⟨_,p2,_⟩:=wF.open;unfold maxLen at p2;have bT:BwQ w w1:=(bal w _).trans (ai.mono (by simp));have aF:=bT.size;have HX:=lhd (aiq qT (aiq Rz (aiq wF (aiq hn bT))));unfold Ce.sl;clear qT Rz wF kC hn bT ai Ca;go_wp2;obtain⟨W,hW⟩ : ∃ W,W=w1.alloc (.cells #[.int .i64 x.id,.int .i64 x.dim,.slice x.a x.n x.c] 75):=⟨_,rfl⟩
  rw[<-hW];have bI:BwQ w W:=by rw[hW];exact HX.out.2.2.2.2.alloc aF _
  have b2:W.cell? ⟨w1.heap.size,2,none⟩=some (.slice x.a x.n x.c):=by rw[hW];exact qd w1 _ _ (0,0) 2
  have hS:Sl W 2 (.slice x.a x.n x.c) (cat Sd.enc x.s):=by rw[hW];exact HX.out.2.2.1.alloc _
  have HW:=lhd (aiq bI (aiq b2 hS));clear hW bI b2 hS;go_loopw [9] (fun p wr=>∃ k:Nat,p = .int .i64 k/\k<=x.n/\Hid (∀ (j:Nat) (s:Sd),j < k->x.s[j]? = some s->s.c≠low)/\BwQ W wr) (fun p _=>x.n - (vI p).toNat)
  case atStart=>exact⟨0,rfl,go _,(show Hid _ from fun j q hj=>by omega),Below.refl _ _⟩
  case round =>
   obtain⟨k,rfl,hk,HK,aP⟩:=hrel;have b2:=Cx.q8 aP HW.out.2.1;have hB:BwQ w wr:=(btr HW.out.1 aP);have IX:=lhd hB;clear hB;by_cases hlt:k < x.n
   ·obtain⟨y,hy⟩ : ∃ y,x.s[k]? = some y:=⟨_,g8 (by rw[HX.out.2.2.2.1];omega)⟩
    obtain⟨_,_,_,h5,h6⟩:=HW.out.2.2.open;obtain⟨ad,aT⟩ : ∃ ad,x.a=some ad:=by
     cases hxa:x.a with
     | none=>have:=h5 hxa;omega
     | some ad=>exact⟨ad,rfl⟩
    have hg:=zw x.s k y hy;have d0:wr.cell? (ad.add (k*2))=some (.int .i64 y.c):=Cx.q8 aP (h6 ad aT _ _ hg.1);have d1:wr.cell? ⟨(ad.add (k*2)).block,(ad.add (k*2)).off+1,none⟩=some (.int .i64 y.g):=by rw[qi _ _ _ (by omega)];exact Cx.q8 aP (h6 ad aT _ _ hg.2)
    rw[aT] at b2;have HY:=lhd (aiq hy aT);clear h5 h6 hy aT hg;by_cases he:y.c=low
    ·have hb:(y.c == low)=true:=by simpa using he
     have HE:=lhd he;clear he;go_wp2;go_ret;refine⟨?_,IX.out⟩;unfold sgn;rw[HX.out.1,<-qcp HX.out.2.1,<-HE.out,qpp HX.out.2.1 (gh HY.out.1)];rfl
    ·have hb:(y.c == low)=false:=by simpa using he
     have HE:=lhd he;clear he;go_wp2;go_roundw
     case measure=>simp[vI];omega
     case rel =>
      refine⟨k+1,qh (by omega),by omega,(show Hid _ from fun j q hj hq=>?_),aP⟩;rcases gP j k with h | h
      ·exact HK.out j q h hq
      ·rw[show j=k by omega,HY.out.1] at hq;cases hq
       exact HE.out
   ·go_wp2;go_ret;refine⟨?_,IX.out⟩;unfold sgn;rw[HX.out.1,<-qcp HX.out.2.1,q9b fun s hs=>by obtain⟨j,hj⟩:=bp hs;exact HK.out j s (by have:=(ge.1 hj).1;rw[HX.out.2.2.2.1] at this;omega) hj]
    rfl
 ·have aV:=lhd ai;clear ai;have hz:sgn (l.map Ce.cl) high low=0:=by
   unfold sgn;rw[q0n (by unfold jv;rw[List.any_eq_false];intro y hy;obtain⟨z,hz,rfl⟩:=gr.1 hy;simpa [Ce.cl] using et z hz)]
   rfl
  have HZ:=lhd hz;clear et hz;go_wp2;have bT:BwQ w w1:=(bal w _).trans (aV.out.mono (by simp));have aF:=bT.size;have lD:=lhd bT;clear bT;go_loopw [9] (fun p wr=>p = .int .i64 0/\wr.cell? ⟨w1.heap.size,2,none⟩=some (.slice none 0 0)/\BwQ w wr) (fun _ _=>0)
  case atStart=>exact⟨rfl,by simp,lD.out.alloc aF _⟩
  case round =>obtain⟨rfl,c2,hB⟩:=hrel;go_wp2;go_ret;refine⟨?_,hB⟩;rw[HZ.out];rfl
end Go.Proofs.YtlhicnfeajejhaaGreatDoor
