/- Steps towards MorseParts. Conditions: none. -/
import Derived.Deep.DeepCutAuto
import Derived.Test.YtlhicnfeajejhaaGreatDoorGOj
set_option maxRecDepth 1000000
set_option maxHeartbeats 16000000
namespace Go.Cx
open Go.RowKit
def nub {α:Type} (key:α->Int):Option Int->List α->List α
 | _,[]=>[]
 | p,x :: l=>if p=some (key x) then nub key (some (key x)) l else x :: nub key (some (key x)) l
def q4p {α:Type} (key:α->Int) (p:Option Int) (l:List α):Option Int:=match l.getLast? with
 | none=>p
 | some y=>some (key y)
theorem qhz {α:Type} (key:α->Int) (x:α) (l:List α):∀ p,nub key p (l++[x])=nub key p l++(if q4p key p l=some (key x) then [] else [x]):=by
 induction l with
 | nil=>intro p;show (if _ then _ else _)=[]++(if _ then _ else _);rfl
 | cons y l ih =>
  intro p;have e:q4p key (some (key y)) l=q4p key p (y :: l):=by unfold q4p;rw[List.getLast?_cons];cases l.getLast? <;> rfl
  rw[bg];unfold nub;rw[ih,e];split <;> simp
theorem qkv {α β:Type} (key:β->Int) (f:α->β) (l:List α):∀ p,(nub (fun x=>key (f x)) p l).map f=nub key p (l.map f):=by
 induction l with
 | nil=>intro p;simp[nub]
 | cons x l ih =>
  intro p;rw[gR];unfold nub;split
  ·exact ih _
  ·rw[gR,ih]
theorem qkw {α:Type} (key:α->Int) (l:List α):∀ p,(nub key p l).length<=l.length:=by
 induction l with
 | nil=>intro p;simp[nub]
 | cons x l ih =>intro p;unfold nub;have:=ih (some (key x));split <;> simp only [List.length_cons] <;> omega
theorem qkx {α:Type} (key:α->Int) (l:List α):∀ p x,x∈nub key p l->x∈l:=by
 induction l with
 | nil=>intro p x h;simp[nub] at h
 | cons y l ih =>
  intro p x h;unfold nub at h;split at h
  ·exact bh _ (ih _ _ h)
  ·rcases gx.1 h with h | h
   ·rw[h];exact gV ..
   ·exact bh _ (ih _ _ h)
def qc5 (K:List Cl):List Cl:=nub Cl.id none (q26 K)
def qrd (K:List Cl) (d:Int):List Int:=((qc5 K).filter fun x=>x.dim == d).map Cl.id
end Go.Cx
namespace Go.Proofs.YtlhicnfeajejhaaGreatDoor
open Go.RowKit Go.Cx
attribute [local go_sem ↓] Go.wp_at_zero Go.wp_at_succ
theorem qdz (v:Value) (l:List Ce) (w:World) (h:SlC w v l) (hl:l.length<=1099511627776) (aK:∀ x∈l,x.s.length<=1099511627776) :
  Calls Tryz.prog 76 #[.agg #[v]] w fun e w'=>∃ r m,e = .returned r/\m.map Ce.cl=qc5 (l.map Ce.cl)/\q1p w' w.heap.size r m/\BwQ w w':=by
 obtain⟨a,len,cap,rfl⟩:=qg h.1;have HH:=lhd (h.mono fun p u hc=>qk hc (.cells #[.slice a len cap] 26));have iS:=lhd aK;clear h aK;go_enter Tryz.func76,Tryz.ntmps76;go_wp2_with fail;obtain⟨W,hW⟩ : ∃ W:World,W=w.alloc (.cells #[.slice a len cap] 26):=⟨_,rfl⟩
 rw[<-hW];rw[<-hW] at HH;have hw:BwQ w W:=by rw[hW];exact bal _ _
 clear hW;refine(q7s _ _ l _ rfl HH.out hl iS.out).mono ?_;rintro e w1 ⟨r,M,rfl,hM,hR,ai⟩;obtain⟨ma,mc,iX⟩:=qj hR.1;subst iX;have ak:BwQ w w1:=(btr hw ai);have na:M.length<=1099511627776:=by have:=congrArg List.length hM;rw[gn,q68,gn] at this;omega
 have UP:=(Sl.qc hR.1).open;obtain⟨AM,AN,_⟩:=UP;unfold maxLen at AN;obtain⟨n,hn⟩ : ∃ n,n=M.length:=⟨_,rfl⟩
 have HN:=lhd hn;have HM:=lhd hM;have AO:=Sl.qc hR.1;have HR:=lhd hR;rw[<-hn] at na AM AO ⊢;have HS:=lhd AO;have bR:w.heap.size<=w1.heap.size:=ak.size;have aV:=lhd ak;have E5:=hw.size;clear hn hM hR AO ai hw ak;go_wp2_with fail;go_loopw [4,5] (fun o i wr=>∃ j:Nat,i = .int .i64 j/\j<=n/\Hid (wr.ownsRow w1.heap.size 75 3 o (nub Ce.id none (M.take j)).length (cat Ce.enc (nub Ce.id none (M.take j))))/\BwQ w1 wr) (fun _ i _=>n - (vI i).toNat)
 case atStart=>exact⟨0,rfl,go _,(show Hid _ from World.ownsRow_nil _ _ _ _),Below.refl _ _⟩
 case round =>
  obtain⟨j,rfl,hj,HO,hB⟩:=hrel;obtain⟨oa,oc,ng⟩:=qj HO.out;subst ng;have bV:w1.heap.size<=wr.heap.size:=hB.size;by_cases hlt:j < n
  ·obtain⟨x,hx⟩ : ∃ x,M[j]? = some x:=⟨_,g8 (by rw[<-HN.out];exact hlt)⟩
   obtain⟨h2,h3,h4,h5,h6⟩:=HS.out.open;obtain⟨ad,aT⟩:=sadq h5 (by omega)
   subst aT;obtain⟨e0,e1,e2⟩:=zh M j x hx;have d0:wr.cell? (ad.add (j*3))=some (.int .i64 x.id):=Cx.q8 hB (h6 ad rfl _ _ e0);have d1:wr.cell? ⟨(ad.add (j*3)).block,(ad.add (j*3)).off+1,none⟩=some (.int .i64 x.dim):=by rw[qi _ _ _ (by omega)];exact Cx.q8 hB (h6 ad rfl _ _ e1)
   have d2:wr.cell? ⟨(ad.add (j*3)).block,(ad.add (j*3)).off+2,none⟩=some (.slice x.a x.n x.c):=by rw[qi _ _ _ (by omega)];exact Cx.q8 hB (h6 ad rfl _ _ e2)
   have bZ:nub Ce.id none (M.take (j+1))=nub Ce.id none (M.take j)++(if q4p Ce.id none (M.take j)=some x.id then [] else [x]):=by rw[gq,hx];exact qhz _ _ _ _
   have lK:(nub Ce.id none (M.take j)).length<=j:=gl (qkw _ _ _) (by rw[gd];omega);obtain⟨nl,iY⟩ : ∃ nl,nl=(nub Ce.id none (M.take j)).length:=⟨_,rfl⟩
   rw[<-iY] at lK HO ⊢;have oJ:=lhd iY;have cr:=lhd bZ;clear e0 e1 e2 bZ iY;by_cases h0:j=0
   ·have db:nub Ce.id none (M.take (j+1))=nub Ce.id none (M.take j)++[x]:=by rw[cr.out,h0];simp[q4p]
    have sw:=lhd db;have hj0:((j:Int) == 0)=true:=by rw[h0];rfl
    clear h0;clear db h2 h3 h4 h5 h6 hx;go_wp2_with fail
    go_quiet (fail)
    obtain⟨V,hV⟩ : ∃ V:World,V=wr.drewN nq:=⟨_,rfl⟩
    rw[<-hV];have ei:BwQ wr V:=by rw[hV];exact qb (Below.refl _ _) _
    have aN:BwQ w1 V:=hB.trans (ei.mono bV);have AJ:=lhd (qa HO.out ei);have lJ:w1.heap.size<=V.heap.size:=aN.size
    replace d0:=Cx.q8 ei d0
    replace d1:=Cx.q8 ei d1
    replace d2:=Cx.q8 ei d2
    clear hV ei;go_wp2_with (at_builtin;go_loud (refine qo (W:=w1) rfl _ _ 24 rfl w1.heap.size 75 Tryz.ke Tryz.underlying24 rfl (by decide) (by decide) _ _ _ rfl AJ.out [.int .i64 x.id,.int .i64 x.dim,.slice x.a x.n x.c] rfl rfl (Ce.xu x) (by omega) aN lJ ?_));intro v5 w5 aZ _ aB;have F5:=lhd (aiq aZ aB);clear aZ aB;go_wp2;go_roundw
    case measure=>simp[vI];omega
    case rel =>refine⟨j+1,qh (by omega),by omega,(show Hid _ from ?_),F5.out.2⟩;rw[sw.out,gc,<-oJ.out,x9,q1c];exact F5.out.1
   ·obtain⟨m,hm⟩ : ∃ m,j=m+1:=⟨j - 1,by omega⟩
    obtain⟨y,hy⟩ : ∃ y,M[m]? = some y:=⟨_,g8 (by rw[<-HN.out];omega)⟩
    have f0:wr.cell? (ad.add (m*3))=some (.int .i64 y.id):=Cx.q8 hB (h6 ad rfl _ _ (zh M m y hy).1);have i7:q4p Ce.id none (M.take j)=some y.id:=by unfold q4p;rw[hm,gq,hy,List.getLast?_append];rfl
    rw[i7] at cr;have hj0:((j:Int) == 0)=false:=by simp;omega
    have qB:(j:Int) - 1=(m:Int):=by omega
    clear h2 h3 h4 h5 h6 hx hy i7 h0 hm;by_cases al:x.id=y.id
    ·have hb:(x.id != y.id)=false:=by simpa using al
     have db:nub Ce.id none (M.take (j+1))=nub Ce.id none (M.take j):=by rw[cr.out,if_pos (by rw[al]),gH]
     have sw:=lhd db;clear db al;go_wp2_with fail
     go_quiet (fail)
     go_wp2;go_roundw
     case measure=>simp[vI];omega
     case rel=>exact⟨j+1,qh (by omega),by omega,(show Hid _ from by rw[sw.out,<-oJ.out];exact qa HO.out (qb (Below.refl _ _) nq)),qb hB nq⟩
    ·have hb:(x.id != y.id)=true:=by simpa using al
     have db:nub Ce.id none (M.take (j+1))=nub Ce.id none (M.take j)++[x]:=by rw[cr.out,if_neg (fun e=>al (osi e).symm)]
     have sw:=lhd db;clear db al;go_wp2_with fail
     go_quiet (fail)
     obtain⟨V,hV⟩ : ∃ V:World,V=wr.drewN nq:=⟨_,rfl⟩
     rw[<-hV];have ei:BwQ wr V:=by rw[hV];exact qb (Below.refl _ _) _
     have aN:BwQ w1 V:=hB.trans (ei.mono bV);have AJ:=lhd (qa HO.out ei);have lJ:w1.heap.size<=V.heap.size:=aN.size
     replace d0:=Cx.q8 ei d0
     replace d1:=Cx.q8 ei d1
     replace d2:=Cx.q8 ei d2
     clear hV ei;go_wp2_with (at_builtin;go_loud (refine qo (W:=w1) rfl _ _ 24 rfl w1.heap.size 75 Tryz.ke Tryz.underlying24 rfl (by decide) (by decide) _ _ _ rfl AJ.out [.int .i64 x.id,.int .i64 x.dim,.slice x.a x.n x.c] rfl rfl (Ce.xu x) (by omega) aN lJ ?_));intro v5 w5 aZ _ aB;have F5:=lhd (aiq aZ aB);clear aZ aB;go_wp2;go_roundw
     case measure=>simp[vI];omega
     case rel =>refine⟨j+1,qh (by omega),by omega,(show Hid _ from ?_),F5.out.2⟩;rw[sw.out,gc,<-oJ.out,x9,q1c];exact F5.out.1
  ·have cO:M.take j=M:=gm (by rw[<-HN.out];omega);rw[cO] at HO ⊢;clear cO;go_wp2;go_ret;refine⟨_,nub Ce.id none M,rfl,?_,⟨qf HO.out bR,fun x hx=>qa (qf (HR.out.2 x (qkx _ _ _ _ hx)) ?_) hB⟩,aV.out.trans (hB.mono bR)⟩
   ·rw[show nub Ce.id none M=nub (fun x=>Cl.id (Ce.cl x)) none M from rfl,qkv,HM.out];rfl
   ·exact E5
def idc (d:Int) (l:List Ce):List Int:=(l.filter fun x=>x.dim == d).map Ce.id
theorem qsw (d:Int) (l:List Ce) (x:Ce):idc d (l++[x])=idc d l++(if (x.dim == d)=true then [x.id] else []):=by
 unfold idc;rw[bm,br];by_cases h:(x.dim == d)=true
 ·rw[if_pos h,List.filter_cons,if_pos h];rfl
 ·rw[if_neg h,List.filter_cons,if_neg h];rfl
theorem qt6 (d:Int) (l:List Ce):(idc d l).length<=l.length:=by unfold idc;rw[gn];exact gQ _ _
theorem qtf (d:Int) (l:List Ce):((l.map Ce.cl).filter fun x=>x.dim == d).map Cl.id=idc d l:=by unfold idc;rw[List.filter_map,List.map_map];rfl
theorem qth (v:Value) (l:List Ce) (d:Int) (w:World) (h:SlC w v l) (hl:l.length<=1099511627776) (aK:∀ x∈l,x.s.length<=1099511627776) :
  Calls Tryz.prog 19 #[.agg #[v],.int .i64 d] w fun e w'=>∃ r,e = .returned r/\w'.ownsRow w.heap.size 3 1 r (qrd (l.map Ce.cl) d).length (ints (qrd (l.map Ce.cl) d))/\BwQ w w':=by
 obtain⟨a,len,cap,rfl⟩:=qg h.1;have HH:=lhd (h.mono fun p u hc=>qk hc (.cells #[.slice a len cap] 26));have iS:=lhd aK;clear h aK;go_enter Tryz.func19,Tryz.ntmps19;go_wp2_with fail;obtain⟨W,hW⟩ : ∃ W:World,W=w.alloc (.cells #[.slice a len cap] 26):=⟨_,rfl⟩
 rw[<-hW];rw[<-hW] at HH;have hw:BwQ w W:=by rw[hW];exact bal _ _
 clear hW;refine(qdz _ l _ HH.out hl iS.out).mono ?_;rintro e w1 ⟨r,M,rfl,hM,hR,ai⟩;obtain⟨ma,mc,iX⟩:=qj hR.1;subst iX;have ak:BwQ w w1:=(btr hw ai);have na:M.length<=1099511627776:=by have:=congrArg List.length hM;have h2:=qkw Cl.id (q26 (l.map Ce.cl)) none;unfold qc5 at this;rw[gn] at this;rw[q68,gn] at h2;omega
 obtain⟨AM,AN,_⟩:=(Sl.qc hR.1).open;unfold maxLen at AN;obtain⟨n,hn⟩ : ∃ n,n=M.length:=⟨_,rfl⟩
 have HN:=lhd hn;have HM:=lhd hM;have AO:=Sl.qc hR.1;rw[<-hn] at na AM AO ⊢;have HS:=lhd AO;have bR:w.heap.size<=w1.heap.size:=ak.size;have aV:=lhd ak;clear hn hM hR AO ai hw ak;go_wp2_with fail;go_loopw [5,7] (fun o i wr=>∃ j:Nat,i = .int .i64 j/\j<=n/\Hid (wr.ownsRow w1.heap.size 3 1 o (idc d (M.take j)).length (ints (idc d (M.take j))))/\BwQ w1 wr) (fun _ i _=>n - (vI i).toNat)
 case atStart=>exact⟨0,rfl,go _,(show Hid _ from World.ownsRow_nil _ _ _ _),Below.refl _ _⟩
 case round =>
  obtain⟨j,rfl,hj,HO,hB⟩:=hrel;obtain⟨oa,oc,ng⟩:=qj HO.out;subst ng;have bV:w1.heap.size<=wr.heap.size:=hB.size;by_cases hlt:j < n
  ·obtain⟨x,hx⟩ : ∃ x,M[j]? = some x:=⟨_,g8 (by rw[<-HN.out];exact hlt)⟩
   obtain⟨h2,h3,h4,h5,h6⟩:=HS.out.open;obtain⟨ad,aT⟩:=sadq h5 (by omega)
   subst aT;obtain⟨e0,e1,e2⟩:=zh M j x hx;have d0:wr.cell? (ad.add (j*3))=some (.int .i64 x.id):=Cx.q8 hB (h6 ad rfl _ _ e0);have d1:wr.cell? ⟨(ad.add (j*3)).block,(ad.add (j*3)).off+1,none⟩=some (.int .i64 x.dim):=by rw[qi _ _ _ (by omega)];exact Cx.q8 hB (h6 ad rfl _ _ e1)
   have bZ:idc d (M.take (j+1))=idc d (M.take j)++(if (x.dim == d)=true then [x.id] else []):=by rw[gq,hx];exact qsw _ _ _
   have lK:(idc d (M.take j)).length<=j:=gl (qt6 _ _) (by rw[gd];omega);obtain⟨nl,iY⟩ : ∃ nl,nl=(idc d (M.take j)).length:=⟨_,rfl⟩
   rw[<-iY] at lK HO ⊢;have oJ:=lhd iY;have cr:=lhd bZ;clear e0 e1 e2 bZ iY h2 h3 h4 h5 h6 hx;by_cases hd:x.dim=d
   ·have hd1:(x.dim == d)=true:=by simpa using hd
    rw[if_pos hd1] at cr;clear hd;go_wp2_with (at_builtin;go_loud (refine qo (W:=w1) rfl _ _ 22 rfl w1.heap.size 3 Tryz.xg Tryz.underlying22 rfl (by decide) (by decide) _ _ _ rfl HO.out [.int .i64 x.id] rfl rfl (q5v _) (by omega) hB bV ?_));intro v5 w5 aZ _ aB;have F5:=lhd (aiq aZ aB);clear aZ aB;go_wp2;go_roundw
    case measure=>simp[vI];omega
    case rel =>refine⟨j+1,qh (by omega),by omega,(show Hid _ from ?_),F5.out.2⟩;rw[cr.out,gc,<-oJ.out,j3];exact F5.out.1
   ·have hd1:(x.dim == d)=false:=by simpa using hd
    rw[if_neg (by rw[hd1];exact Bool.false_ne_true),gH] at cr;clear hd;go_wp2;go_roundw
    case measure=>simp[vI];omega
    case rel=>exact⟨j+1,qh (by omega),by omega,(show Hid _ from by rw[cr.out,<-oJ.out];exact HO.out),hB⟩
  ·have cO:M.take j=M:=gm (by rw[<-HN.out];omega);rw[cO] at HO ⊢;clear cO;go_wp2;go_ret;refine⟨_,rfl,?_,aV.out.trans (hB.mono bR)⟩;unfold qrd;rw[<-HM.out,qtf];exact qf HO.out bR
theorem mod_eq (n m:Int) (h1:1<=m):(n.tmod m+m) % m=n % m:=by
 rw[Int.add_emod_right,Int.tmod_eq_emod];split
 ·simp
 ·rw[Int.sub_emod];have:(m.natAbs:Int) % m=0:=by rw[show (m.natAbs:Int)=m by omega,Int.emod_self]
  rw[this,Int.sub_zero,Int.emod_emod,Int.emod_emod]
end Go.Proofs.YtlhicnfeajejhaaGreatDoor
