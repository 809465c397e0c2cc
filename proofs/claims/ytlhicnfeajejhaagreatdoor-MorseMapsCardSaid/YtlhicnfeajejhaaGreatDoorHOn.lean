/- Steps towards MorseMaps. Conditions: none. -/
import Derived.Deep.DeepCutAuto
import Derived.Test.YtlhicnfeajejhaaGreatDoorHOj
set_option maxRecDepth 1000000
set_option maxHeartbeats 16000000
namespace Go.Cx
open Go.RowKit
def nub {α:Type} (key:α->Int):Option Int->List α->List α
 | _,[]=>[]
 | p,x :: l=>if p=some (key x) then nub key (some (key x)) l else x :: nub key (some (key x)) l
def q4p {α:Type} (key:α->Int) (p:Option Int) (l:List α):Option Int:=match l.getLast? with
 | none=>p
 | some y=>some (key y)
theorem qhz {α:Type} (key:α->Int) (x:α) (l:List α):∀ p,nub key p (l++[x])=nub key p l++(if q4p key p l=some (key x) then [] else [x]):=by
 induction l with
 | nil=>intro p;show (if _ then _ else _)=[]++(if _ then _ else _);rfl
 | cons y l ih =>
  intro p;have e:q4p key (some (key y)) l=q4p key p (y :: l):=by
   unfold q4p;rw[List.getLast?_cons];cases l.getLast? <;> rfl
  rw[bh];unfold nub;rw[ih,e];split <;> simp
theorem qkv {α β:Type} (key:β->Int) (f:α->β) (l:List α):∀ p,(nub (fun x=>key (f x)) p l).map f=nub key p (l.map f):=by
 induction l with
 | nil=>intro p;simp[nub]
 | cons x l ih =>
  intro p;rw[gP];unfold nub;split
  ·exact ih _
  ·rw[gP,ih]
theorem qkw {α:Type} (key:α->Int) (l:List α):∀ p,(nub key p l).length<=l.length:=by
 induction l with
 | nil=>intro p;simp[nub]
 | cons x l ih =>
  intro p;unfold nub;have:=ih (some (key x));split <;> simp only [List.length_cons] <;> omega
theorem qkx {α:Type} (key:α->Int) (l:List α):∀ p x,x∈nub key p l->x∈l:=by
 induction l with
 | nil=>intro p x h;simp[nub] at h
 | cons y l ih =>
  intro p x h;unfold nub at h;split at h
  ·exact bg _ (ih _ _ h)
  ·rcases gw.1 h with h | h
   ·rw[h];exact gT ..
   ·exact bg _ (ih _ _ h)
def qc5 (K:List Cl):List Cl:=nub Cl.id none (q26 K)
def qry (K:List Cl) (d:Int):List Int:=((qc5 K).filter fun x=>x.dim == d).map Cl.id
end Go.Cx
namespace Go.Proofs.YtlhicnfeajejhaaGreatDoor
open Go.RowKit Go.Cx
attribute [local go_sem ↓] Go.wp_at_zero Go.wp_at_succ
theorem qrz (l:List Cl):∀ x∈q26 l,∃ y∈l,x.id=y.id/\x.dim=y.dim/\x.s=zx y.s:=by
 fun_induction q26 l with
 | case1 l h =>
  intro x hx;obtain⟨y,hy,rfl⟩:=go.1 hx;exact⟨y,hy,rfl,rfl,rfl⟩
 | case2 l h uh oO =>
  intro x hx;rcases qkr _ _ _ _ hx with hx | hx
  ·obtain⟨y,hy,h⟩:=uh x hx;exact⟨y,gK hy,h⟩
  ·obtain⟨y,hy,h⟩:=oO x hx;exact⟨y,br hy,h⟩
theorem qdz (v:Value) (l:List Ce) (w:World) (h:SlC w v l) (hl:l.length<=1099511627776) (aW:∀ x∈l,x.s.length<=1099511627776) :
  Calls Tryz.prog 76 #[.agg #[v]] w fun e w'=>∃ r m,e = .returned r/\m.map Ce.cl=qc5 (l.map Ce.cl)/\q1p w' w.heap.size r m/\Below w.heap.size w w':=by
 obtain⟨a,len,cap,rfl⟩:=qg h.1;have HH:=lhd (h.mono fun p u hc=>qk hc (.cells #[.slice a len cap] 26));have fR:=lhd aW;clear h aW;go_enter Tryz.func76,Tryz.ntmps76;go_wp2_with fail;obtain⟨W,hW⟩ : ∃ W:World,W=w.alloc (.cells #[.slice a len cap] 26):=⟨_,rfl⟩
 rw[<-hW];rw[<-hW] at HH;have hw:Below w.heap.size w W:=by rw[hW];exact(Below.refl _ _).alloc (nlr _) _
 clear hW;refine(q7s _ _ l _ rfl HH.out hl fR.out).mono ?_;rintro e w1 ⟨r,M,rfl,hM,hR,aj⟩;obtain⟨ma,mc,fV⟩:=qj hR.1;subst fV;have ak:Below w.heap.size w w1:=hw.trans (aj.mono hw.size);have tZ:M.length<=1099511627776:=by
  have:=congrArg List.length hM;rw[gn,q68,gn] at this;omega
 have Gy:=(Sl.qc hR.1).open;obtain⟨uk,rJ,_⟩:=Gy;unfold maxLen at rJ;obtain⟨n,hn⟩ : ∃ n,n=M.length:=⟨_,rfl⟩
 have HN:=lhd hn;have HM:=lhd hM;have Aa:=Sl.qc hR.1;have HR:=lhd hR;rw[<-hn] at tZ uk Aa ⊢;have HS:=lhd Aa;have cj:w.heap.size<=w1.heap.size:=ak.size;have aV:=lhd ak;have DG:=hw.size;clear hn hM hR Aa aj hw ak;go_wp2_with fail;go_loopw [4,5] (fun o i wr=>∃ j:Nat,i = .int .i64 j/\j<=n/\Hid (wr.ownsRow w1.heap.size 75 3 o (nub Ce.id none (M.take j)).length (cat Ce.enc (nub Ce.id none (M.take j))))/\Below w1.heap.size w1 wr) (fun _ i _=>n - (vI i).toNat)
 case atStart=>exact⟨0,rfl,gp _,(show Hid _ from World.ownsRow_nil _ _ _ _),Below.refl _ _⟩
 case round =>
  obtain⟨j,rfl,hj,HO,hB⟩:=hrel;obtain⟨oa,oc,oW⟩:=qj HO.out;subst oW;have cp:w1.heap.size<=wr.heap.size:=hB.size;by_cases hlt:j < n
  ·obtain⟨x,hx⟩ : ∃ x,M[j]? = some x:=⟨_,g8 (by rw[<-HN.out];exact hlt)⟩
   obtain⟨h2,h3,h4,h5,h6⟩:=HS.out.open;obtain⟨ad,aX⟩ : ∃ ad,ma=some ad:=by
    cases ma with
    | none=>have:=h5 rfl;omega
    | some ad=>exact⟨ad,rfl⟩
   subst aX;obtain⟨e0,e1,e2⟩:=zh M j x hx;have d0:wr.cell? (ad.add (j*3))=some (.int .i64 x.id):=Cx.q8 hB (h6 ad rfl _ _ e0);have d1:wr.cell? ⟨(ad.add (j*3)).block,(ad.add (j*3)).off+1,none⟩=some (.int .i64 x.dim):=by rw[qi _ _ _ (by omega)];exact Cx.q8 hB (h6 ad rfl _ _ e1)
   have d2:wr.cell? ⟨(ad.add (j*3)).block,(ad.add (j*3)).off+2,none⟩=some (.slice x.a x.n x.c):=by rw[qi _ _ _ (by omega)];exact Cx.q8 hB (h6 ad rfl _ _ e2)
   have cw:nub Ce.id none (M.take (j+1))=nub Ce.id none (M.take j)++(if q4p Ce.id none (M.take j)=some x.id then [] else [x]):=by
    rw[gq,hx];exact qhz _ _ _ _
   have tp:(nub Ce.id none (M.take j)).length<=j:=gl (qkw _ _ _) (by rw[gd];omega);obtain⟨nl,oz⟩ : ∃ nl,nl=(nub Ce.id none (M.take j)).length:=⟨_,rfl⟩
   rw[<-oz] at tp HO ⊢;have BN:=lhd oz;have cW:=lhd cw;clear e0 e1 e2 cw oz;by_cases h0:j=0
   ·have cP:nub Ce.id none (M.take (j+1))=nub Ce.id none (M.take j)++[x]:=by rw[cW.out,h0];simp[q4p]
    have qY:=lhd cP;have hj0:((j:Int) == 0)=true:=by rw[h0];rfl
    clear h0;clear cP h2 h3 h4 h5 h6 hx;go_wp2_with fail
    go_quiet (fail)
    obtain⟨V,hV⟩ : ∃ V:World,V=wr.drewN nq:=⟨_,rfl⟩
    rw[<-hV];have dT:Below wr.heap.size wr V:=by rw[hV];exact qb (Below.refl _ _) _
    have aK:Below w1.heap.size w1 V:=hB.trans (dT.mono cp);have zX:=lhd (qa HO.out dT);have kF:w1.heap.size<=V.heap.size:=aK.size
    replace d0:=Cx.q8 dT d0
    replace d1:=Cx.q8 dT d1
    replace d2:=Cx.q8 dT d2
    clear hV dT;go_wp2_with (at_builtin;go_loud (refine qo (W:=w1) rfl _ _ 24 rfl w1.heap.size 75 Tryz.ke Tryz.underlying24 rfl (by decide) (by decide) _ _ _ rfl zX.out [.int .i64 x.id,.int .i64 x.dim,.slice x.a x.n x.c] rfl rfl (Ce.xu x) (by omega) aK kF ?_));intro v5 w5 bT _ aH;have F5:=lhd (aiq bT aH);clear bT aH;go_wp2;go_roundw
    case measure=>simp[vI];omega
    case rel =>
     refine⟨j+1,qh (by omega),by omega,(show Hid _ from ?_),F5.out.2⟩;rw[qY.out,gc,<-BN.out,x9,q1c];exact F5.out.1
   ·obtain⟨m,hm⟩ : ∃ m,j=m+1:=⟨j - 1,by omega⟩
    obtain⟨y,hy⟩ : ∃ y,M[m]? = some y:=⟨_,g8 (by rw[<-HN.out];omega)⟩
    have f0:wr.cell? (ad.add (m*3))=some (.int .i64 y.id):=Cx.q8 hB (h6 ad rfl _ _ (zh M m y hy).1);have eA:q4p Ce.id none (M.take j)=some y.id:=by
     unfold q4p;rw[hm,gq,hy,List.getLast?_append];rfl
    rw[eA] at cW;have hj0:((j:Int) == 0)=false:=by simp;omega
    have oE:(j:Int) - 1=(m:Int):=by omega
    clear h2 h3 h4 h5 h6 hx hy eA h0 hm;by_cases aq:x.id=y.id
    ·have hb:(x.id != y.id)=false:=by simpa using aq
     have cP:nub Ce.id none (M.take (j+1))=nub Ce.id none (M.take j):=by rw[cW.out,if_pos (by rw[aq]),gN]
     have qY:=lhd cP;clear cP aq;go_wp2_with fail
     go_quiet (fail)
     go_wp2;go_roundw
     case measure=>simp[vI];omega
     case rel=>exact⟨j+1,qh (by omega),by omega,(show Hid _ from by rw[qY.out,<-BN.out];exact qa HO.out (qb (Below.refl _ _) nq)),qb hB nq⟩
    ·have hb:(x.id != y.id)=true:=by simpa using aq
     have cP:nub Ce.id none (M.take (j+1))=nub Ce.id none (M.take j)++[x]:=by rw[cW.out,if_neg (fun e=>aq (osi e).symm)]
     have qY:=lhd cP;clear cP aq;go_wp2_with fail
     go_quiet (fail)
     obtain⟨V,hV⟩ : ∃ V:World,V=wr.drewN nq:=⟨_,rfl⟩
     rw[<-hV];have dT:Below wr.heap.size wr V:=by rw[hV];exact qb (Below.refl _ _) _
     have aK:Below w1.heap.size w1 V:=hB.trans (dT.mono cp);have zX:=lhd (qa HO.out dT);have kF:w1.heap.size<=V.heap.size:=aK.size
     replace d0:=Cx.q8 dT d0
     replace d1:=Cx.q8 dT d1
     replace d2:=Cx.q8 dT d2
     clear hV dT;go_wp2_with (at_builtin;go_loud (refine qo (W:=w1) rfl _ _ 24 rfl w1.heap.size 75 Tryz.ke Tryz.underlying24 rfl (by decide) (by decide) _ _ _ rfl zX.out [.int .i64 x.id,.int .i64 x.dim,.slice x.a x.n x.c] rfl rfl (Ce.xu x) (by omega) aK kF ?_));intro v5 w5 bT _ aH;have F5:=lhd (aiq bT aH);clear bT aH;go_wp2;go_roundw
     case measure=>simp[vI];omega
     case rel =>
      refine⟨j+1,qh (by omega),by omega,(show Hid _ from ?_),F5.out.2⟩;rw[qY.out,gc,<-BN.out,x9,q1c];exact F5.out.1
  ·have dx:M.take j=M:=gm (by rw[<-HN.out];omega);rw[dx] at HO ⊢;clear dx;go_wp2;go_ret;refine⟨_,nub Ce.id none M,rfl,?_,⟨qf HO.out cj,fun x hx=>qa (qf (HR.out.2 x (qkx _ _ _ _ hx)) ?_) hB⟩,aV.out.trans (hB.mono cj)⟩
   ·rw[show nub Ce.id none M=nub (fun x=>Cl.id (Ce.cl x)) none M from rfl,qkv,HM.out];rfl
   ·exact DG
def idc (d:Int) (l:List Ce):List Int:=(l.filter fun x=>x.dim == d).map Ce.id
theorem qsy (d:Int) (l:List Ce) (x:Ce):idc d (l++[x])=idc d l++(if (x.dim == d)=true then [x.id] else []):=by
 unfold idc;rw[bB,bm];by_cases h:(x.dim == d)=true
 ·rw[if_pos h,List.filter_cons,if_pos h];rfl
 ·rw[if_neg h,List.filter_cons,if_neg h];rfl
theorem qtx (d:Int) (l:List Ce):(idc d l).length<=l.length:=by
 unfold idc;rw[gn];exact gR _ _
theorem quh (d:Int) (l:List Ce):((l.map Ce.cl).filter fun x=>x.dim == d).map Cl.id=idc d l:=by
 unfold idc;rw[List.filter_map,List.map_map];rfl
theorem quq (v:Value) (l:List Ce) (d:Int) (w:World) (h:SlC w v l) (hl:l.length<=1099511627776) (aW:∀ x∈l,x.s.length<=1099511627776) :
  Calls Tryz.prog 19 #[.agg #[v],.int .i64 d] w fun e w'=>∃ r,e = .returned r/\w'.ownsRow w.heap.size 3 1 r (qry (l.map Ce.cl) d).length (ints (qry (l.map Ce.cl) d))/\Below w.heap.size w w':=by
 obtain⟨a,len,cap,rfl⟩:=qg h.1;have HH:=lhd (h.mono fun p u hc=>qk hc (.cells #[.slice a len cap] 26));have fR:=lhd aW;clear h aW;go_enter Tryz.func19,Tryz.ntmps19;go_wp2_with fail;obtain⟨W,hW⟩ : ∃ W:World,W=w.alloc (.cells #[.slice a len cap] 26):=⟨_,rfl⟩
 rw[<-hW];rw[<-hW] at HH;have hw:Below w.heap.size w W:=by rw[hW];exact(Below.refl _ _).alloc (nlr _) _
 clear hW;refine(qdz _ l _ HH.out hl fR.out).mono ?_;rintro e w1 ⟨r,M,rfl,hM,hR,aj⟩;obtain⟨ma,mc,fV⟩:=qj hR.1;subst fV;have ak:Below w.heap.size w w1:=hw.trans (aj.mono hw.size);have tZ:M.length<=1099511627776:=by
  have:=congrArg List.length hM;have h2:=qkw Cl.id (q26 (l.map Ce.cl)) none;unfold qc5 at this;rw[gn] at this;rw[q68,gn] at h2;omega
 obtain⟨uk,rJ,_⟩:=(Sl.qc hR.1).open;unfold maxLen at rJ;obtain⟨n,hn⟩ : ∃ n,n=M.length:=⟨_,rfl⟩
 have HN:=lhd hn;have HM:=lhd hM;have Aa:=Sl.qc hR.1;rw[<-hn] at tZ uk Aa ⊢;have HS:=lhd Aa;have cj:w.heap.size<=w1.heap.size:=ak.size;have aV:=lhd ak;clear hn hM hR Aa aj hw ak;go_wp2_with fail;go_loopw [5,7] (fun o i wr=>∃ j:Nat,i = .int .i64 j/\j<=n/\Hid (wr.ownsRow w1.heap.size 3 1 o (idc d (M.take j)).length (ints (idc d (M.take j))))/\Below w1.heap.size w1 wr) (fun _ i _=>n - (vI i).toNat)
 case atStart=>exact⟨0,rfl,gp _,(show Hid _ from World.ownsRow_nil _ _ _ _),Below.refl _ _⟩
 case round =>
  obtain⟨j,rfl,hj,HO,hB⟩:=hrel;obtain⟨oa,oc,oW⟩:=qj HO.out;subst oW;have cp:w1.heap.size<=wr.heap.size:=hB.size;by_cases hlt:j < n
  ·obtain⟨x,hx⟩ : ∃ x,M[j]? = some x:=⟨_,g8 (by rw[<-HN.out];exact hlt)⟩
   obtain⟨h2,h3,h4,h5,h6⟩:=HS.out.open;obtain⟨ad,aX⟩ : ∃ ad,ma=some ad:=by
    cases ma with
    | none=>have:=h5 rfl;omega
    | some ad=>exact⟨ad,rfl⟩
   subst aX;obtain⟨e0,e1,e2⟩:=zh M j x hx;have d0:wr.cell? (ad.add (j*3))=some (.int .i64 x.id):=Cx.q8 hB (h6 ad rfl _ _ e0);have d1:wr.cell? ⟨(ad.add (j*3)).block,(ad.add (j*3)).off+1,none⟩=some (.int .i64 x.dim):=by rw[qi _ _ _ (by omega)];exact Cx.q8 hB (h6 ad rfl _ _ e1)
   have cw:idc d (M.take (j+1))=idc d (M.take j)++(if (x.dim == d)=true then [x.id] else []):=by
    rw[gq,hx];exact qsy _ _ _
   have tp:(idc d (M.take j)).length<=j:=gl (qtx _ _) (by rw[gd];omega);obtain⟨nl,oz⟩ : ∃ nl,nl=(idc d (M.take j)).length:=⟨_,rfl⟩
   rw[<-oz] at tp HO ⊢;have BN:=lhd oz;have cW:=lhd cw;clear e0 e1 e2 cw oz h2 h3 h4 h5 h6 hx;by_cases hd:x.dim=d
   ·have hd1:(x.dim == d)=true:=by simpa using hd
    rw[if_pos hd1] at cW;clear hd;go_wp2_with (at_builtin;go_loud (refine qo (W:=w1) rfl _ _ 22 rfl w1.heap.size 3 Tryz.xg Tryz.underlying22 rfl (by decide) (by decide) _ _ _ rfl HO.out [.int .i64 x.id] rfl rfl (q5v _) (by omega) hB cp ?_));intro v5 w5 bT _ aH;have F5:=lhd (aiq bT aH);clear bT aH;go_wp2;go_roundw
    case measure=>simp[vI];omega
    case rel =>
     refine⟨j+1,qh (by omega),by omega,(show Hid _ from ?_),F5.out.2⟩;rw[cW.out,gc,<-BN.out,j3];exact F5.out.1
   ·have hd1:(x.dim == d)=false:=by simpa using hd
    rw[if_neg (by rw[hd1];exact Bool.false_ne_true),gN] at cW;clear hd;go_wp2;go_roundw
    case measure=>simp[vI];omega
    case rel=>exact⟨j+1,qh (by omega),by omega,(show Hid _ from by rw[cW.out,<-BN.out];exact HO.out),hB⟩
  ·have dx:M.take j=M:=gm (by rw[<-HN.out];omega);rw[dx] at HO ⊢;clear dx;go_wp2;go_ret;refine⟨_,rfl,?_,aV.out.trans (hB.mono cj)⟩;unfold qry;rw[<-HM.out,quh];exact qf HO.out cj
theorem mod_eq (n m:Int) (h1:1<=m):(n.tmod m+m) % m=n % m:=by
 rw[Int.add_emod_right,Int.tmod_eq_emod];split
 ·simp
 ·rw[Int.sub_emod];have:(m.natAbs:Int) % m=0:=by rw[show (m.natAbs:Int)=m by omega,Int.emod_self]
  rw[this,Int.sub_zero,Int.emod_emod,Int.emod_emod]
theorem quc (n m:Int) (w:World) (h1:1<=m) (h2:m<=1000):Calls Tryz.prog 17 #[.int .i64 n,.int .i64 m] w fun e w'=>e = .returned (.int .i64 (n % m))/\Below w.heap.size w w':=by
 have hm:¬ m=0:=by omega
 have h3:=Int.lt_tmod_of_pos n (show 0 < m by omega);have h4:=Int.tmod_lt_of_pos n (show 0 < m by omega);have he:=mod_eq n m h1;have HE:=lhd he;clear he;go_enter Tryz.func17,Tryz.ntmps17;go_wp2;go_ret;exact⟨by rw[<-HE.out];rfl,Below.refl _ _⟩
theorem qsp {L L':List (Int×Int)} {c x:Int} (h:Ins L L' c x) {A:List Int} (hL:Cn L) (hA:∀ p∈L,p.1∈A) (hc:c∈A) {k:Nat} (hk:∀ p∈L,p.2.natAbs<=3*k) (hx:x.natAbs<=3):(∀ p∈L',p.1∈A)/\∀ p∈L',p.2.natAbs<=3*(k+1):=by
 have et:∀ d,(co L d).natAbs<=3*k:=fun d=>by
  rcases Classical.em (∃ p∈L,p.1=d) with ⟨p,hp,rfl⟩ | hn
  ·rw[zl hL.1 hp];exact hk p hp
  ·rw[qks fun p hp e=>hn ⟨p,hp,e⟩];simp
 refine⟨fun p hp=>?_,fun p hp=>?_⟩
 ·rcases h.mem p hp with h1 | ⟨q,hq,h1⟩
  ·rw[h1];exact hc
  ·rw[<-h1];exact hA q hq
 ·have h1:=h.co p.1;rw[zl h.cn.1 hp] at h1;have h2:=et p.1;rw[h1];split <;> omega
theorem qui (v u:Value) (l:List Ce) (d:Int) (cs:List Int) (w:World) (h:SlC w v l) (k:Sl w 1 u (ints cs)) (hl:l.length<=1099511627776) (aW:∀ x∈l,x.s.length<=1099511627776) (hid:∀ x∈l,I64 x.id) :
  Calls Tryz.prog 62 #[.agg #[v],.int .i64 d,u] w fun e w'=>∃ r L,e = .returned r/\Cn L/\L.length<=l.length/\(∀ p∈L,p.1∈qry (l.map Ce.cl) d)/\(∀ p∈L,p.2.natAbs<=3*l.length)/\w'.ownsRow w.heap.size 71 3 r L.length (tv (ctm L))/\Below w.heap.size w w':=by
 obtain⟨a,len,cap,rfl⟩:=qg h.1;obtain⟨ca,m,cc,rfl⟩:=qg k;have ff:m=cs.length:=by
  obtain⟨_,_,h3,_⟩:=k.open;rw[xl] at h3;omega
 obtain⟨uk,rJ,_⟩:=k.open;unfold maxLen at rJ;have HH:=lhd (h.mono fun p u hc=>qk hc (.cells #[.slice a len cap] 26));have HK:=lhd k;have UF:=lhd ff;have fR:=lhd aW;clear h k aW ff;go_enter Tryz.func62,Tryz.ntmps62;go_wp2_with fail;obtain⟨W,hW⟩ : ∃ W:World,W=w.alloc (.cells #[.slice a len cap] 26):=⟨_,rfl⟩
 rw[<-hW];rw[<-hW] at HH;have hw:Below w.heap.size w W:=by rw[hW];exact(Below.refl _ _).alloc (nlr _) _
 clear hW;refine(quq _ l d _ HH.out hl fR.out).mono ?_;rintro e w1 ⟨r,rfl,hR,aj⟩;obtain⟨A,hA⟩ : ∃ A,A=qry (l.map Ce.cl) d:=⟨_,rfl⟩
 rw[<-hA] at hR;obtain⟨ra,rc,fV⟩:=qj hR;subst fV;have qC:A.length<=l.length:=by
  rw[hA];unfold qry qc5;rw[gn];refine gl (gR _ _) (gl (qkw _ _ _) ?_);rw[q68,gn];exact nlr _
 have Pf:∀ x∈A,I64 x:=fun x hx=>by
  rw[hA] at hx;obtain⟨y,hy,rfl⟩:=go.1 hx;obtain⟨z,hz,he,_⟩:=qrz _ y (qkx _ _ _ _ ((gL.1 hy).1));obtain⟨z0,aJ,rfl⟩:=go.1 hz;show I64 y.id;rw[he];exact hid z0 aJ
 have ak:Below w.heap.size w w1:=hw.trans (aj.mono hw.size);have zW:=Sl.qc hR;obtain⟨n,hn⟩ : ∃ n,n=A.length:=⟨_,rfl⟩
 rw[<-hn] at qC zW ⊢;have HN:=lhd hn;have HA:=lhd (aiq hA Pf);have HS:=lhd zW;obtain⟨UG,uo,_⟩:=zW.open;unfold maxLen at uo;have cj:w.heap.size<=w1.heap.size:=ak.size;have aV:=lhd ak;have HL:=lhd qC;have oz:n<=1099511627776:=by omega
 clear hn hA Pf zW hR aj hw ak qC hid hl;go_wp2_with fail;go_loopw [8,9] (fun o i wr=>∃ (j:Nat) (L:List (Int×Int)),i = .int .i64 j/\j<=n/\Hid (Cn L)/\Hid (∀ p∈L,p.1∈A)/\Hid (∀ p∈L,p.2.natAbs<=3*j)/\L.length<=j/\Hid (wr.ownsRow w1.heap.size 71 3 o L.length (tv (ctm L)))/\Below w1.heap.size w1 wr) (fun _ i _=>n - (vI i).toNat)
 case atStart=>exact⟨0,[],rfl,gp _,(show Hid _ from Cn.nil),(show Hid _ from fun p hp=>by cases hp),(show Hid _ from fun p hp=>by cases hp),nlr _,(show Hid _ from World.ownsRow_nil _ _ _ _),Below.refl _ _⟩
 case round =>
  obtain⟨j,L,rfl,hj,HC,HP,HQ,vJ,HO,hB⟩:=hrel;obtain⟨o,ho⟩ : ∃ o:Value,o=u8:=⟨_,rfl⟩
  subst ho;have cp:w1.heap.size<=wr.heap.size:=hB.size;by_cases hlt:j < n/\0 < m
  ·obtain⟨hlt,qB⟩:=hlt;obtain⟨y,hy⟩ : ∃ y,A[j]? = some y:=⟨_,g8 (by rw[<-HN.out];exact hlt)⟩
   obtain⟨h2,h3,h4,h5,h6⟩:=HS.out.open;obtain⟨ad,aX⟩ : ∃ ad,ra=some ad:=by
    cases ra with
    | none=>have:=h5 rfl;omega
    | some ad=>exact⟨ad,rfl⟩
   subst aX;have d0:wr.cell? (ad.add j)=some (.int .i64 y):=Cx.q8 hB (h6 ad rfl _ _ (by rw[q9r _ _ (by rw[<-HN.out];exact hlt),gF,hy];rfl));obtain⟨q,hq⟩ : ∃ q,q=j % m:=⟨_,rfl⟩
   obtain⟨t,ht⟩ : ∃ t,t=j / m:=⟨_,rfl⟩
   have UH:q < m:=by rw[hq];exact Nat.mod_lt _ qB
   have Pg:(j:Int) % (m:Int)=(q:Int):=by rw[hq];omega
   have GV:(j:Int) / (m:Int)=(t:Int):=by rw[ht];omega
   have KQ:q < cs.length:=by rw[<-UF.out];exact UH
   obtain⟨z,hz⟩ : ∃ z,cs[q]? = some z:=⟨_,g8 KQ⟩
   obtain⟨g2,g3,g4,g5,g6⟩:=HK.out.open;obtain⟨bd,KR⟩ : ∃ ad,ca=some ad:=by
    cases ca with
    | none=>have:=g5 rfl;omega
    | some ad=>exact⟨ad,rfl⟩
   subst KR;have d1:wr.cell? (bd.add q)=some (.int .i64 z):=Cx.q8 hB (Cx.q8 aV.out (g6 bd rfl _ _ (by rw[q9r _ _ KQ,gF,hz];rfl)));have KS:y∈A:=gh hy;have HY:=lhd (aiq KS (HA.out.2 y KS));have eB:¬ (m:Int)=0:=by omega
   have rK:((m:Int) == 0)=false:=by simp;omega
   have eE:¬ m=0:=by omega
   have pT:(j:Int).tmod (m:Int)=(q:Int):=by rw[Int.tmod_eq_emod_of_nonneg (by omega),Pg]
   have mQ:(j:Int).tdiv (m:Int)=(t:Int):=by rw[Int.tdiv_eq_ediv_of_nonneg (by omega),GV]
   have GW:(q:Int) < m:=by omega
   have KT:(q:Int) < cc:=by omega
   have UI:t<=j:=by rw[ht];exact Nat.div_le_self _ _
   have UJ:IntKind.i64.wrap (t:Int)=(t:Int):=IntWalk.i64_in _ (by omega);obtain⟨sm,ow⟩ : ∃ s,IntKind.i64.wrap (z+(t:Int))=s:=⟨_,rfl⟩
   have UK:0<=sm % 7:=Int.emod_nonneg _ (by decide);have UL:sm % 7 < 7:=Int.emod_lt_of_pos _ (by decide);obtain⟨x,hx⟩ : ∃ x,sm % 7=x:=⟨_,rfl⟩
   rw[hx] at UK UL;have HX:=lhd hx;clear h2 h3 h4 h5 h6 g2 g3 g4 g5 g6 hy hz KS KQ hq ht hx;have sY:IntKind.i64.wrap (x - 3)=x - 3:=IntWalk.i64_in _ (by omega);go_wp2_with fail
   go_cut [10] from 25 to 38 (fun p wx=>p = .int .i64 (x - 3)/\Hid (Below wr.heap.size wr wx))
   case first =>
    go_region_held3 (fun w'=>w'.cell? (ad.add j)=some (.int .i64 y)/\w'.cell? (bd.add q)=some (.int .i64 z))
     (first | exact⟨by assumption,by assumption⟩)
     (first
      |(go_at_call 17;refine(quc _ 7 _ (by decide) (by decide)).mono ?_;rintro e w2 ⟨rfl,ao⟩;rw[HX.out];have ar:Below wr.heap.size wr w2:=xt (ao.mono (by simp));have a0:=Cx.q8 ar d0;have a1:=Cx.q8 ar d1;have bR:=lhd ar))
    all_goals
     go_wp2_with fail
     go_meet
     exact⟨rfl,bR⟩
   case rest =>
    obtain⟨rfl,bR⟩:=hcut;have a0:=Cx.q8 bR.out d0;have aN:=lhd (qa HO.out bR.out);have jN:=bR.out.size;have qW:∀ p∈L,nb p.2<=8:=fun p hp=>by
     have:=HQ.out p hp;exact gl (q31 p.2 8 (by omega)) (nlr _)
    have yK:=lhd qW;have BO : -9223372036854775808<=x - 3/\x - 3<=9223372036854775807:=by omega
    have fZ:=q48 (x - 3) BO.1 BO.2;clear d0 d1 qW pT mQ GW KT ow UJ UI eB GV Pg sY;go_wp2_with fail
    go_region_held3 (fun w'=>w'.cell? (ad.add j)=some (.int .i64 y))
     (first | assumption)
     (first
      |(go_at_call 29;refine(q58 _ _ BO.1 BO.2).mono ?_;rintro e w3 ⟨rfl,aO⟩;rw[show wv (x - 3) = .agg #[.bool (decide (x - 3 < 0)),.string (mg (x - 3))] from rfl];have aA:Below wc.heap.size wc w3:=xt (aO.mono (by simp));have b0:=Cx.q8 aA a0;have iA:=lhd (qa aN.out aA);have eP:=lhd aA)
      |(go_at_call 113;refine(qmj _ L y _ _ 8 _ (Sl.qc iA.out) HC.out yK.out (by rw[j5];omega) (by omega) (by omega)).mono ?_;rintro e w4 ⟨r,rfl,L',bL,fl,aT⟩;rw[q0i] at bL;have b1:=Cx.q8 aT b0;have H4:=lhd (aiq bL (aiq fl (eP.out.trans (aT.mono eP.out.size))))))
    have aB:=bR.out.size;go_wp2;go_roundw
    case measure=>simp[vI];omega
    case rel =>
     obtain⟨bL,fl,aF⟩:=H4.out;have ow:=qsp bL HC.out HP.out HY.out.1 HQ.out (by omega);refine⟨j+1,L',qh (by omega),by omega,(show Hid _ from bL.cn),(show Hid _ from ow.1),(show Hid _ from ow.2),gl bL.len (by omega),(show Hid _ from qf fl ?_),hB.trans (bR.out.mono cp |>.trans (aF.mono (gl cp aB)))⟩;exact gl cp (gl aB eP.out.size)
  ·have dr:Cn L/\L.length<=l.length/\(∀ p∈L,p.1∈qry (l.map Ce.cl) d)/\(∀ p∈L,p.2.natAbs<=3*l.length)/\wr.ownsRow w.heap.size 71 3 o L.length (tv (ctm L))/\Below w.heap.size w wr:=by
    have h1:=HL.out;refine⟨HC.out,by omega,by rw[<-HA.out.1];exact HP.out,fun p hp=>gl (HQ.out p hp) (by omega),qf HO.out cj,aV.out.trans (hB.mono cj)⟩
   have HF:=lhd dr;clear dr;by_cases jO:j < n
   ·have qB:m=0:=by omega
    subst qB;go_wp2;go_ret;exact⟨_,L,rfl,HF.out⟩
   ·go_wp2;go_ret;exact⟨_,L,rfl,HF.out⟩
end Go.Proofs.YtlhicnfeajejhaaGreatDoor
