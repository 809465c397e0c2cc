/- Steps towards MorseChecks. Conditions: none. -/
import Derived.Deep.DeepCutAuto
import Derived.Test.YtlhicnfeajejhaaGreatDoorFOj
set_option maxRecDepth 1000000
set_option maxHeartbeats 16000000
namespace Go.Cx
open Go.RowKit
def nub {α:Type} (key:α->Int):Option Int->List α->List α
 | _,[]=>[]
 | p,x :: l=>if p=some (key x) then nub key (some (key x)) l else x :: nub key (some (key x)) l
def q4p {α:Type} (key:α->Int) (p:Option Int) (l:List α):Option Int:=match l.getLast? with
 | none=>p
 | some y=>some (key y)
theorem qhz {α:Type} (key:α->Int) (x:α) (l:List α):∀ p,nub key p (l++[x])=nub key p l++(if q4p key p l=some (key x) then [] else [x]):=by
 induction l with
 | nil=>intro p;show (if _ then _ else _)=[]++(if _ then _ else _);rfl
 | cons y l ih =>
  intro p;have e:q4p key (some (key y)) l=q4p key p (y :: l):=by
   unfold q4p;rw[List.getLast?_cons];cases l.getLast? <;> rfl
  rw[gV];unfold nub;rw[ih,e];split <;> simp
theorem qkv {α β:Type} (key:β->Int) (f:α->β) (l:List α):∀ p,(nub (fun x=>key (f x)) p l).map f=nub key p (l.map f):=by
 induction l with
 | nil=>intro p;simp[nub]
 | cons x l ih =>
  intro p;rw[gN];unfold nub;split
  ·exact ih _
  ·rw[gN,ih]
theorem qkw {α:Type} (key:α->Int) (l:List α):∀ p,(nub key p l).length<=l.length:=by
 induction l with
 | nil=>intro p;simp[nub]
 | cons x l ih =>
  intro p;unfold nub;have:=ih (some (key x));split <;> simp only [List.length_cons] <;> omega
theorem qkx {α:Type} (key:α->Int) (l:List α):∀ p x,x∈nub key p l->x∈l:=by
 induction l with
 | nil=>intro p x h;simp[nub] at h
 | cons y l ih =>
  intro p x h;unfold nub at h;split at h
  ·exact gX _ (ih _ _ h)
  ·rcases gt.1 h with h | h
   ·rw[h];exact gP ..
   ·exact gX _ (ih _ _ h)
def qc5 (K:List Cl):List Cl:=nub Cl.id none (q26 K)
end Go.Cx
namespace Go.Proofs.YtlhicnfeajejhaaGreatDoor
open Go.RowKit Go.Cx
attribute [local go_sem ↓] Go.wp_at_zero Go.wp_at_succ
theorem qdz (v:Value) (l:List Ce) (w:World) (h:SlC w v l) (hl:l.length<=1099511627776) (aX:∀ x∈l,x.s.length<=1099511627776) :
  Calls Tryz.prog 76 #[.agg #[v]] w fun e w'=>∃ r m,e = .returned r/\m.map Ce.cl=qc5 (l.map Ce.cl)/\q1p w' w.heap.size r m/\Below w.heap.size w w':=by
 obtain⟨a,len,cap,rfl⟩:=qg h.1;have HH:=lhd (h.mono fun p u hc=>qk hc (.cells #[.slice a len cap] 26));have jH:=lhd aX;clear h aX;go_enter Tryz.func76,Tryz.ntmps76;go_wp2_with fail;obtain⟨W,hW⟩ : ∃ W:World,W=w.alloc (.cells #[.slice a len cap] 26):=⟨_,rfl⟩
 rw[<-hW];rw[<-hW] at HH;have hw:Below w.heap.size w W:=by rw[hW];exact(Below.refl _ _).alloc (nlr _) _
 clear hW;refine(q7s _ _ l _ rfl HH.out hl jH.out).mono ?_;rintro e w1 ⟨r,M,rfl,hM,hR,ai⟩;obtain⟨ma,mc,fM⟩:=qj hR.1;subst fM;have al:Below w.heap.size w w1:=hw.trans (ai.mono hw.size);have px:M.length<=1099511627776:=by
  have:=congrArg List.length hM;rw[gm,q68,gm] at this;omega
 have RZ:=(Sl.qc hR.1).open;obtain⟨IJ,IK,_⟩:=RZ;unfold maxLen at IK;obtain⟨n,hn⟩ : ∃ n,n=M.length:=⟨_,rfl⟩
 have HN:=lhd hn;have HM:=lhd hM;have IL:=Sl.qc hR.1;have HR:=lhd hR;rw[<-hn] at px IJ IL ⊢;have HS:=lhd IL;have bT:w.heap.size<=w1.heap.size:=al.size;have aN:=lhd al;have Cr:=hw.size;clear hn hM hR IL ai hw al;go_wp2_with fail;go_loopw [4,5] (fun o i wr=>∃ j:Nat,i = .int .i64 j/\j<=n/\Hid (wr.ownsRow w1.heap.size 75 3 o (nub Ce.id none (M.take j)).length (cat Ce.enc (nub Ce.id none (M.take j))))/\Below w1.heap.size w1 wr) (fun _ i _=>n - (vI i).toNat)
 case atStart=>exact⟨0,rfl,gp _,(show Hid _ from World.ownsRow_nil _ _ _ _),Below.refl _ _⟩
 case round =>
  obtain⟨j,rfl,hj,HO,hB⟩:=hrel;obtain⟨oa,oc,nw⟩:=qj HO.out;subst nw;have cp:w1.heap.size<=wr.heap.size:=hB.size;by_cases hlt:j < n
  ·obtain⟨x,hx⟩ : ∃ x,M[j]? = some x:=⟨_,g8 (by rw[<-HN.out];exact hlt)⟩
   obtain⟨h2,h3,h4,h5,h6⟩:=HS.out.open;obtain⟨ad,aM⟩ : ∃ ad,ma=some ad:=by
    cases ma with
    | none=>have:=h5 rfl;omega
    | some ad=>exact⟨ad,rfl⟩
   subst aM;obtain⟨e0,e1,e2⟩:=zh M j x hx;have d0:wr.cell? (ad.add (j*3))=some (.int .i64 x.id):=Cx.q8 hB (h6 ad rfl _ _ e0);have d1:wr.cell? ⟨(ad.add (j*3)).block,(ad.add (j*3)).off+1,none⟩=some (.int .i64 x.dim):=by rw[qi _ _ _ (by omega)];exact Cx.q8 hB (h6 ad rfl _ _ e1)
   have d2:wr.cell? ⟨(ad.add (j*3)).block,(ad.add (j*3)).off+2,none⟩=some (.slice x.a x.n x.c):=by rw[qi _ _ _ (by omega)];exact Cx.q8 hB (h6 ad rfl _ _ e2)
   have cZ:nub Ce.id none (M.take (j+1))=nub Ce.id none (M.take j)++(if q4p Ce.id none (M.take j)=some x.id then [] else [x]):=by
    rw[gq,hx];exact qhz _ _ _ _
   have oE:(nub Ce.id none (M.take j)).length<=j:=gn (qkw _ _ _) (by rw[gh];omega);obtain⟨nl,uy⟩ : ∃ nl,nl=(nub Ce.id none (M.take j)).length:=⟨_,rfl⟩
   rw[<-uy] at oE HO ⊢;have IM:=lhd uy;have dc:=lhd cZ;clear e0 e1 e2 cZ uy;by_cases h0:j=0
   ·have dd:nub Ce.id none (M.take (j+1))=nub Ce.id none (M.take j)++[x]:=by rw[dc.out,h0];simp[q4p]
    have oW:=lhd dd;have hj0:((j:Int) == 0)=true:=by rw[h0];rfl
    clear h0;clear dd h2 h3 h4 h5 h6 hx;go_wp2_with fail
    go_quiet (fail)
    obtain⟨V,hV⟩ : ∃ V:World,V=wr.drewN nq:=⟨_,rfl⟩
    rw[<-hV];have dC:Below wr.heap.size wr V:=by rw[hV];exact qb (Below.refl _ _) _
    have aD:Below w1.heap.size w1 V:=hB.trans (dC.mono cp);have wZ:=lhd (qa HO.out dC);have iG:w1.heap.size<=V.heap.size:=aD.size
    replace d0:=Cx.q8 dC d0
    replace d1:=Cx.q8 dC d1
    replace d2:=Cx.q8 dC d2
    clear hV dC;go_wp2_with (at_builtin;go_loud (refine qo (W:=w1) rfl _ _ 24 rfl w1.heap.size 75 Tryz.ke Tryz.underlying24 rfl (by decide) (by decide) _ _ _ rfl wZ.out [.int .i64 x.id,.int .i64 x.dim,.slice x.a x.n x.c] rfl rfl (Ce.xu x) (by omega) aD iG ?_));intro v5 w5 cH _ aT;have F5:=lhd (aiq cH aT);clear cH aT;go_wp2;go_roundw
    case measure=>simp[vI];omega
    case rel =>
     refine⟨j+1,qh (by omega),by omega,(show Hid _ from ?_),F5.out.2⟩;rw[oW.out,gl,<-IM.out,x9,q1c];exact F5.out.1
   ·obtain⟨m,hm⟩ : ∃ m,j=m+1:=⟨j - 1,by omega⟩
    obtain⟨y,hy⟩ : ∃ y,M[m]? = some y:=⟨_,g8 (by rw[<-HN.out];omega)⟩
    have f0:wr.cell? (ad.add (m*3))=some (.int .i64 y.id):=Cx.q8 hB (h6 ad rfl _ _ (zh M m y hy).1);have eH:q4p Ce.id none (M.take j)=some y.id:=by
     unfold q4p;rw[hm,gq,hy,List.getLast?_append];rfl
    rw[eH] at dc;have hj0:((j:Int) == 0)=false:=by simp;omega
    have mU:(j:Int) - 1=(m:Int):=by omega
    clear h2 h3 h4 h5 h6 hx hy eH h0 hm;by_cases ak:x.id=y.id
    ·have hb:(x.id != y.id)=false:=by simpa using ak
     have dd:nub Ce.id none (M.take (j+1))=nub Ce.id none (M.take j):=by rw[dc.out,if_pos (by rw[ak]),gQ]
     have oW:=lhd dd;clear dd ak;go_wp2_with fail
     go_quiet (fail)
     go_wp2;go_roundw
     case measure=>simp[vI];omega
     case rel=>exact⟨j+1,qh (by omega),by omega,(show Hid _ from by rw[oW.out,<-IM.out];exact qa HO.out (qb (Below.refl _ _) nq)),qb hB nq⟩
    ·have hb:(x.id != y.id)=true:=by simpa using ak
     have dd:nub Ce.id none (M.take (j+1))=nub Ce.id none (M.take j)++[x]:=by rw[dc.out,if_neg (fun e=>ak (osi e).symm)]
     have oW:=lhd dd;clear dd ak;go_wp2_with fail
     go_quiet (fail)
     obtain⟨V,hV⟩ : ∃ V:World,V=wr.drewN nq:=⟨_,rfl⟩
     rw[<-hV];have dC:Below wr.heap.size wr V:=by rw[hV];exact qb (Below.refl _ _) _
     have aD:Below w1.heap.size w1 V:=hB.trans (dC.mono cp);have wZ:=lhd (qa HO.out dC);have iG:w1.heap.size<=V.heap.size:=aD.size
     replace d0:=Cx.q8 dC d0
     replace d1:=Cx.q8 dC d1
     replace d2:=Cx.q8 dC d2
     clear hV dC;go_wp2_with (at_builtin;go_loud (refine qo (W:=w1) rfl _ _ 24 rfl w1.heap.size 75 Tryz.ke Tryz.underlying24 rfl (by decide) (by decide) _ _ _ rfl wZ.out [.int .i64 x.id,.int .i64 x.dim,.slice x.a x.n x.c] rfl rfl (Ce.xu x) (by omega) aD iG ?_));intro v5 w5 cH _ aT;have F5:=lhd (aiq cH aT);clear cH aT;go_wp2;go_roundw
     case measure=>simp[vI];omega
     case rel =>
      refine⟨j+1,qh (by omega),by omega,(show Hid _ from ?_),F5.out.2⟩;rw[oW.out,gl,<-IM.out,x9,q1c];exact F5.out.1
  ·have dw:M.take j=M:=ge (by rw[<-HN.out];omega);rw[dw] at HO ⊢;clear dw;go_wp2;go_ret;refine⟨_,nub Ce.id none M,rfl,?_,⟨qf HO.out bT,fun x hx=>qa (qf (HR.out.2 x (qkx _ _ _ _ hx)) ?_) hB⟩,aN.out.trans (hB.mono bT)⟩
   ·rw[show nub Ce.id none M=nub (fun x=>Cl.id (Ce.cl x)) none M from rfl,qkv,HM.out];rfl
   ·exact Cr
theorem mod_eq (n m:Int) (h1:1<=m):(n.tmod m+m) % m=n % m:=by
 rw[Int.add_emod_right,Int.tmod_eq_emod];split
 ·simp
 ·rw[Int.sub_emod];have:(m.natAbs:Int) % m=0:=by rw[show (m.natAbs:Int)=m by omega,Int.emod_self]
  rw[this,Int.sub_zero,Int.emod_emod,Int.emod_emod]
end Go.Proofs.YtlhicnfeajejhaaGreatDoor
