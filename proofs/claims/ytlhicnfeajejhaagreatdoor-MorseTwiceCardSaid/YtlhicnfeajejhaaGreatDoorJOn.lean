/- cocycleref06: Cells, Ids. cocycleref07: Mod, Made. -/
import Derived.Deep.DeepCutAuto
import Derived.Test.YtlhicnfeajejhaaGreatDoorJOj
set_option maxRecDepth 1000000
set_option maxHeartbeats 16000000
namespace Go.Cx
open Go.RowKit
def nub {α:Type} (key:α->Int):Option Int->List α->List α
 | _,[]=>[]
 | p,x :: l=>if p=some (key x) then nub key (some (key x)) l else x :: nub key (some (key x)) l
def q4p {α:Type} (key:α->Int) (p:Option Int) (l:List α):Option Int:=match l.getLast? with
 | none=>p
 | some y=>some (key y)
theorem qhz {α:Type} (key:α->Int) (x:α) (l:List α):∀ p,nub key p (l++[x])=nub key p l++(if q4p key p l=some (key x) then [] else [x]):=by
 induction l with
 | nil=>intro p;show (if _ then _ else _)=[]++(if _ then _ else _);rfl
 | cons y l ih =>
  intro p;have e:q4p key (some (key y)) l=q4p key p (y :: l):=by
   unfold q4p;rw[List.getLast?_cons];cases l.getLast? <;> rfl
  rw[List.cons_append];unfold nub;rw[ih,e];split <;> simp
theorem qkv {α β:Type} (key:β->Int) (f:α->β) (l:List α):∀ p,(nub (fun x=>key (f x)) p l).map f=nub key p (l.map f):=by
 induction l with
 | nil=>intro p;simp[nub]
 | cons x l ih =>
  intro p;rw[List.map_cons];unfold nub;split
  ·exact ih _
  ·rw[List.map_cons,ih]
theorem qkw {α:Type} (key:α->Int) (l:List α):∀ p,(nub key p l).length<=l.length:=by
 induction l with
 | nil=>intro p;simp[nub]
 | cons x l ih =>
  intro p;unfold nub;have:=ih (some (key x));split <;> simp only [List.length_cons] <;> omega
theorem qkx {α:Type} (key:α->Int) (l:List α):∀ p x,x∈nub key p l->x∈l:=by
 induction l with
 | nil=>intro p x h;simp[nub] at h
 | cons y l ih =>
  intro p x h;unfold nub at h;split at h
  ·exact List.mem_cons_of_mem _ (ih _ _ h)
  ·rcases List.mem_cons.1 h with h | h
   ·rw[h];exact List.mem_cons_self ..
   ·exact List.mem_cons_of_mem _ (ih _ _ h)
def qc5 (K:List Cl):List Cl:=nub Cl.id none (q26 K)
end Go.Cx
namespace Go.Proofs.YtlhicnfeajejhaaGreatDoor
open Go.RowKit Go.Cx
attribute [local go_sem ↓] Go.wp_at_zero Go.wp_at_succ
theorem qdz (v:Value) (l:List Ce) (w:World) (h:SlC w v l) (hl:l.length<=1099511627776) (hsl:∀ x∈l,x.s.length<=1099511627776) :
  Calls Tryz.prog 76 #[.agg #[v]] w fun e w'=>∃ r m,e = .returned r/\m.map Ce.cl=qc5 (l.map Ce.cl)/\q1p w' w.heap.size r m/\Below w.heap.size w w':=by
 obtain⟨a,len,cap,rfl⟩:=qg h.1;have HH:=lhd (h.mono fun p u hc=>qk hc (.cells #[.slice a len cap] 26));have HSL:=lhd hsl;clear h hsl;go_enter Tryz.func76,Tryz.ntmps76;go_wp2_with fail;obtain⟨W,hW⟩ : ∃ W:World,W=w.alloc (.cells #[.slice a len cap] 26):=⟨_,rfl⟩
 rw[<-hW];rw[<-hW] at HH;have hw:Below w.heap.size w W:=by rw[hW];exact(Below.refl _ _).alloc (nlr _) _
 clear hW;refine(q7s _ _ l _ rfl HH.out hl HSL.out).mono ?_;rintro e w1 ⟨r,M,rfl,hM,hR,hb1⟩;obtain⟨ma,mc,hre⟩:=qj hR.1;subst hre;have hB1:Below w.heap.size w w1:=hw.trans (hb1.mono hw.size);have hMl:M.length<=1099511627776:=by
  have:=congrArg List.length hM;rw[List.length_map,q68,List.length_map] at this;omega
 have hMc:=(Sl.qc hR.1).open;obtain⟨hmc1,hmc2,_⟩:=hMc;unfold maxLen at hmc2;obtain⟨n,hn⟩ : ∃ n,n=M.length:=⟨_,rfl⟩
 have HN:=lhd hn;have HM:=lhd hM;have hsM:=Sl.qc hR.1;have HR:=lhd hR;rw[<-hn] at hMl hmc1 hsM ⊢;have HS:=lhd hsM;have hz1:w.heap.size<=w1.heap.size:=hB1.size;have HB1:=lhd hB1;have hzW:=hw.size;clear hn hM hR hsM hb1 hw hB1;go_wp2_with fail;go_loopw [4,5] (fun o i wr=>∃ j:Nat,i = .int .i64 j/\j<=n/\Hid (wr.ownsRow w1.heap.size 75 3 o (nub Ce.id none (M.take j)).length (cat Ce.enc (nub Ce.id none (M.take j))))/\Below w1.heap.size w1 wr) (fun _ i _=>n - (vI i).toNat)
 case atStart=>exact⟨0,rfl,Nat.zero_le _,(show Hid _ from World.ownsRow_nil _ _ _ _),Below.refl _ _⟩
 case round =>
  obtain⟨j,rfl,hj,HO,hB⟩:=hrel;obtain⟨oa,oc,hoe⟩:=qj HO.out;subst hoe;have hz2:w1.heap.size<=wr.heap.size:=hB.size;by_cases hlt:j < n
  ·obtain⟨x,hx⟩ : ∃ x,M[j]? = some x:=⟨_,List.getElem?_eq_getElem (by rw[<-HN.out];exact hlt)⟩
   obtain⟨h2,h3,h4,h5,h6⟩:=HS.out.open;obtain⟨ad,hade⟩ : ∃ ad,ma=some ad:=by
    cases ma with
    | none=>have:=h5 rfl;omega
    | some ad=>exact⟨ad,rfl⟩
   subst hade;obtain⟨e0,e1,e2⟩:=zh M j x hx;have d0:wr.cell? (ad.add (j*3))=some (.int .i64 x.id):=Cx.q8 hB (h6 ad rfl _ _ e0);have d1:wr.cell? ⟨(ad.add (j*3)).block,(ad.add (j*3)).off+1,none⟩=some (.int .i64 x.dim):=by rw[qi _ _ _ (by omega)];exact Cx.q8 hB (h6 ad rfl _ _ e1)
   have d2:wr.cell? ⟨(ad.add (j*3)).block,(ad.add (j*3)).off+2,none⟩=some (.slice x.a x.n x.c):=by rw[qi _ _ _ (by omega)];exact Cx.q8 hB (h6 ad rfl _ _ e2)
   have htk:nub Ce.id none (M.take (j+1))=nub Ce.id none (M.take j)++(if q4p Ce.id none (M.take j)=some x.id then [] else [x]):=by
    rw[List.take_add_one,hx];exact qhz _ _ _ _
   have hOl:(nub Ce.id none (M.take j)).length<=j:=Nat.le_trans (qkw _ _ _) (by rw[List.length_take];omega);obtain⟨nl,hnl⟩ : ∃ nl,nl=(nub Ce.id none (M.take j)).length:=⟨_,rfl⟩
   rw[<-hnl] at hOl HO ⊢;have HNL:=lhd hnl;have HTK:=lhd htk;clear e0 e1 e2 htk hnl;by_cases h0:j=0
   ·have hlk:nub Ce.id none (M.take (j+1))=nub Ce.id none (M.take j)++[x]:=by rw[HTK.out,h0];simp[q4p]
    have HLK:=lhd hlk;have hj0:((j:Int) == 0)=true:=by rw[h0];rfl
    clear h0;clear hlk h2 h3 h4 h5 h6 hx;go_wp2_with fail
    go_quiet (fail)
    obtain⟨V,hV⟩ : ∃ V:World,V=wr.drewN nq:=⟨_,rfl⟩
    rw[<-hV];have hWV:Below wr.heap.size wr V:=by rw[hV];exact qb (Below.refl _ _) _
    have hBV:Below w1.heap.size w1 V:=hB.trans (hWV.mono hz2);have hOV:=lhd (qa HO.out hWV);have hzV:w1.heap.size<=V.heap.size:=hBV.size
    replace d0:=Cx.q8 hWV d0
    replace d1:=Cx.q8 hWV d1
    replace d2:=Cx.q8 hWV d2
    clear hV hWV;go_wp2_with (at_builtin;go_loud (refine qo (W:=w1) rfl _ _ 24 rfl w1.heap.size 75 Tryz.ke Tryz.underlying24 rfl (by decide) (by decide) _ _ _ rfl hOV.out [.int .i64 x.id,.int .i64 x.dim,.slice x.a x.n x.c] rfl rfl (Ce.xu x) (by omega) hBV hzV ?_));intro v5 w5 hr5 _ hB5;have F5:=lhd (aiq hr5 hB5);clear hr5 hB5;go_wp2;go_roundw
    case measure=>simp[vI];omega
    case rel =>
     refine⟨j+1,qh (by omega),by omega,(show Hid _ from ?_),F5.out.2⟩;rw[HLK.out,List.length_append,<-HNL.out,x9,q1c];exact F5.out.1
   ·obtain⟨m,hm⟩ : ∃ m,j=m+1:=⟨j - 1,by omega⟩
    obtain⟨y,hy⟩ : ∃ y,M[m]? = some y:=⟨_,List.getElem?_eq_getElem (by rw[<-HN.out];omega)⟩
    have f0:wr.cell? (ad.add (m*3))=some (.int .i64 y.id):=Cx.q8 hB (h6 ad rfl _ _ (zh M m y hy).1);have hlast:q4p Ce.id none (M.take j)=some y.id:=by
     unfold q4p;rw[hm,List.take_add_one,hy,List.getLast?_append];rfl
    rw[hlast] at HTK;have hj0:((j:Int) == 0)=false:=by simp;omega
    have hjm:(j:Int) - 1=(m:Int):=by omega
    clear h2 h3 h4 h5 h6 hx hy hlast h0 hm;by_cases hne:x.id=y.id
    ·have hb:(x.id != y.id)=false:=by simpa using hne
     have hlk:nub Ce.id none (M.take (j+1))=nub Ce.id none (M.take j):=by rw[HTK.out,if_pos (by rw[hne]),List.append_nil]
     have HLK:=lhd hlk;clear hlk hne;go_wp2_with fail
     go_quiet (fail)
     go_wp2;go_roundw
     case measure=>simp[vI];omega
     case rel=>exact⟨j+1,qh (by omega),by omega,(show Hid _ from by rw[HLK.out,<-HNL.out];exact qa HO.out (qb (Below.refl _ _) nq)),qb hB nq⟩
    ·have hb:(x.id != y.id)=true:=by simpa using hne
     have hlk:nub Ce.id none (M.take (j+1))=nub Ce.id none (M.take j)++[x]:=by rw[HTK.out,if_neg (fun e=>hne (osi e).symm)]
     have HLK:=lhd hlk;clear hlk hne;go_wp2_with fail
     go_quiet (fail)
     obtain⟨V,hV⟩ : ∃ V:World,V=wr.drewN nq:=⟨_,rfl⟩
     rw[<-hV];have hWV:Below wr.heap.size wr V:=by rw[hV];exact qb (Below.refl _ _) _
     have hBV:Below w1.heap.size w1 V:=hB.trans (hWV.mono hz2);have hOV:=lhd (qa HO.out hWV);have hzV:w1.heap.size<=V.heap.size:=hBV.size
     replace d0:=Cx.q8 hWV d0
     replace d1:=Cx.q8 hWV d1
     replace d2:=Cx.q8 hWV d2
     clear hV hWV;go_wp2_with (at_builtin;go_loud (refine qo (W:=w1) rfl _ _ 24 rfl w1.heap.size 75 Tryz.ke Tryz.underlying24 rfl (by decide) (by decide) _ _ _ rfl hOV.out [.int .i64 x.id,.int .i64 x.dim,.slice x.a x.n x.c] rfl rfl (Ce.xu x) (by omega) hBV hzV ?_));intro v5 w5 hr5 _ hB5;have F5:=lhd (aiq hr5 hB5);clear hr5 hB5;go_wp2;go_roundw
     case measure=>simp[vI];omega
     case rel =>
      refine⟨j+1,qh (by omega),by omega,(show Hid _ from ?_),F5.out.2⟩;rw[HLK.out,List.length_append,<-HNL.out,x9,q1c];exact F5.out.1
  ·have hmt:M.take j=M:=List.take_of_length_le (by rw[<-HN.out];omega);rw[hmt] at HO ⊢;clear hmt;go_wp2;go_ret;refine⟨_,nub Ce.id none M,rfl,?_,⟨qf HO.out hz1,fun x hx=>qa (qf (HR.out.2 x (qkx _ _ _ _ hx)) ?_) hB⟩,HB1.out.trans (hB.mono hz1)⟩
   ·rw[show nub Ce.id none M=nub (fun x=>Cl.id (Ce.cl x)) none M from rfl,qkv,HM.out];rfl
   ·exact hzW
theorem mod_eq (n m:Int) (h1:1<=m):(n.tmod m+m) % m=n % m:=by
 rw[Int.add_emod_right,Int.tmod_eq_emod];split
 ·simp
 ·rw[Int.sub_emod];have:(m.natAbs:Int) % m=0:=by rw[show (m.natAbs:Int)=m by omega,Int.emod_self]
  rw[this,Int.sub_zero,Int.emod_emod,Int.emod_emod]
end Go.Proofs.YtlhicnfeajejhaaGreatDoor
