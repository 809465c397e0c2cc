/- Steps towards MorseParts. Conditions: none. -/
import Derived.Test.YtlhicnfeajejhaaGreatDoorGOg
set_option maxRecDepth 1000000
set_option maxHeartbeats 16000000
namespace Go.Cx
open Go.RowKit
def vsF (n:Int) (v:Nat):List Int:=((List.range v).filter fun k=>decide (n / 2 ^ k % 2=1)).map fun (k:Nat)=>(k:Int)
def q11 (n:Int):List Int:=(vsF n 6).take 4
theorem qah (n:Int) (v:Nat):vsF n (v+1)=vsF n v++(if n / 2 ^ v % 2=1 then [(v:Int)] else []):=by
 unfold vsF;rw[bA,bm,br];by_cases h:n / 2 ^ v % 2=1
 ·simp[h]
 ·simp[h]
theorem qdy (n:Int) (v:Nat):∀ m,∃ r,vsF n (v+m)=vsF n v++r
 | 0=>⟨[],by simp⟩
 | m+1=>by obtain⟨r,hr⟩:=qdy n v m;exact⟨_,by rw[<-Nat.add_assoc,qah,hr,gC]⟩
theorem qkn (n:Int) (v:Nat) (hv:v<=6) (h4:(vsF n v).length<=4) (h:v=6\/(vsF n v).length=4):q11 n=vsF n v:=by
 obtain⟨r,hr⟩:=qdy n v (6 - v);rw[show v+(6 - v)=6 by omega] at hr;unfold q11;rcases h with h | h
 ·subst h;exact gm h4
 ·rw[hr,List.take_left' h]
theorem qc4 (n:Int) (v:Nat):(vsF n v).Pairwise (· < ·):=by unfold vsF;rw[List.pairwise_map];exact(List.pairwise_lt_range.filter _).imp fun h=>by omega
theorem q5d (n:Int):(q11 n).length<=4/\(q11 n).Pairwise (· < ·)/\∀ x∈q11 n,0<=x/\x<=9223372036854775807:=by refine⟨by unfold q11;rw[gd];omega,(qc4 n 6).sublist (List.take_sublist _ _),fun x hx=>?_⟩;have:=gI hx;obtain⟨k,hk,rfl⟩:=gr.1 this;have:=gD.1 (gK.1 hk).1;omega
def q25 (l:List Int):List Cl:=q0m ((l.take 12).map q11)
end Go.Cx
namespace Go.Proofs.YtlhicnfeajejhaaGreatDoor
open Go.RowKit Go.Cx
attribute [local go_sem ↓] Go.wp_at_zero Go.wp_at_succ
theorem qai (v:Value) (l:List Int) (w:World) (h:Sl w 1 v (ints l)) :
  Calls Tryz.prog 16 #[v] w fun e w'=>∃ r m,e = .returned (.agg #[r])/\m.map Ce.cl=q25 l/\q1p w' w.heap.size r m/\BwQ w w':=by
 obtain⟨a,len,cap,rfl,h1,h2,h3,h4,h5⟩:=h;unfold maxLen at h2;rw[xl,gL] at h3;have HL:=lhd h3;clear h3;have H4:=lhd h4;clear h4;have H5:=lhd h5;clear h5;go_enter Tryz.func16,Tryz.ntmps16;go_wp2;obtain⟨W,hW⟩ : ∃ W:World,W=w.alloc (.cells #[.slice none 0 0] 26):=⟨_,rfl⟩
 rw[<-hW];have b0:Bv W w.heap.size (.slice none 0 0):=by rw[hW];exact Bv.new w _ _
 have hw:BwQ w W:=by rw[hW];exact bal _ _
 have HZ:=lhd (show W.heap.size=w.heap.size+1 by rw[hW];simp);have lD:=lhd b0;clear hW b0;go_loopw [3,4] (fun o i wr=>∃ (k:Nat) (vs:List Value),i = .int .i64 k/\k<=len/\k<=12/\Hid (wr.ownsRow W.heap.size 22 1 o k vs)/\Hid (vs.length=k) ∧
  Hid (∀ (i:Nat) (u:Value) (s:List Int),vs[i]? = some u->((l.take k).map q11)[i]? = some s->wr.ownsRow W.heap.size 3 1 u s.length (ints s))/\BwQ W wr) (fun _ i _=>len - (vI i).toNat)
 case atStart=>exact⟨0,[],rfl,go _,by omega,(show Hid _ from World.ownsRow_nil _ _ _ _),(show Hid _ from rfl),(show Hid _ from fun i u s hu=>by simp at hu),Below.refl _ _⟩
 case round =>
  obtain⟨k,vs,rfl,hk,UA,HR,E0,HE,hB⟩:=hrel;have aP:BwQ w wr:=(btr hw hB);by_cases hlt:k < len/\k < 12
  ·obtain⟨bF,Hb⟩:=hlt;obtain⟨ad,rfl⟩:=sadq H4.out (by omega)
   obtain⟨x,hx⟩ : ∃ x,l[k]? = some x:=⟨_,g8 (by rw[HL.out];exact bF)⟩
   have UB:=lhd (H5.out ad rfl k _ (show (ints l)[k]? = some (.int .i64 x) by simp[ints,hx]));have bZ:(l.take (k+1)).map q11=(l.take k).map q11++[q11 x]:=by rw[gq,hx];simp
   have cr:=lhd bZ;have su:=lhd (show ((l.take k).map q11).length=k by rw[gn,gd,HL.out];omega);clear hx bZ;obtain⟨wo,de⟩ : ∃ wo:World,wo=wr:=⟨_,rfl⟩
   subst de;go_wp2;rw[show decide ((k:Int) < 12)=true from decide_eq_true (by omega)];go_loopw [5,6] (fun o i wr=>∃ v:Nat,i = .int .i64 v/\v<=6/\Hid ((vsF x v).length<=4)/\Hid (wr.ownsRow wo.heap.size 3 1 o (vsF x v).length (ints (vsF x v)))/\BwQ wo wr) (fun _ i _=>6 - (vI i).toNat)
   case atStart=>exact⟨0,rfl,go _,(show Hid _ from go _),(show Hid _ from World.ownsRow_nil _ _ _ _),Below.refl _ _⟩
   case round =>
    obtain⟨v,rfl,UC,Pj,E3,dP⟩:=hrel;obtain⟨oa,oc,ng⟩:=qj E3.out;subst ng;obtain⟨n,hn⟩ : ∃ n,n=(vsF x v).length:=⟨_,rfl⟩
    rw[<-hn] at Pj E3 ⊢;have HN:=lhd hn;have Ik:n<=4:=Pj.out;have d0:wr.cell? (ad.add k)=some (.int .i64 x):=Cx.q8 ((btr aP dP)) UB.out;clear hn;by_cases oH:v < 6/\n < 4
    ·obtain⟨hv,oe⟩:=oH;have sS:bits .and .i64 (x / 2 ^ v) 1=x / 2 ^ v % 2:=qag _;have aF:wo.heap.size<=wr.heap.size:=dP.size;have l6:=qah x v;have sR:=lhd l6;clear l6;by_cases hc:x / 2 ^ v % 2=1
     ·rw[hc] at sS;rw[if_pos hc] at sR;clear hc;go_wp2_with (at_builtin;refine qo (W:=wo) rfl _ _ 22 rfl wo.heap.size 3 Tryz.xg Tryz.underlying22 rfl (by decide) (by decide) _ _ _ rfl E3.out [.int .i64 v] rfl rfl (q5v _) (by omega) dP aF ?_);intro v5 w5 aZ _ aB;have F5:=lhd (aiq aZ aB);clear aZ aB;go_wp2;go_roundw
      case measure=>simp[vI];omega
      case rel =>
       refine⟨v+1,qh (by omega),by omega,(show Hid _ from ?_),(show Hid _ from ?_),F5.out.2⟩
       ·show _<=4;rw[sR.out,gc,<-HN.out];simp;omega
       ·rw[sR.out,j3,gc,<-HN.out];exact F5.out.1
     ·have Pk:x / 2 ^ v % 2=0:=by omega
      rw[Pk] at sS;rw[if_neg hc,gH] at sR;clear hc Pk;go_wp2;go_roundw
      case measure=>simp[vI];omega
      case rel=>exact⟨v+1,qh (by omega),by omega,(show Hid _ from by show _<=4;rw[sR.out,<-HN.out];exact Ik),(show Hid _ from by rw[sR.out,<-HN.out];exact E3.out),dP⟩
    ·have rY:q11 x=vsF x v:=qkn x v UC (by rw[<-HN.out];exact Ik) (by rw[<-HN.out];omega);have Pm:=qa HR.out dP;have E4:=lhd Pm;have E5:W.heap.size<=wr.heap.size:=gl hB.size dP.size;have UD:W.heap.size<=wo.heap.size:=hB.size;have vF:v < 6->¬ ((n:Int) < 4):=fun _=>by omega
     have fin:∀ (v6:Value) (w6:World),w6.ownsRow W.heap.size 22 1 v6 (k+1) (vs++[.slice oa n oc])->wr.grownBy w6 u3.ownBlock->∃ AE:List Value,Hid (w6.ownsRow W.heap.size 22 1 v6 (k+1) AE)/\Hid (AE.length=k+1) ∧
       Hid (∀ (i:Nat) (u:Value) (s:List Int),AE[i]? = some u->((l.take (k+1)).map q11)[i]? = some s->w6.ownsRow W.heap.size 3 1 u s.length (ints s))/\BwQ W w6:=fun v6 w6 h1 h2=>by
      refine⟨vs++[.slice oa n oc],lhd h1,(show Hid _ from by show _=_;rw[gc,E0.out];rfl),(show Hid _ from fun i u s hu hs=>?_),((btr hB dP)).grown h2 E5 (fun b e=>(HR.out.lt b e).1)⟩;rw[cr.out] at hs;rcases gP i k with qU | qU
      ·rw[bB (by rw[E0.out];exact qU)] at hu;rw[bB (by rw[su.out];exact qU)] at hs;have g1:=qa (HE.out i u s hu hs) dP;exact g1.kept h2 (q1d g1 E4.out (by decide))
      ·rw[gU (by rw[E0.out];exact qU),E0.out] at hu;rw[gU (by rw[su.out];exact qU),su.out] at hs;have Lc:i - k=0:=by
        rcases Nat.eq_zero_or_pos (i - k) with h | h
        ·exact h
        ·rw[List.getElem?_eq_none (by simp;omega)] at hu;cases hu
       rw[Lc] at hu hs;simp at hu hs;subst hu hs;rw[rY,<-HN.out];have g1:=qf E3.out UD;exact g1.kept h2 (q1d g1 E4.out (by decide))
     have bM:=lhd fin;have UE:=lhd rY;clear fin rY Pm;by_cases ui:v < 6
     ·have aM:=vF ui;go_wp2_with (at_builtin;refine qo (W:=wr) rfl _ _ 95 rfl W.heap.size 22 Tryz.q06 Tryz.underlying95 rfl (by decide) (by decide) _ _ _ rfl E4.out [.slice oa n oc] rfl rfl (fun u hu=>by simp at hu;subst hu;rfl) (by omega) (Below.refl _ _) E5 ?_);intro v6 w6 dh pD _;obtain⟨AE,q1,q2,q3,q4⟩:=bM.out v6 w6 dh pD;clear dh pD;go_wp2;go_roundw
      case measure=>simp[vI];omega
      case rel=>exact⟨k+1,AE,qh (by omega),by omega,by omega,q1,q2,q3,q4⟩
     ·have UF:¬ ((v:Int) < 6):=by omega
      go_wp2_with (at_builtin;refine qo (W:=wr) rfl _ _ 95 rfl W.heap.size 22 Tryz.q06 Tryz.underlying95 rfl (by decide) (by decide) _ _ _ rfl E4.out [.slice oa n oc] rfl rfl (fun u hu=>by simp at hu;subst hu;rfl) (by omega) (Below.refl _ _) E5 ?_);intro v6 w6 dh pD _;obtain⟨AE,q1,q2,q3,q4⟩:=bM.out v6 w6 dh pD;clear dh pD;go_wp2;go_roundw
      case measure=>simp[vI];omega
      case rel=>exact⟨k+1,AE,qh (by omega),by omega,by omega,q1,q2,q3,q4⟩
  ·have sr:(l.take k).map q11=(l.take 12).map q11:=by
    rcases gP k len with hh | hh
    ·rw[show k=12 by omega]
    ·rw[gm (by rw[HL.out];exact hh),gm (by rw[HL.out];omega)]
   have AF:k < len->¬ ((k:Int) < 12):=fun _=>by omega
   have Ld:((l.take k).map q11).length=k:=by rw[gn,gd,HL.out];omega
   rw[sr] at HE Ld;obtain⟨oa,oc,ng⟩:=qj HR.out;subst ng;have aK:SlI wr (.slice oa k oc) ((l.take 12).map q11):=⟨vs,Sl.qc HR.out,by rw[E0.out,Ld],fun i u s hu hs=>Sl.qc (HE.out i u s hu hs)⟩
   have hls:((l.take 12).map q11).length<=12:=by rw[gn,gd];omega
   have hok:∀ s∈(l.take 12).map q11,s.length<=4/\s.Pairwise (· < ·)/\∀ x∈s,0<=x/\x<=9223372036854775807:=fun s hs=>by obtain⟨x,_,rfl⟩:=gr.1 hs;exact q5d x
   have af:=q1e _ _ wr aK hls hok;have HC:=lhd af;obtain⟨r0,r1⟩:=lD.out.below hB (by have:=HZ.out;omega);have hbb:w.heap.size < wr.heap.size:=World.block_lt_of_cell? wr _ r0;clear sr aK hls hok af Ld;by_cases bF:k < len
   ·have hb:=AF bF;go_wp2_with fail;refine HC.out.mono ?_;rintro e w7 ⟨r,m,rfl,hm,hc,mE⟩;obtain⟨ra,rc,iX⟩:=qj hc.1;subst iX;have s0:=Cx.q8 mE r0;have s1:w7.frozen? ⟨w.heap.size,0,none⟩=false:=qv mE hbb r1;have fin:m.map Ce.cl=q25 l/\q1p (w7.setCell ⟨w.heap.size,0,none⟩ (.slice ra m.length rc)) w.heap.size (.slice ra m.length rc) m/\BwQ w (w7.setCell ⟨w.heap.size,0,none⟩ (.slice ra m.length rc)):=⟨hm,(hc.set (a:=⟨w.heap.size,0,none⟩) hbb _).mono (by omega),((btr aP mE)).setCell (nlr _) _⟩
    have bM:=lhd fin;clear fin hm hc mE;go_wp2_with fail;refine bodyPost_ret (v:=.agg #[.slice ra m.length rc]) (by simp[results,Tryz.results16,go_sem,(Bv.put (w:=w7) (b:=w.heap.size) ⟨s0,s1⟩ (.slice ra m.length rc)).1]) rfl ?_;exact⟨.slice ra m.length rc,m,rfl,bM.out.1,bM.out.2.1,bM.out.2.2⟩
   ·have hb:¬ ((k:Int) < len):=by omega
    go_wp2_with fail;refine HC.out.mono ?_;rintro e w7 ⟨r,m,rfl,hm,hc,mE⟩;obtain⟨ra,rc,iX⟩:=qj hc.1;subst iX;have s0:=Cx.q8 mE r0;have s1:w7.frozen? ⟨w.heap.size,0,none⟩=false:=qv mE hbb r1;have fin:m.map Ce.cl=q25 l/\q1p (w7.setCell ⟨w.heap.size,0,none⟩ (.slice ra m.length rc)) w.heap.size (.slice ra m.length rc) m/\BwQ w (w7.setCell ⟨w.heap.size,0,none⟩ (.slice ra m.length rc)):=⟨hm,(hc.set (a:=⟨w.heap.size,0,none⟩) hbb _).mono (by omega),((btr aP mE)).setCell (nlr _) _⟩
    have bM:=lhd fin;clear fin hm hc mE;go_wp2_with fail;refine bodyPost_ret (v:=.agg #[.slice ra m.length rc]) (by simp[results,Tryz.results16,go_sem,(Bv.put (w:=w7) (b:=w.heap.size) ⟨s0,s1⟩ (.slice ra m.length rc)).1]) rfl ?_;exact⟨.slice ra m.length rc,m,rfl,bM.out.1,bM.out.2.1,bM.out.2.2⟩
theorem qfd {all:List (List Int)} {x:List Int} {n:Nat} {s:Sd} (h:s∈z7 all x n):1<=s.c/\s.c<=(all.length:Int)+1/\(s.g=1\/s.g = -1):=by obtain⟨k,_,rfl⟩:=gr.1 h;have:=q8u all (x.take k++x.drop (k+1));refine⟨by show (1:Int)<=_+1;omega,by show (_:Int)+1<=_+1;omega,?_⟩;show 1 - 2*((k % 2:Nat):Int)=1\/1 - 2*((k % 2:Nat):Int) = -1;omega
theorem qhs (ls:List (List Int)) (hn:ls.length<=12) (hs:∀ s∈ls,s.length<=4):KOk (q0m ls)/\(z8 (q0m ls)).length<=720/\(q0m ls).length<=180:=by
 have hl:=q3v ls hs;have hok:=q8x ls hs;unfold q0m;generalize kg ls=A at hl hok;have AG:∀ i,(A.getD i []).length<=4:=fun i=>by
  rw[gO];cases h:A[i]? with
  | none=>simp
  | some x=>exact hok x (gh h)
 have aK:∀ i,(xy A i (A.getD i [])).s.length<=4:=fun i=>by show (zx _).length<=4;rw[q23];have:=AG i;simp only [z7,List.length_map,List.length_range];split <;> omega
 refine⟨fun y hy=>?_,?_,by simp[xf];omega⟩
 ·obtain⟨i,hi,rfl⟩:=gr.1 hy;have hi:=gD.1 hi;have h4:=AG i;refine⟨⟨by show I64 ((i:Int)+1);unfold I64;omega,by show I64 (((A.getD i []).length:Int) - 1);unfold I64;omega⟩,by have:=aK i;omega,fun s hs=>?_⟩;have:=qfd (q66 hs);unfold I64;omega
 ·have key:∀ n,(z8 (xf A n)).length<=n*4:=fun n=>by
   induction n with
   | zero=>simp[xf,z8]
   | succ n ih =>
    rw[q4o];have:z8 (xf A n++[xy A n (A.getD n [])])=z8 (xf A n)++z8 [xy A n (A.getD n [])]:=by simp[z8]
    rw[this,gc];have h1:(z8 [xy A n (A.getD n [])]).length=(xy A n (A.getD n [])).s.length:=by simp[z8]
    have:=aK n;omega
  have:=key A.length;omega
theorem qht (l:List Int):KOk (q25 l)/\(z8 (q25 l)).length<=720/\(q25 l).length<=180 :=
 qhs _ (by rw[gn,gd];omega) fun s hs=>by obtain⟨x,_,rfl⟩:=gr.1 hs;exact(q5d x).1
end Go.Proofs.YtlhicnfeajejhaaGreatDoor
