/- Steps towards MorseMaps. Conditions: none. -/
import Derived.Test.YtlhicnfeajejhaaGreatDoorHOg
set_option maxRecDepth 1000000
set_option maxHeartbeats 16000000
namespace Go.Cx
open Go.RowKit
def vsF (n:Int) (v:Nat):List Int:=((List.range v).filter fun k=>decide (n / 2 ^ k % 2=1)).map fun (k:Nat)=>(k:Int)
def q11 (n:Int):List Int:=(vsF n 6).take 4
theorem qah (n:Int) (v:Nat):vsF n (v+1)=vsF n v++(if n / 2 ^ v % 2=1 then [(v:Int)] else []):=by
 unfold vsF;rw[bp,bB,bm];by_cases h:n / 2 ^ v % 2=1
 ·simp[h]
 ·simp[h]
theorem qdy (n:Int) (v:Nat):∀ m,∃ r,vsF n (v+m)=vsF n v++r
 | 0=>⟨[],by simp⟩
 | m+1=>by
  obtain⟨r,hr⟩:=qdy n v m;exact⟨_,by rw[<-Nat.add_assoc,qah,hr,gE]⟩
theorem qkn (n:Int) (v:Nat) (hv:v<=6) (h4:(vsF n v).length<=4) (h:v=6\/(vsF n v).length=4):q11 n=vsF n v:=by
 obtain⟨r,hr⟩:=qdy n v (6 - v);rw[show v+(6 - v)=6 by omega] at hr;unfold q11;rcases h with h | h
 ·subst h;exact gm h4
 ·rw[hr,List.take_left' h]
theorem qc4 (n:Int) (v:Nat):(vsF n v).Pairwise (· < ·):=by
 unfold vsF;rw[List.pairwise_map];exact(List.pairwise_lt_range.filter _).imp fun h=>by omega
theorem q5d (n:Int):(q11 n).length<=4/\(q11 n).Pairwise (· < ·)/\∀ x∈q11 n,0<=x/\x<=9223372036854775807:=by
 refine⟨by unfold q11;rw[gd];omega,(qc4 n 6).sublist (List.take_sublist _ _),fun x hx=>?_⟩;have:=gK hx;obtain⟨k,hk,rfl⟩:=go.1 this;have:=gC.1 (gL.1 hk).1;omega
def q25 (l:List Int):List Cl:=q0m ((l.take 12).map q11)
end Go.Cx
namespace Go.Proofs.YtlhicnfeajejhaaGreatDoor
open Go.RowKit Go.Cx
attribute [local go_sem ↓] Go.wp_at_zero Go.wp_at_succ
theorem qai (v:Value) (l:List Int) (w:World) (h:Sl w 1 v (ints l)) :
  Calls Tryz.prog 16 #[v] w fun e w'=>∃ r m,e = .returned (.agg #[r])/\m.map Ce.cl=q25 l/\q1p w' w.heap.size r m/\Below w.heap.size w w':=by
 obtain⟨a,len,cap,rfl,h1,h2,h3,h4,h5⟩:=h;unfold maxLen at h2;rw[xl,gM] at h3;have HL:=lhd h3;clear h3;have H4:=lhd h4;clear h4;have H5:=lhd h5;clear h5;go_enter Tryz.func16,Tryz.ntmps16;go_wp2;obtain⟨W,hW⟩ : ∃ W:World,W=w.alloc (.cells #[.slice none 0 0] 26):=⟨_,rfl⟩
 rw[<-hW];have b0:Bv W w.heap.size (.slice none 0 0):=by rw[hW];exact Bv.new w _ _
 have hw:Below w.heap.size w W:=by rw[hW];exact(Below.refl _ _).alloc (nlr _) _
 have HZ:=lhd (show W.heap.size=w.heap.size+1 by rw[hW];simp);have kA:=lhd b0;clear hW b0;go_loopw [3,4] (fun o i wr=>∃ (k:Nat) (vs:List Value),i = .int .i64 k/\k<=len/\k<=12/\Hid (wr.ownsRow W.heap.size 22 1 o k vs)/\Hid (vs.length=k) ∧
  Hid (∀ (i:Nat) (u:Value) (s:List Int),vs[i]? = some u->((l.take k).map q11)[i]? = some s->wr.ownsRow W.heap.size 3 1 u s.length (ints s))/\Below W.heap.size W wr) (fun _ i _=>len - (vI i).toNat)
 case atStart=>exact⟨0,[],rfl,gp _,by omega,(show Hid _ from World.ownsRow_nil _ _ _ _),(show Hid _ from rfl),(show Hid _ from fun i u s hu=>by simp at hu),Below.refl _ _⟩
 case round =>
  obtain⟨k,vs,rfl,hk,U3,HR,DE,HE,hB⟩:=hrel;have aM:Below w.heap.size w wr:=hw.trans (hB.mono hw.size);by_cases hlt:k < len/\k < 12
  ·obtain⟨aZ,G9⟩:=hlt;obtain⟨ad,rfl⟩ : ∃ ad,a=some ad:=by
    cases a with
    | none=>have:=H4.out rfl;omega
    | some ad=>exact⟨ad,rfl⟩
   obtain⟨x,hx⟩ : ∃ x,l[k]? = some x:=⟨_,g8 (by rw[HL.out];exact aZ)⟩
   have U4:=lhd (H5.out ad rfl k _ (show (ints l)[k]? = some (.int .i64 x) by simp[ints,hx]));have cw:(l.take (k+1)).map q11=(l.take k).map q11++[q11 x]:=by rw[gq,hx];simp
   have cW:=lhd cw;have qX:=lhd (show ((l.take k).map q11).length=k by rw[gn,gd,HL.out];omega);clear hx cw;obtain⟨wo,dB⟩ : ∃ wo:World,wo=wr:=⟨_,rfl⟩
   subst dB;go_wp2;rw[show decide ((k:Int) < 12)=true from decide_eq_true (by omega)];go_loopw [5,6] (fun o i wr=>∃ v:Nat,i = .int .i64 v/\v<=6/\Hid ((vsF x v).length<=4)/\Hid (wr.ownsRow wo.heap.size 3 1 o (vsF x v).length (ints (vsF x v)))/\Below wo.heap.size wo wr) (fun _ i _=>6 - (vI i).toNat)
   case atStart=>exact⟨0,rfl,gp _,(show Hid _ from gp _),(show Hid _ from World.ownsRow_nil _ _ _ _),Below.refl _ _⟩
   case round =>
    obtain⟨v,rfl,U5,OY,DF,dF⟩:=hrel;obtain⟨oa,oc,oW⟩:=qj DF.out;subst oW;obtain⟨n,hn⟩ : ∃ n,n=(vsF x v).length:=⟨_,rfl⟩
    rw[<-hn] at OY DF ⊢;have HN:=lhd hn;have GP:n<=4:=OY.out;have d0:wr.cell? (ad.add k)=some (.int .i64 x):=Cx.q8 (aM.trans (dF.mono aM.size)) U4.out;clear hn;by_cases nz:v < 6/\n < 4
    ·obtain⟨hv,qA⟩:=nz;have rF:bits .and .i64 (x / 2 ^ v) 1=x / 2 ^ v % 2:=qag _;have aJ:wo.heap.size<=wr.heap.size:=dF.size;have mX:=qah x v;have rE:=lhd mX;clear mX;by_cases hc:x / 2 ^ v % 2=1
     ·rw[hc] at rF;rw[if_pos hc] at rE;clear hc;go_wp2_with (at_builtin;refine qo (W:=wo) rfl _ _ 22 rfl wo.heap.size 3 Tryz.xg Tryz.underlying22 rfl (by decide) (by decide) _ _ _ rfl DF.out [.int .i64 v] rfl rfl (q5v _) (by omega) dF aJ ?_);intro v5 w5 bT _ aH;have F5:=lhd (aiq bT aH);clear bT aH;go_wp2;go_roundw
      case measure=>simp[vI];omega
      case rel =>
       refine⟨v+1,qh (by omega),by omega,(show Hid _ from ?_),(show Hid _ from ?_),F5.out.2⟩
       ·show _<=4;rw[rE.out,gc,<-HN.out];simp;omega
       ·rw[rE.out,j3,gc,<-HN.out];exact F5.out.1
     ·have OZ:x / 2 ^ v % 2=0:=by omega
      rw[OZ] at rF;rw[if_neg hc,gN] at rE;clear hc OZ;go_wp2;go_roundw
      case measure=>simp[vI];omega
      case rel=>exact⟨v+1,qh (by omega),by omega,(show Hid _ from by show _<=4;rw[rE.out,<-HN.out];exact GP),(show Hid _ from by rw[rE.out,<-HN.out];exact DF.out),dF⟩
    ·have qR:q11 x=vsF x v:=qkn x v U5 (by rw[<-HN.out];exact GP) (by rw[<-HN.out];omega);have Pa:=qa HR.out dF;have GQ:=lhd Pa;have DG:W.heap.size<=wr.heap.size:=gl hB.size dF.size;have U6:W.heap.size<=wo.heap.size:=hB.size;have ug:v < 6->¬ ((n:Int) < 4):=fun _=>by omega
     have fin:∀ (v6:Value) (w6:World),w6.ownsRow W.heap.size 22 1 v6 (k+1) (vs++[.slice oa n oc])->wr.grownBy w6 u3.ownBlock->∃ zU:List Value,Hid (w6.ownsRow W.heap.size 22 1 v6 (k+1) zU)/\Hid (zU.length=k+1) ∧
       Hid (∀ (i:Nat) (u:Value) (s:List Int),zU[i]? = some u->((l.take (k+1)).map q11)[i]? = some s->w6.ownsRow W.heap.size 3 1 u s.length (ints s))/\Below W.heap.size W w6:=fun v6 w6 h1 h2=>by
      refine⟨vs++[.slice oa n oc],lhd h1,(show Hid _ from by show _=_;rw[gc,DE.out];rfl),(show Hid _ from fun i u s hu hs=>?_),(hB.trans (dF.mono hB.size)).grown h2 DG (fun b e=>(HR.out.lt b e).1)⟩;rw[cW.out] at hs;rcases gQ i k with oZ | oZ
      ·rw[bF (by rw[DE.out];exact oZ)] at hu;rw[bF (by rw[qX.out];exact oZ)] at hs;have g1:=qa (HE.out i u s hu hs) dF;exact g1.kept h2 (q1d g1 GQ.out (by decide))
      ·rw[gW (by rw[DE.out];exact oZ),DE.out] at hu;rw[gW (by rw[qX.out];exact oZ),qX.out] at hs;have KI:i - k=0:=by
        rcases Nat.eq_zero_or_pos (i - k) with h | h
        ·exact h
        ·rw[List.getElem?_eq_none (by simp;omega)] at hu;cases hu
       rw[KI] at hu hs;simp at hu hs;subst hu hs;rw[qR,<-HN.out];have g1:=qf DF.out U6;exact g1.kept h2 (q1d g1 GQ.out (by decide))
     have bI:=lhd fin;have U7:=lhd qR;clear fin qR Pa;by_cases tM:v < 6
     ·have aT:=ug tM;go_wp2_with (at_builtin;refine qo (W:=wr) rfl _ _ 95 rfl W.heap.size 22 Tryz.q06 Tryz.underlying95 rfl (by decide) (by decide) _ _ _ rfl GQ.out [.slice oa n oc] rfl rfl (fun u hu=>by simp at hu;subst hu;rfl) (by omega) (Below.refl _ _) DG ?_);intro v6 w6 cV om _;obtain⟨zU,q1,q2,q3,q4⟩:=bI.out v6 w6 cV om;clear cV om;go_wp2;go_roundw
      case measure=>simp[vI];omega
      case rel=>exact⟨k+1,zU,qh (by omega),by omega,by omega,q1,q2,q3,q4⟩
     ·have U8:¬ ((v:Int) < 6):=by omega
      go_wp2_with (at_builtin;refine qo (W:=wr) rfl _ _ 95 rfl W.heap.size 22 Tryz.q06 Tryz.underlying95 rfl (by decide) (by decide) _ _ _ rfl GQ.out [.slice oa n oc] rfl rfl (fun u hu=>by simp at hu;subst hu;rfl) (by omega) (Below.refl _ _) DG ?_);intro v6 w6 cV om _;obtain⟨zU,q1,q2,q3,q4⟩:=bI.out v6 w6 cV om;clear cV om;go_wp2;go_roundw
      case measure=>simp[vI];omega
      case rel=>exact⟨k+1,zU,qh (by omega),by omega,by omega,q1,q2,q3,q4⟩
  ·have qV:(l.take k).map q11=(l.take 12).map q11:=by
    rcases gQ k len with hh | hh
    ·rw[show k=12 by omega]
    ·rw[gm (by rw[HL.out];exact hh),gm (by rw[HL.out];omega)]
   have GR:k < len->¬ ((k:Int) < 12):=fun _=>by omega
   have KJ:((l.take k).map q11).length=k:=by rw[gn,gd,HL.out];omega
   rw[qV] at HE KJ;obtain⟨oa,oc,oW⟩:=qj HR.out;subst oW;have aW:SlI wr (.slice oa k oc) ((l.take 12).map q11):=⟨vs,Sl.qc HR.out,by rw[DE.out,KJ],fun i u s hu hs=>Sl.qc (HE.out i u s hu hs)⟩
   have hls:((l.take 12).map q11).length<=12:=by rw[gn,gd];omega
   have hok:∀ s∈(l.take 12).map q11,s.length<=4/\s.Pairwise (· < ·)/\∀ x∈s,0<=x/\x<=9223372036854775807:=fun s hs=>by
    obtain⟨x,_,rfl⟩:=go.1 hs;exact q5d x
   have af:=q1e _ _ wr aW hls hok;have HC:=lhd af;obtain⟨r0,r1⟩:=kA.out.below hB (by have:=HZ.out;omega);have hbb:w.heap.size < wr.heap.size:=World.block_lt_of_cell? wr _ r0;clear qV aW hls hok af KJ;by_cases aZ:k < len
   ·have hb:=GR aZ;go_wp2_with fail;refine HC.out.mono ?_;rintro e w7 ⟨r,m,rfl,hm,hc,iY⟩;obtain⟨ra,rc,fV⟩:=qj hc.1;subst fV;have s0:=Cx.q8 iY r0;have s1:w7.frozen? ⟨w.heap.size,0,none⟩=false:=qv iY hbb r1;have fin:m.map Ce.cl=q25 l/\q1p (w7.setCell ⟨w.heap.size,0,none⟩ (.slice ra m.length rc)) w.heap.size (.slice ra m.length rc) m/\Below w.heap.size w (w7.setCell ⟨w.heap.size,0,none⟩ (.slice ra m.length rc)):=⟨hm,(hc.set (a:=⟨w.heap.size,0,none⟩) hbb _).mono (by omega),(aM.trans (iY.mono aM.size)).setCell (nlr _) _⟩
    have bI:=lhd fin;clear fin hm hc iY;go_wp2_with fail;refine bodyPost_ret (v:=.agg #[.slice ra m.length rc]) (by simp[results,Tryz.results16,go_sem,(Bv.put (w:=w7) (b:=w.heap.size) ⟨s0,s1⟩ (.slice ra m.length rc)).1]) rfl ?_;exact⟨.slice ra m.length rc,m,rfl,bI.out.1,bI.out.2.1,bI.out.2.2⟩
   ·have hb:¬ ((k:Int) < len):=by omega
    go_wp2_with fail;refine HC.out.mono ?_;rintro e w7 ⟨r,m,rfl,hm,hc,iY⟩;obtain⟨ra,rc,fV⟩:=qj hc.1;subst fV;have s0:=Cx.q8 iY r0;have s1:w7.frozen? ⟨w.heap.size,0,none⟩=false:=qv iY hbb r1;have fin:m.map Ce.cl=q25 l/\q1p (w7.setCell ⟨w.heap.size,0,none⟩ (.slice ra m.length rc)) w.heap.size (.slice ra m.length rc) m/\Below w.heap.size w (w7.setCell ⟨w.heap.size,0,none⟩ (.slice ra m.length rc)):=⟨hm,(hc.set (a:=⟨w.heap.size,0,none⟩) hbb _).mono (by omega),(aM.trans (iY.mono aM.size)).setCell (nlr _) _⟩
    have bI:=lhd fin;clear fin hm hc iY;go_wp2_with fail;refine bodyPost_ret (v:=.agg #[.slice ra m.length rc]) (by simp[results,Tryz.results16,go_sem,(Bv.put (w:=w7) (b:=w.heap.size) ⟨s0,s1⟩ (.slice ra m.length rc)).1]) rfl ?_;exact⟨.slice ra m.length rc,m,rfl,bI.out.1,bI.out.2.1,bI.out.2.2⟩
end Go.Proofs.YtlhicnfeajejhaaGreatDoor
namespace Go.Proofs.YtlhicnfeajejhaaGreatDoor
open Go.RowKit Go.Cx
theorem qfd {all:List (List Int)} {x:List Int} {n:Nat} {s:Sd} (h:s∈z7 all x n):1<=s.c/\s.c<=(all.length:Int)+1/\(s.g=1\/s.g = -1):=by
 obtain⟨k,_,rfl⟩:=go.1 h;have:=q8u all (x.take k++x.drop (k+1));refine⟨by show (1:Int)<=_+1;omega,by show (_:Int)+1<=_+1;omega,?_⟩;show 1 - 2*((k % 2:Nat):Int)=1\/1 - 2*((k % 2:Nat):Int) = -1;omega
theorem qhs (ls:List (List Int)) (hn:ls.length<=12) (hs:∀ s∈ls,s.length<=4):KOk (q0m ls)/\(z8 (q0m ls)).length<=720/\(q0m ls).length<=180:=by
 have hl:=q3v ls hs;have hok:=q8x ls hs;unfold q0m;generalize kg ls=A at hl hok;have zV:∀ i,(A.getD i []).length<=4:=fun i=>by
  rw[gF];cases h:A[i]? with
  | none=>simp
  | some x=>exact hok x (gh h)
 have aW:∀ i,(xy A i (A.getD i [])).s.length<=4:=fun i=>by
  show (zx _).length<=4;rw[q23];have:=zV i;simp only [z7,List.length_map,List.length_range];split <;> omega
 refine⟨fun y hy=>?_,?_,by simp[xf];omega⟩
 ·obtain⟨i,hi,rfl⟩:=go.1 hy;have hi:=gC.1 hi;have h4:=zV i;refine⟨⟨by show I64 ((i:Int)+1);unfold I64;omega,by show I64 (((A.getD i []).length:Int) - 1);unfold I64;omega⟩,by have:=aW i;omega,fun s hs=>?_⟩;have:=qfd (q66 hs);unfold I64;omega
 ·have key:∀ n,(z8 (xf A n)).length<=n*4:=fun n=>by
   induction n with
   | zero=>simp[xf,z8]
   | succ n ih =>
    rw[q4o];have:z8 (xf A n++[xy A n (A.getD n [])])=z8 (xf A n)++z8 [xy A n (A.getD n [])]:=by simp[z8]
    rw[this,gc];have h1:(z8 [xy A n (A.getD n [])]).length=(xy A n (A.getD n [])).s.length:=by simp[z8]
    have:=aW n;omega
  have:=key A.length;omega
theorem qht (l:List Int):KOk (q25 l)/\(z8 (q25 l)).length<=720/\(q25 l).length<=180 :=
 qhs _ (by rw[gn,gd];omega) fun s hs=>by
  obtain⟨x,_,rfl⟩:=go.1 hs;exact(q5d x).1
end Go.Proofs.YtlhicnfeajejhaaGreatDoor
