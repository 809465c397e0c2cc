/- Steps towards MorseChecks. Conditions: none. -/
import Derived.Test.YtlhicnfeajejhaaGreatDoorFOg
set_option maxRecDepth 1000000
set_option maxHeartbeats 16000000
namespace Go.Cx
open Go.RowKit
def vsF (n:Int) (v:Nat):List Int:=((List.range v).filter fun k=>decide (n / 2 ^ k % 2=1)).map fun (k:Nat)=>(k:Int)
def q11 (n:Int):List Int:=(vsF n 6).take 4
theorem qah (n:Int) (v:Nat):vsF n (v+1)=vsF n v++(if n / 2 ^ v % 2=1 then [(v:Int)] else []):=by
 unfold vsF;rw[bp,bm,bo];by_cases h:n / 2 ^ v % 2=1
 ·simp[h]
 ·simp[h]
theorem qdy (n:Int) (v:Nat):∀ m,∃ r,vsF n (v+m)=vsF n v++r
 | 0=>⟨[],by simp⟩
 | m+1=>by
  obtain⟨r,hr⟩:=qdy n v m;exact⟨_,by rw[<-Nat.add_assoc,qah,hr,gz]⟩
theorem qkn (n:Int) (v:Nat) (hv:v<=6) (h4:(vsF n v).length<=4) (h:v=6\/(vsF n v).length=4):q11 n=vsF n v:=by
 obtain⟨r,hr⟩:=qdy n v (6 - v);rw[show v+(6 - v)=6 by omega] at hr;unfold q11;rcases h with h | h
 ·subst h;exact ge h4
 ·rw[hr,List.take_left' h]
theorem qc4 (n:Int) (v:Nat):(vsF n v).Pairwise (· < ·):=by
 unfold vsF;rw[List.pairwise_map];exact(List.pairwise_lt_range.filter _).imp fun h=>by omega
theorem q5d (n:Int):(q11 n).length<=4/\(q11 n).Pairwise (· < ·)/\∀ x∈q11 n,0<=x/\x<=9223372036854775807:=by
 refine⟨by unfold q11;rw[gh];omega,(qc4 n 6).sublist (List.take_sublist _ _),fun x hx=>?_⟩;have:=gU hx;obtain⟨k,hk,rfl⟩:=go.1 this;have:=gy.1 (gH.1 hk).1;omega
def q25 (l:List Int):List Cl:=q0m ((l.take 12).map q11)
end Go.Cx
namespace Go.Proofs.YtlhicnfeajejhaaGreatDoor
open Go.RowKit Go.Cx
attribute [local go_sem ↓] Go.wp_at_zero Go.wp_at_succ
theorem qai (v:Value) (l:List Int) (w:World) (h:Sl w 1 v (ints l)) :
  Calls Tryz.prog 16 #[v] w fun e w'=>∃ r m,e = .returned (.agg #[r])/\m.map Ce.cl=q25 l/\q1p w' w.heap.size r m/\Below w.heap.size w w':=by
 obtain⟨a,len,cap,rfl,h1,h2,h3,h4,h5⟩:=h;unfold maxLen at h2;rw[xl,gK] at h3;have HL:=lhd h3;clear h3;have H4:=lhd h4;clear h4;have H5:=lhd h5;clear h5;go_enter Tryz.func16,Tryz.ntmps16;go_wp2;obtain⟨W,hW⟩ : ∃ W:World,W=w.alloc (.cells #[.slice none 0 0] 26):=⟨_,rfl⟩
 rw[<-hW];have b0:Bv W w.heap.size (.slice none 0 0):=by rw[hW];exact Bv.new w _ _
 have hw:Below w.heap.size w W:=by rw[hW];exact(Below.refl _ _).alloc (nlr _) _
 have HZ:=lhd (show W.heap.size=w.heap.size+1 by rw[hW];simp);have i7:=lhd b0;clear hW b0;go_loopw [3,4] (fun o i wr=>∃ (k:Nat) (vs:List Value),i = .int .i64 k/\k<=len/\k<=12/\Hid (wr.ownsRow W.heap.size 22 1 o k vs)/\Hid (vs.length=k) ∧
  Hid (∀ (i:Nat) (u:Value) (s:List Int),vs[i]? = some u->((l.take k).map q11)[i]? = some s->wr.ownsRow W.heap.size 3 1 u s.length (ints s))/\Below W.heap.size W wr) (fun _ i _=>len - (vI i).toNat)
 case atStart=>exact⟨0,[],rfl,gp _,by omega,(show Hid _ from World.ownsRow_nil _ _ _ _),(show Hid _ from rfl),(show Hid _ from fun i u s hu=>by simp at hu),Below.refl _ _⟩
 case round =>
  obtain⟨k,vs,rfl,hk,RK,HR,Cp,HE,hB⟩:=hrel;have aL:Below w.heap.size w wr:=hw.trans (hB.mono hw.size);by_cases hlt:k < len/\k < 12
  ·obtain⟨aR,E6⟩:=hlt;obtain⟨ad,rfl⟩ : ∃ ad,a=some ad:=by
    cases a with
    | none=>have:=H4.out rfl;omega
    | some ad=>exact⟨ad,rfl⟩
   obtain⟨x,hx⟩ : ∃ x,l[k]? = some x:=⟨_,g8 (by rw[HL.out];exact aR)⟩
   have RL:=lhd (H5.out ad rfl k _ (show (ints l)[k]? = some (.int .i64 x) by simp[ints,hx]));have cZ:(l.take (k+1)).map q11=(l.take k).map q11++[q11 x]:=by rw[gq,hx];simp
   have dc:=lhd cZ;have oV:=lhd (show ((l.take k).map q11).length=k by rw[gm,gh,HL.out];omega);clear hx cZ;obtain⟨wo,db⟩ : ∃ wo:World,wo=wr:=⟨_,rfl⟩
   subst db;go_wp2;rw[show decide ((k:Int) < 12)=true from decide_eq_true (by omega)];go_loopw [5,6] (fun o i wr=>∃ v:Nat,i = .int .i64 v/\v<=6/\Hid ((vsF x v).length<=4)/\Hid (wr.ownsRow wo.heap.size 3 1 o (vsF x v).length (ints (vsF x v)))/\Below wo.heap.size wo wr) (fun _ i _=>6 - (vI i).toNat)
   case atStart=>exact⟨0,rfl,gp _,(show Hid _ from gp _),(show Hid _ from World.ownsRow_nil _ _ _ _),Below.refl _ _⟩
   case round =>
    obtain⟨v,rfl,RM,MH,Cq,dT⟩:=hrel;obtain⟨oa,oc,nw⟩:=qj Cq.out;subst nw;obtain⟨n,hn⟩ : ∃ n,n=(vsF x v).length:=⟨_,rfl⟩
    rw[<-hn] at MH Cq ⊢;have HN:=lhd hn;have IC:n<=4:=MH.out;have d0:wr.cell? (ad.add k)=some (.int .i64 x):=Cx.q8 (aL.trans (dT.mono aL.size)) RL.out;clear hn;by_cases rD:v < 6/\n < 4
    ·obtain⟨hv,sw⟩:=rD;have pF:bits .and .i64 (x / 2 ^ v) 1=x / 2 ^ v % 2:=qag _;have bL:wo.heap.size<=wr.heap.size:=dT.size;have o3:=qah x v;have pE:=lhd o3;clear o3;by_cases hc:x / 2 ^ v % 2=1
     ·rw[hc] at pF;rw[if_pos hc] at pE;clear hc;go_wp2_with (at_builtin;refine qo (W:=wo) rfl _ _ 22 rfl wo.heap.size 3 Tryz.xg Tryz.underlying22 rfl (by decide) (by decide) _ _ _ rfl Cq.out [.int .i64 v] rfl rfl (q5v _) (by omega) dT bL ?_);intro v5 w5 cH _ aT;have F5:=lhd (aiq cH aT);clear cH aT;go_wp2;go_roundw
      case measure=>simp[vI];omega
      case rel =>
       refine⟨v+1,qh (by omega),by omega,(show Hid _ from ?_),(show Hid _ from ?_),F5.out.2⟩
       ·show _<=4;rw[pE.out,gl,<-HN.out];simp;omega
       ·rw[pE.out,j3,gl,<-HN.out];exact F5.out.1
     ·have MI:x / 2 ^ v % 2=0:=by omega
      rw[MI] at pF;rw[if_neg hc,gQ] at pE;clear hc MI;go_wp2;go_roundw
      case measure=>simp[vI];omega
      case rel=>exact⟨v+1,qh (by omega),by omega,(show Hid _ from by show _<=4;rw[pE.out,<-HN.out];exact IC),(show Hid _ from by rw[pE.out,<-HN.out];exact Cq.out),dT⟩
    ·have oR:q11 x=vsF x v:=qkn x v RM (by rw[<-HN.out];exact IC) (by rw[<-HN.out];omega);have MJ:=qa HR.out dT;have EK:=lhd MJ;have Cr:W.heap.size<=wr.heap.size:=gn hB.size dT.size;have RN:W.heap.size<=wo.heap.size:=hB.size;have sD:v < 6->¬ ((n:Int) < 4):=fun _=>by omega
     have fin:∀ (v6:Value) (w6:World),w6.ownsRow W.heap.size 22 1 v6 (k+1) (vs++[.slice oa n oc])->wr.grownBy w6 u3.ownBlock->∃ wW:List Value,Hid (w6.ownsRow W.heap.size 22 1 v6 (k+1) wW)/\Hid (wW.length=k+1) ∧
       Hid (∀ (i:Nat) (u:Value) (s:List Int),wW[i]? = some u->((l.take (k+1)).map q11)[i]? = some s->w6.ownsRow W.heap.size 3 1 u s.length (ints s))/\Below W.heap.size W w6:=fun v6 w6 h1 h2=>by
      refine⟨vs++[.slice oa n oc],lhd h1,(show Hid _ from by show _=_;rw[gl,Cp.out];rfl),(show Hid _ from fun i u s hu hs=>?_),(hB.trans (dT.mono hB.size)).grown h2 Cr (fun b e=>(HR.out.lt b e).1)⟩;rw[dc.out] at hs;rcases gL i k with nC | nC
      ·rw[br (by rw[Cp.out];exact nC)] at hu;rw[br (by rw[oV.out];exact nC)] at hs;have g1:=qa (HE.out i u s hu hs) dT;exact g1.kept h2 (q1d g1 EK.out (by decide))
      ·rw[gO (by rw[Cp.out];exact nC),Cp.out] at hu;rw[gO (by rw[oV.out];exact nC),oV.out] at hs;have ID:i - k=0:=by
        rcases Nat.eq_zero_or_pos (i - k) with h | h
        ·exact h
        ·rw[List.getElem?_eq_none (by simp;omega)] at hu;cases hu
       rw[ID] at hu hs;simp at hu hs;subst hu hs;rw[oR,<-HN.out];have g1:=qf Cq.out RN;exact g1.kept h2 (q1d g1 EK.out (by decide))
     have aP:=lhd fin;have RO:=lhd oR;clear fin oR MJ;by_cases rV:v < 6
     ·have cP:=sD rV;go_wp2_with (at_builtin;refine qo (W:=wr) rfl _ _ 95 rfl W.heap.size 22 Tryz.q06 Tryz.underlying95 rfl (by decide) (by decide) _ _ _ rfl EK.out [.slice oa n oc] rfl rfl (fun u hu=>by simp at hu;subst hu;rfl) (by omega) (Below.refl _ _) Cr ?_);intro v6 w6 dB uw _;obtain⟨wW,q1,q2,q3,q4⟩:=aP.out v6 w6 dB uw;clear dB uw;go_wp2;go_roundw
      case measure=>simp[vI];omega
      case rel=>exact⟨k+1,wW,qh (by omega),by omega,by omega,q1,q2,q3,q4⟩
     ·have RP:¬ ((v:Int) < 6):=by omega
      go_wp2_with (at_builtin;refine qo (W:=wr) rfl _ _ 95 rfl W.heap.size 22 Tryz.q06 Tryz.underlying95 rfl (by decide) (by decide) _ _ _ rfl EK.out [.slice oa n oc] rfl rfl (fun u hu=>by simp at hu;subst hu;rfl) (by omega) (Below.refl _ _) Cr ?_);intro v6 w6 dB uw _;obtain⟨wW,q1,q2,q3,q4⟩:=aP.out v6 w6 dB uw;clear dB uw;go_wp2;go_roundw
      case measure=>simp[vI];omega
      case rel=>exact⟨k+1,wW,qh (by omega),by omega,by omega,q1,q2,q3,q4⟩
  ·have rX:(l.take k).map q11=(l.take 12).map q11:=by
    rcases gL k len with hh | hh
    ·rw[show k=12 by omega]
    ·rw[ge (by rw[HL.out];exact hh),ge (by rw[HL.out];omega)]
   have EL:k < len->¬ ((k:Int) < 12):=fun _=>by omega
   have IE:((l.take k).map q11).length=k:=by rw[gm,gh,HL.out];omega
   rw[rX] at HE IE;obtain⟨oa,oc,nw⟩:=qj HR.out;subst nw;have aX:SlI wr (.slice oa k oc) ((l.take 12).map q11):=⟨vs,Sl.qc HR.out,by rw[Cp.out,IE],fun i u s hu hs=>Sl.qc (HE.out i u s hu hs)⟩
   have hls:((l.take 12).map q11).length<=12:=by rw[gm,gh];omega
   have hok:∀ s∈(l.take 12).map q11,s.length<=4/\s.Pairwise (· < ·)/\∀ x∈s,0<=x/\x<=9223372036854775807:=fun s hs=>by
    obtain⟨x,_,rfl⟩:=go.1 hs;exact q5d x
   have ae:=q1e _ _ wr aX hls hok;have HC:=lhd ae;obtain⟨r0,r1⟩:=i7.out.below hB (by have:=HZ.out;omega);have mX:w.heap.size < wr.heap.size:=World.block_lt_of_cell? wr _ r0;clear rX aX hls hok ae IE;by_cases aR:k < len
   ·have hb:=EL aR;go_wp2_with fail;refine HC.out.mono ?_;rintro e w7 ⟨r,m,rfl,hm,hc,jB⟩;obtain⟨ra,rc,fM⟩:=qj hc.1;subst fM;have s0:=Cx.q8 jB r0;have s1:w7.frozen? ⟨w.heap.size,0,none⟩=false:=qv jB mX r1;have fin:m.map Ce.cl=q25 l/\q1p (w7.setCell ⟨w.heap.size,0,none⟩ (.slice ra m.length rc)) w.heap.size (.slice ra m.length rc) m/\Below w.heap.size w (w7.setCell ⟨w.heap.size,0,none⟩ (.slice ra m.length rc)):=⟨hm,(hc.set (a:=⟨w.heap.size,0,none⟩) mX _).mono (by omega),(aL.trans (jB.mono aL.size)).setCell (nlr _) _⟩
    have aP:=lhd fin;clear fin hm hc jB;go_wp2_with fail;refine bodyPost_ret (v:=.agg #[.slice ra m.length rc]) (by simp[results,Tryz.results16,go_sem,(Bv.put (w:=w7) (b:=w.heap.size) ⟨s0,s1⟩ (.slice ra m.length rc)).1]) rfl ?_;exact⟨.slice ra m.length rc,m,rfl,aP.out.1,aP.out.2.1,aP.out.2.2⟩
   ·have hb:¬ ((k:Int) < len):=by omega
    go_wp2_with fail;refine HC.out.mono ?_;rintro e w7 ⟨r,m,rfl,hm,hc,jB⟩;obtain⟨ra,rc,fM⟩:=qj hc.1;subst fM;have s0:=Cx.q8 jB r0;have s1:w7.frozen? ⟨w.heap.size,0,none⟩=false:=qv jB mX r1;have fin:m.map Ce.cl=q25 l/\q1p (w7.setCell ⟨w.heap.size,0,none⟩ (.slice ra m.length rc)) w.heap.size (.slice ra m.length rc) m/\Below w.heap.size w (w7.setCell ⟨w.heap.size,0,none⟩ (.slice ra m.length rc)):=⟨hm,(hc.set (a:=⟨w.heap.size,0,none⟩) mX _).mono (by omega),(aL.trans (jB.mono aL.size)).setCell (nlr _) _⟩
    have aP:=lhd fin;clear fin hm hc jB;go_wp2_with fail;refine bodyPost_ret (v:=.agg #[.slice ra m.length rc]) (by simp[results,Tryz.results16,go_sem,(Bv.put (w:=w7) (b:=w.heap.size) ⟨s0,s1⟩ (.slice ra m.length rc)).1]) rfl ?_;exact⟨.slice ra m.length rc,m,rfl,aP.out.1,aP.out.2.1,aP.out.2.2⟩
theorem qfd {all:List (List Int)} {x:List Int} {n:Nat} {s:Sd} (h:s∈z7 all x n):1<=s.c/\s.c<=(all.length:Int)+1/\(s.g=1\/s.g = -1):=by
 obtain⟨k,_,rfl⟩:=go.1 h;have:=q8u all (x.take k++x.drop (k+1));refine⟨by show (1:Int)<=_+1;omega,by show (_:Int)+1<=_+1;omega,?_⟩;show 1 - 2*((k % 2:Nat):Int)=1\/1 - 2*((k % 2:Nat):Int) = -1;omega
theorem qhs (ls:List (List Int)) (hn:ls.length<=12) (hs:∀ s∈ls,s.length<=4):KOk (q0m ls)/\(z8 (q0m ls)).length<=720/\(q0m ls).length<=180:=by
 have hl:=q3v ls hs;have hok:=q8x ls hs;unfold q0m;generalize kg ls=A at hl hok;have wX:∀ i,(A.getD i []).length<=4:=fun i=>by
  rw[gI];cases h:A[i]? with
  | none=>simp
  | some x=>exact hok x (gd h)
 have aX:∀ i,(xy A i (A.getD i [])).s.length<=4:=fun i=>by
  show (zx _).length<=4;rw[q23];have:=wX i;simp only [z7,List.length_map,List.length_range];split <;> omega
 refine⟨fun y hy=>?_,?_,by simp[xf];omega⟩
 ·obtain⟨i,hi,rfl⟩:=go.1 hy;have hi:=gy.1 hi;have h4:=wX i;refine⟨⟨by show I64 ((i:Int)+1);unfold I64;omega,by show I64 (((A.getD i []).length:Int) - 1);unfold I64;omega⟩,by have:=aX i;omega,fun s hs=>?_⟩;have:=qfd (q66 hs);unfold I64;omega
 ·have key:∀ n,(z8 (xf A n)).length<=n*4:=fun n=>by
   induction n with
   | zero=>simp[xf,z8]
   | succ n ih =>
    rw[q4o];have:z8 (xf A n++[xy A n (A.getD n [])])=z8 (xf A n)++z8 [xy A n (A.getD n [])]:=by simp[z8]
    rw[this,gl];have h1:(z8 [xy A n (A.getD n [])]).length=(xy A n (A.getD n [])).s.length:=by simp[z8]
    have:=aX n;omega
  have:=key A.length;omega
theorem qht (l:List Int):KOk (q25 l)/\(z8 (q25 l)).length<=720/\(q25 l).length<=180 :=
 qhs _ (by rw[gm,gh];omega) fun s hs=>by
  obtain⟨x,_,rfl⟩:=go.1 hs;exact(q5d x).1
end Go.Proofs.YtlhicnfeajejhaaGreatDoor
