/- Steps towards MorseChecks. Conditions: none. -/
import Derived.Test.YtlhicnfeajejhaaGreatDoorFOm
set_option maxRecDepth 1000000
set_option maxHeartbeats 16000000
namespace Go.Cx
def lexB:List Int->List Int->Bool
 | x :: a,y :: b=>if x=y then lexB a b else decide (x < y)
 | _,_=>false
def yf (a b:List Int):Bool:=if a.length=b.length then lexB a b else decide (a.length < b.length)
theorem qdw:∀ (k:Nat) (a b:List Int) (x y:Int),a.take k=b.take k->a[k]? = some x->b[k]? = some y->x≠y->lexB a b=decide (x < y)
 | 0,a,b,x,y,_,h1,h2,ak=>by
  cases a with
  | nil=>cases h1
  | cons p a=>cases b with
   | nil=>cases h2
   | cons q b =>
    simp at h1 h2;subst h1 h2;simp[lexB,ak]
 | k+1,a,b,x,y,h,h1,h2,ak=>by
  cases a with
  | nil=>cases h1
  | cons p a=>cases b with
   | nil=>cases h2
   | cons q b =>
    simp only [List.take_succ_cons,List.cons.injEq] at h;simp only [List.getElem?_cons_succ] at h1 h2;show (if p=q then lexB a b else _)=_;rw[if_pos h.1];exact qdw k a b x y h.2 h1 h2 ak
theorem q7q:∀ a:List Int,lexB a a=false
 | []=>rfl
 | x :: a=>by show (if x=x then lexB a a else _)=_;rw[if_pos rfl];exact q7q a
end Go.Cx
namespace Go.Proofs.YtlhicnfeajejhaaGreatDoor
open Go.RowKit Go.Cx
attribute [local go_sem ↓] Go.wp_at_zero Go.wp_at_succ
theorem qac (v u:Value) (l m:List Int) (w:World) (h:Sl w 1 v (ints l)) (k:Sl w 1 u (ints m)) :
  Calls Tryz.prog 169 #[v,u] w fun e w'=>e = .returned (.bool (yf l m))/\Below w.heap.size w w':=by
 obtain⟨a,len,cap,rfl,h1,h2,h3,h4,h5⟩:=h;obtain⟨b,aj,bE,rfl,k1,k2,k3,k4,k5⟩:=k;unfold maxLen at h2 k2;rw[xl,gK] at h3 k3;have Hl:=lhd h3;clear h3;have Kl:=lhd k3;clear k3;have H4:=lhd h4;clear h4;have H5:=lhd h5;clear h5;have K4:=lhd k4;clear k4;have K5:=lhd k5;clear k5;by_cases bH:len=aj
 ·subst bH;have rp:yf l m=lexB l m:=by unfold yf;rw[if_pos (by rw[Hl.out,Kl.out])]
  rw[rp];clear rp;go_enter Tryz.func169,Tryz.ntmps169;go_wp2;go_loopw [5] (fun i wr=>∃ k:Nat,i = .int .i64 k/\k<=len/\Hid (l.take k=m.take k)/\Below w.heap.size w wr) (fun i _=>len - (vI i).toNat)
  case atStart=>exact⟨0,rfl,gp _,(show Hid _ from rfl),Below.refl _ _⟩
  case round =>
   obtain⟨k,rfl,hk,He,hB⟩:=hrel;by_cases hlt:k < len
   ·obtain⟨ad,rfl⟩ : ∃ ad,a=some ad:=by
     cases a with
     | none=>have:=H4.out rfl;omega
     | some ad=>exact⟨ad,rfl⟩
    obtain⟨bd,rfl⟩ : ∃ ad,b=some ad:=by
     cases b with
     | none=>have:=K4.out rfl;omega
     | some ad=>exact⟨ad,rfl⟩
    obtain⟨x,hx⟩ : ∃ x,l[k]? = some x:=⟨_,g8 (by rw[Hl.out];exact hlt)⟩
    obtain⟨y,hy⟩ : ∃ y,m[k]? = some y:=⟨_,g8 (by rw[Kl.out];exact hlt)⟩
    have d0:wr.cell? (ad.add k)=some (.int .i64 x):=q8 hB (H5.out ad rfl k _ (by simp[ints,hx]));have d1:wr.cell? (bd.add k)=some (.int .i64 y):=q8 hB (K5.out bd rfl k _ (by simp[ints,hy]));have Hx:=lhd hx;clear hx;have Hy:=lhd hy;clear hy;by_cases hxy:x=y
    ·subst hxy;have ak:(x != x)=false:=by simp
     go_wp2_with fail
     go_quiet (fail)
     go_wp2;go_roundw
     case measure=>simp[vI];omega
     case rel=>exact⟨k+1,qh (by omega),by omega,(show Hid _ from by show _=_;rw[gq,gq,Hx.out,Hy.out,He.out]),qb hB nq⟩
    ·have Mv:(x == y)=false:=by simpa using hxy
     have pB:=qdw k l m x y He.out Hx.out Hy.out hxy;have HX:=lhd pB;clear pB;go_wp2_with fail
     go_quiet (fail)
     go_wp2_with fail
     go_quiet (fail)
     go_wp2;go_ret;exact⟨by rw[HX.out];rfl,qb (qb hB _) _⟩
   ·have bJ:k=len:=by omega
    have fR:=lhd bJ;clear bJ;have BP:l=m:=by
     have:=He.out
     rwa [fR.out,ge (Nat.le_of_eq Hl.out),ge (Nat.le_of_eq Kl.out)] at this
    have pB:lexB l m=false:=by rw[BP];exact q7q m
    have HX:=lhd pB;clear BP pB;go_wp2;go_ret;exact⟨by rw[HX.out];rfl,hB⟩
 ·have Ba:((len:Int) == aj)=false:=by simp;omega
  have rp:yf l m=decide (len < aj):=by
   unfold yf;rw[if_neg (by rw[Hl.out,Kl.out];exact bH),Hl.out,Kl.out]
  rw[rp];clear rp;go_enter Tryz.func169,Tryz.ntmps169;go_wp2;go_ret;exact⟨rfl,Below.refl _ _⟩
end Go.Proofs.YtlhicnfeajejhaaGreatDoor
namespace Go.Cx
open Go.RowKit
def vw (all:List (List Int)) (s:List Int) (low high:Nat):Nat :=
 if low < high then if yf (all.getD ((low+high) / 2) []) s then vw all s ((low+high) / 2+1) high else vw all s low ((low+high) / 2) else low
termination_by high - low
def plc (all:List (List Int)) (s:List Int):Nat:=vw all s 0 all.length
def q34 (all:List (List Int)) (s:List Int):Bool:=decide (plc all s < all.length) && !yf s (all.getD (plc all s) [])
theorem qhm (all:List (List Int)) (s:List Int) (low high:Nat) (h:low<=high):low<=vw all s low high/\vw all s low high<=high:=by
 fun_induction vw with
 | case1 low high hlt hb ih=>have:=ih (by omega);omega
 | case2 low high hlt hb ih=>have:=ih (by omega);omega
 | case3 low high hlt=>omega
theorem q8u (all:List (List Int)) (s:List Int):plc all s<=all.length:=(qhm all s 0 all.length (gp _)).2
def SlI (w:World) (v:Value) (ls:List (List Int)):Prop :=
 ∃ vs:List Value,Sl w 1 v vs/\vs.length=ls.length/\∀ (i:Nat) (u:Value) (l:List Int),vs[i]? = some u->ls[i]? = some l->Sl w 1 u (ints l)
theorem SlI.q8 {w w':World} {v:Value} {ls:List (List Int)} (h:SlI w v ls) (hb:Below w.heap.size w w'):SlI w' v ls:=by
 obtain⟨vs,h1,h2,h3⟩:=h;exact⟨vs,h1.q8 hb,h2,fun i u l hu hl=>(h3 i u l hu hl).q8 hb⟩
end Go.Cx
namespace Go.Proofs.YtlhicnfeajejhaaGreatDoor
open Go.RowKit Go.Cx
attribute [local go_sem ↓] Go.wp_at_zero Go.wp_at_succ
theorem qdx (v u:Value) (ls:List (List Int)) (s:List Int) (w:World) (h:SlI w v ls) (k:Sl w 1 u (ints s)) (hn:ls.length<=1099511627776) :
  Calls Tryz.prog 129 #[v,u] w fun e w'=>e = .returned (.tuple #[.int .i64 (plc ls s),.bool (q34 ls s)])/\Below w.heap.size w w':=by
 obtain⟨vs,hv,rV,tI⟩:=h;obtain⟨b,bn,bc,rfl⟩:=qg k;obtain⟨a,len,cap,rfl,h1,h2,h3,h4,h5⟩:=hv;unfold maxLen at h2;rw[gK] at h3;have bH:ls.length=len:=by omega
 rw[bH] at hn;have H3:=lhd h3;clear h3;have HL:=lhd bH;clear bH;have H4:=lhd h4;clear h4;have H5:=lhd h5;clear h5;have HE:=lhd tI;clear tI;have HK:=lhd k;clear k;obtain⟨p,hp⟩ : ∃ p,p=plc ls s:=⟨_,rfl⟩
 obtain⟨q,hq⟩ : ∃ q,q=q34 ls s:=⟨_,rfl⟩
 rw[<-hp,<-hq];have HP:=lhd (aiq hp hq);clear hp hq;have key:∀ (i:Nat),i < len->∃ va vn vc,vs[i]? = some (.slice va vn vc)/\Sl w 1 (.slice va vn vc) (ints (ls.getD i [])):=fun i hi=>by
  obtain⟨u,hu⟩ : ∃ u,vs[i]? = some u:=⟨_,g8 (by rw[H3.out];exact hi)⟩
  obtain⟨l,hl⟩ : ∃ l,ls[i]? = some l:=⟨_,g8 (by rw[HL.out];exact hi)⟩
  have h1:=HE.out i u l hu hl;obtain⟨va,vn,vc,rfl⟩:=qg h1;refine⟨va,vn,vc,hu,?_⟩;rw[gI,hl];exact h1
 have ED:=lhd key;clear key;go_enter Tryz.func129,Tryz.ntmps129;go_wp2;go_loopw [6,7] (fun lo hi wr=>∃ (low high:Nat),lo = .int .i64 low/\hi = .int .i64 high/\low<=high/\high<=len/\Hid (vw ls s low high=p)/\Below w.heap.size w wr) (fun lo hi _=>(vI hi).toNat - (vI lo).toNat)
 case atStart=>exact⟨0,len,rfl,rfl,gp _,nlr _,(show Hid _ from by show _=_;rw[HP.out.1,<-HL.out];rfl),Below.refl _ _⟩
 case round =>
  obtain⟨low,high,rfl,rfl,Mw,VN,HG,hB⟩:=hrel;by_cases hlt:low < high
  ·obtain⟨ad,rfl⟩ : ∃ ad,a=some ad:=by
    cases a with
    | none=>have:=H4.out rfl;omega
    | some ad=>exact⟨ad,rfl⟩
   obtain⟨m,hm⟩ : ∃ m,m=(low+high) / 2:=⟨_,rfl⟩
   have eV:low<=m/\m < high:=by omega
   obtain⟨va,vn,vc,hu,aX⟩:=ED.out m (by omega);have d0:wr.cell? (ad.add m)=some (.slice va vn vc):=q8 hB (H5.out ad rfl m _ hu);have pC:IntKind.i64.wrap ((low:Int)+high)=(low:Int)+high:=IntWalk.i64_in _ (by omega);have iF:((low:Int)+high).tdiv 2=(m:Int):=by rw[Int.tdiv_eq_ediv_of_nonneg (by omega)];omega
   have Rm:(0:Int)<=m:=by omega
   have Rn:(m:Int) < len:=by omega
   have HS:=lhd (aX.q8 hB);have Ie:=lhd (HK.out.q8 hB);have su:vw ls s low high=if yf (ls.getD m []) s then vw ls s (m+1) high else vw ls s low m:=by rw[vw,if_pos hlt,<-hm]
   have Mx:=lhd su;have HM:=lhd hm;clear hu aX su hm;go_wp2_with fail;refine(qac _ _ _ _ _ HS.out Ie.out).mono ?_;rintro e w2 ⟨rfl,ag⟩;have aw:=hB.trans (ag.mono hB.size);obtain⟨t,ht⟩ : ∃ t,t=yf (ls.getD m []) s:=⟨_,rfl⟩
   rw[<-ht];have HT:=lhd ht;clear ht ag d0;cases t with
   | true =>
    go_wp2;go_roundw
    case measure=>simp[vI];omega
    case rel=>exact⟨m+1,high,qh (by omega),rfl,by omega,by omega,(show Hid _ from by show _=_;rw[<-HG.out,Mx.out,<-HT.out];rfl),aw⟩
   | false =>
    go_wp2;go_roundw
    case measure=>simp[vI];omega
    case rel=>exact⟨low,m,rfl,rfl,by omega,by omega,(show Hid _ from by show _=_;rw[<-HG.out,Mx.out,<-HT.out];rfl),aw⟩
  ·have Ig:low=p:=by rw[<-HG.out,vw,if_neg hlt]
   have EE:=lhd Ig;by_cases cD:low < len
   ·obtain⟨ad,rfl⟩ : ∃ ad,a=some ad:=by
     cases a with
     | none=>have:=H4.out rfl;omega
     | some ad=>exact⟨ad,rfl⟩
    obtain⟨va,vn,vc,hu,aX⟩:=ED.out low cD;have d0:wr.cell? (ad.add low)=some (.slice va vn vc):=q8 hB (H5.out ad rfl low _ hu);have HS:=lhd (aX.q8 hB);have Ie:=lhd (HK.out.q8 hB);have BR:q=!yf s (ls.getD low []):=by
     rw[HP.out.2];unfold q34;rw[<-HP.out.1,<-EE.out,HL.out,decide_eq_true cD,Bool.true_and]
    have HQ:=lhd BR;clear hu aX Ig BR;go_wp2_with fail;refine(qac _ _ _ _ _ Ie.out HS.out).mono ?_;rintro e w2 ⟨rfl,ag⟩;go_wp2;go_ret2;refine⟨?_,hB.trans (ag.mono hB.size)⟩;rw[HQ.out,<-EE.out];rfl
   ·have BR:q=false:=by
     rw[HP.out.2];unfold q34;rw[<-HP.out.1,<-EE.out,HL.out,decide_eq_false cD,Bool.false_and]
    have HQ:=lhd BR;clear Ig BR;go_wp2;go_ret2;refine⟨?_,hB⟩;rw[HQ.out,<-EE.out];rfl
end Go.Proofs.YtlhicnfeajejhaaGreatDoor
namespace Go.Cx
open Go.RowKit
variable {P:Program} {Q:Exit->Act->World->Prop} {o:Oper} {a:Act}
theorem ju (wr:World) {ops:Array Oper} {E:Prop} {K:Act->World->Prop} (ot:o.guard=none) (s x:Operand) (t:TypeId)
  (ho:o.op = .call { callee:=.builtin .append,args:=#[s,x],argTypes:=#[t,t] })
  (base:Nat) (e:TypeId) {z:Value} {size bytes:Nat} (dV:(P.info? e).map (fun i=>(i.zero,i.size,i.bytes))=some (some z,size,bytes)) (ht:P.underlying t=some (.slice e))
  (fF:z.cells.size=size) (ao:0 < size) (oL:0 < bytes)
  (v:Value) (n:Nat) (xs:List Value) (hs:a.eval s=v) (ah:wr.ownsRow base e size v n xs)
  (u:Value) (m:Nat) (ys:List Value) (hx:a.eval x=u) (oU:Sl wr size u ys) (hl:ys.length=m*size) (h1:∀ u∈ys,u.oneCell'=true)
  (cE:(n+m)*bytes<=140737488355328) (af:base<=wr.heap.size)
  (h:∀ v' w',w'.ownsRow base e size v' (n+m) (xs++ys)->Below base wr w'->K (a.put o.dst v') w') :
  if Region.wanted o (yielded ops a.tmps)=true then Oper.wp P o a wr K Q else E:=by
 have hw:Region.wanted o (yielded ops a.tmps)=true:=by simp[Region.wanted,ot]
 rw[if_pos hw];exact qfe s x t ho base e dV ht fF ao oL v n xs hs ah u m ys hx oU hl h1 cE af h
theorem vq (w:World) (t:TypeId) (st n:Nat) (xs:List Value) (h:xs.length=n*st) (hn:n<=maxLen):(w.alloc (.cells xs.toArray t)).ownsRow w.heap.size t st (.slice (some ⟨w.heap.size,0,none⟩) n n) n xs :=
 ⟨h,.inr ⟨w.heap.size,n,xs.toArray,rfl,nlr _,heap_alloc_new w _,nlr _,hn,by simpa using h,by rw[<-h];simp⟩⟩
theorem Sl.empty (w:World) (st:Nat) (a:Addr) (c:Nat) (hc:c<=maxLen):Sl w st (.slice (some a) 0 c) [] :=
 ⟨_,_,_,rfl,gp _,hc,by simp,(fun e=>by cases e),fun ad _ j u hj=>by simp at hj⟩
theorem Sl.qni (w:World) (st:Nat) (p:Prop) [Decidable p] (a b:Addr) (c:Nat) (hc:c<=maxLen):Sl w st (.slice (if p then some a else some b) 0 c) []:=by
 split
 ·exact Sl.empty w st a c hc
 ·exact Sl.empty w st b c hc
theorem q2n {w:World} {base st n:Nat} {e:TypeId} {v:Value} {xs:List Value} (h:w.ownsRow base e st v n xs):v = .slice none 0 0/\n=0\/∃ g cap,v = .slice (some ⟨g,0,none⟩) n cap/\n<=cap/\cap<=maxLen/\base<=g/\g < w.heap.size:=by
 rcases h.2 with h2 | ⟨g,cap,cur,rfl,hb,hh,h3,h4,_⟩
 ·exact .inl h2
 ·exact .inr ⟨g,cap,rfl,h3,h4,hb,(gw.1 hh).1⟩
end Go.Cx
namespace Go.Proofs.YtlhicnfeajejhaaGreatDoor
open Go.RowKit Go.Cx
attribute [local go_sem ↓] Go.wp_at_zero Go.wp_at_succ
theorem q65 (l:List Int):∀ u∈ints l,u.oneCell'=true:=fun u hu=>by
 obtain⟨x,_,rfl⟩:=go.1 hu;rfl
theorem qp2 (v:Value) (s:List Int) (w:World) (h:Sl w 1 v (ints s)) (hs:s.Pairwise (· < ·)) (h0:∀ x∈s,0<=x/\x<=9223372036854775807) (hl:s.length<=9) :
  Calls Tryz.prog 128 #[v] w fun e w'=>∃ r,e = .returned (.tuple #[r,.bool true])/\w'.ownsRow w.heap.size 3 1 r s.length (ints s)/\Below w.heap.size w w':=by
 obtain⟨a,len,cap,rfl,h1,h2,h3,h4,h5⟩:=h;unfold maxLen at h2;rw[xl,gK] at h3;rw[h3] at hl;have HL:=lhd h3;clear h3;have H4:=lhd h4;clear h4;have H5:=lhd h5;clear h5;have HS:=lhd hs;clear hs;have H0:=lhd h0;clear h0;go_enter Tryz.func128,Tryz.ntmps128;go_wp2;go_loopw [4,5] (fun o i wr=>∃ k:Nat,i = .int .i64 k/\k<=len/\wr.ownsRow w.heap.size 3 1 o k (ints (s.take k))/\Below w.heap.size w wr) (fun _ i _=>len - (vI i).toNat)
 case atStart=>exact⟨0,rfl,gp _,World.ownsRow_nil _ _ _ _,Below.refl _ _⟩
 case round =>
  obtain⟨k,rfl,hk,ah,hB⟩:=hrel;by_cases hlt:k < len
  ·obtain⟨ad,rfl⟩ : ∃ ad,a=some ad:=by
    cases a with
    | none=>have:=H4.out rfl;omega
    | some ad=>exact⟨ad,rfl⟩
   obtain⟨x,hx⟩ : ∃ x,s[k]? = some x:=⟨_,g8 (by rw[HL.out];exact hlt)⟩
   have w0:=H5.out ad rfl k _ (show (ints s)[k]? = some (.int .i64 x) by simp[ints,hx]);have HX:=lhd hx;have rq:=lhd w0;have ml:=lhd ah;have cG:=(H0.out x (gd hx)).1;have hz:w.heap.size<=wr.heap.size:=hB.size;obtain⟨oa,oc,ho⟩:=qj ah;subst ho;obtain⟨wo,db⟩ : ∃ wo:World,wo=wr:=⟨_,rfl⟩
   subst db;clear hx w0 ah;go_wp2;go_loopw [6] (fun i wr=>∃ m:Nat,i = .int .i64 m/\m<=k/\Below wo.heap.size wo wr) (fun i _=>k - (vI i).toNat)
   case atStart=>exact⟨0,rfl,gp _,Below.refl _ _⟩
   case round =>
    obtain⟨m,rfl,hm,dT⟩:=hrel;have aL:=hB.trans (dT.mono hB.size);have d0:wr.cell? (ad.add k)=some (.int .i64 x):=q8 aL rq.out;by_cases iy:m < k
    ·rcases q2n ml.out with ⟨_,dr⟩ | ⟨g,Ih,he,rl,jI,E2,o4⟩
     ·omega
     ·injection he with he1 he2 he3
      subst he1 he3;obtain⟨y,hy⟩ : ∃ y,s[m]? = some y:=⟨_,g8 (by rw[HL.out];omega)⟩
      have Ad:y < x:=by
       obtain⟨h1,e1⟩:=gc.1 hy;obtain⟨h2,e2⟩:=gc.1 HX.out;have:=gG.1 HS.out m k h1 h2 iy;omega
      have c0:wr.cell? ⟨g,m,none⟩=some (.int .i64 y):=by
       refine q8 dT ?_;have:=ml.out.cellAt m (by omega);rw[this];simp[ints,iy,hy]
      clear hy;go_wp2_with fail
      go_quiet (fail)
      go_wp2;go_roundw
      case measure=>simp[vI];omega
      case rel=>exact⟨m+1,qh (by omega),by omega,qb dT nq⟩
    ·have wJ:m=k:=by omega
     subst wJ;go_wp2_with fail
     go_quiet (fail)
     obtain⟨V0,BT⟩ : ∃ V:World,V=wr.drewN nq:=⟨_,rfl⟩
     rw[<-BT];have aV:Below wo.heap.size wo V0:=by rw[BT];exact qb dT _
     have d2:V0.cell? (ad.add m)=some (.int .i64 x):=q8 (hB.trans (aV.mono hB.size)) rq.out;clear BT;go_wp2_with fail
     go_quiet (fail)
     obtain⟨V,hV⟩ : ∃ V:World,V=V0.drewN nq:=⟨_,rfl⟩
     rw[<-hV];have aD:Below wo.heap.size wo V:=by rw[hV];exact qb aV _
     have aK:=hB.trans (aD.mono hB.size);have d1:V.cell? (ad.add m)=some (.int .i64 x):=q8 aK rq.out;have My:=qa ml.out aD;have nu:=lhd My;have iG:w.heap.size<=V.heap.size:=aK.size;have eL:¬ x < 0:=by omega
     have BV:¬ ((m:Int)+1 > 9):=by omega
     have Ro:(m:Int)+1<=9:=by omega
     have fin:∀ (r:Value) (w':World),w'.ownsRow V.heap.size 3 1 r (m+1) (ints (s.take m)++[.int .i64 x])->Below V.heap.size V w'->w'.ownsRow w.heap.size 3 1 r (m+1) (ints (s.take (m+1)))/\Below w.heap.size w w':=fun r w' h1 h2=>by
      refine⟨?_,aK.trans (h2.mono iG)⟩;rw[show ints (s.take (m+1))=ints (s.take m)++[.int .i64 x] by rw[gq,HX.out];simp[ints]];exact qf h1 iG
     have aP:=lhd fin;clear hV d0 d2 fin My dT aD aV;rcases q2n nu.out with ⟨hv,ru⟩ | ⟨g,Ih,he,rl,jI,E2,o4⟩
     ·injection hv with hv1 hv2 hv3
      subst hv1 hv3 ru;have bI:ad.add 0=ad:=by simp[Addr.add]
      rw[bI] at d1;have wa:=lhd (bI ▸ rq.out);clear bI;go_wp2_with fail
      go_region_held3 (fun w'=>w'.cell? ad=some (.int .i64 x))
       (first | assumption | exact qk (by assumption) _)
       (first
        |(go_must (refine ju ((V.alloc (.cells #[.int .i64 x] 3)).drew) rfl _ _ 22 rfl V.heap.size 3 Tryz.xg Tryz.underlying22 rfl (by decide) (by decide) _ 1 [.int .i64 x] rfl (vq V.drew 3 1 1 [.int .i64 x] rfl (by unfold maxLen;omega)) _ 0 [] rfl ((Sl.nil _ _)) rfl (fun u hu=>by cases hu) (by omega) (by show V.heap.size<=(V.alloc (.cells #[.int .i64 x] 3)).heap.size;simp) ?_;intro r w2 cB ag;have aQ:Below V.heap.size V w2:=(qb ((Below.refl _ V).alloc (nlr _) (.cells #[.int .i64 x] 3)) 1).trans ag;have e1:=q8 aQ d1;have R2:=lhd (aiq cB aQ);clear cB ag aQ)))
      have fI:V.heap.size<=w2.heap.size:=R2.out.2.size;have fT:Sl (w2.alloc (.cells #[] 3)) 1 (.slice none 0 0) (ints (s.take 0)):=(Sl.qc (qa nu.out R2.out.2)).alloc _;have wI:(ints (s.take 0)).length=0*1:=by have:=nu.out.1;simpa using this
      go_wp2_with (at_builtin;refine qm (W:=w2) rfl _ _ 22 rfl w2.heap.size 3 Tryz.xg Tryz.underlying22 rfl (by decide) (by decide) _ _ _ rfl (zj w2 3 1) _ 0 (ints (s.take 0)) rfl fT wI (q65 _) ?apAa (((Below.refl _ w2).alloc (nlr _) _)) ?apBa ?_)
      case apAa=>omega
      case apBa=>simp
      intro v3 w3 cY _ aB;have fU:Sl w3 1 r [.int .i64 x]:=Sl.qc (qa (zm (m:=1) R2.out.1 rfl) aB);go_wp2_with (at_builtin;refine qm (W:=w2) rfl _ _ 22 rfl w2.heap.size 3 Tryz.xg Tryz.underlying22 rfl (by decide) (by decide) _ _ _ rfl cY _ 1 [.int .i64 x] rfl fU rfl (fun u hu=>by simp at hu;subst hu;rfl) ?apCa aB ?apDa ?_)
      case apCa=>omega
      case apDa=>exact aB.size
      intro v4 w4 eo _ bU;obtain⟨f1,f2⟩:=aP.out v4 w4 (qf (zm eo (by omega)) fI) (R2.out.2.trans (bU.mono fI));have d5:w4.cell? ad=some (.int .i64 x):=q8 f2 wa.out;obtain⟨f4,f5,l8⟩:=qj f1;subst l8;have F1:=lhd (aiq f1 f2);clear cY eo aB bU fT fU f1 f2;go_wp2;go_roundw
      case measure=>simp[vI];omega
      case rel=>exact⟨0+1,qh (by omega),by omega,F1.out.1,F1.out.2⟩
     ·injection he with he1 he2 he3
      subst he1 he3;unfold maxLen at jI;have ug:(m:Int)<=oc:=by omega
      have eZ:0<=maxLen:=by unfold maxLen;omega
      have eI:oc - m<=maxLen:=by unfold maxLen;omega
      go_wp2_with fail
      go_region_held3 (fun w'=>w'.cell? (ad.add m)=some (.int .i64 x))
       (first | assumption | exact qk (by assumption) _)
       (first
        |(go_must (refine ju ((V.alloc (.cells #[.int .i64 x] 3)).drew) rfl _ _ 22 rfl V.heap.size 3 Tryz.xg Tryz.underlying22 rfl (by decide) (by decide) _ 1 [.int .i64 x] rfl (vq V.drew 3 1 1 [.int .i64 x] rfl (by unfold maxLen;omega)) _ 0 [] rfl (by simp[Act.eval];exact Sl.qni _ _ _ _ _ _ eI) rfl (fun u hu=>by cases hu) (by omega) (by show V.heap.size<=(V.alloc (.cells #[.int .i64 x] 3)).heap.size;simp) ?_;intro r w2 cB ag;have aQ:Below V.heap.size V w2:=(qb ((Below.refl _ V).alloc (nlr _) (.cells #[.int .i64 x] 3)) 1).trans ag;have e1:=q8 aQ d1;have R2:=lhd (aiq cB aQ);clear cB ag aQ)))
      all_goals
       generalize (if oc=m then (some (⟨g,0,none⟩ : Addr)) else some ⟨g,m,none⟩)=s53;have fI:V.heap.size<=w2.heap.size:=R2.out.2.size;have fT:Sl (w2.alloc (.cells #[] 3)) 1 (.slice (some ⟨g,0,none⟩) m oc) (ints (s.take m)):=(Sl.qc (qa nu.out R2.out.2)).alloc _;have wI:(ints (s.take m)).length=m*1:=by have:=nu.out.1;simpa using this
       go_wp2_with (at_builtin;refine qm (W:=w2) rfl _ _ 22 rfl w2.heap.size 3 Tryz.xg Tryz.underlying22 rfl (by decide) (by decide) _ _ _ rfl (zj w2 3 1) _ m (ints (s.take m)) rfl fT wI (q65 _) ?apAc (((Below.refl _ w2).alloc (nlr _) _)) ?apBc ?_)
       case apAc=>omega
       case apBc=>simp
       intro v3 w3 cY _ aB;have fU:Sl w3 1 r [.int .i64 x]:=Sl.qc (qa (zm (m:=1) R2.out.1 rfl) aB);go_wp2_with (at_builtin;refine qm (W:=w2) rfl _ _ 22 rfl w2.heap.size 3 Tryz.xg Tryz.underlying22 rfl (by decide) (by decide) _ _ _ rfl cY _ 1 [.int .i64 x] rfl fU rfl (fun u hu=>by simp at hu;subst hu;rfl) ?apCc aB ?apDc ?_)
       case apCc=>omega
       case apDc=>exact aB.size
       intro v4 w4 eo _ bU;obtain⟨f1,f2⟩:=aP.out v4 w4 (qf (zm eo (by omega)) fI) (R2.out.2.trans (bU.mono fI));have d5:w4.cell? (ad.add m)=some (.int .i64 x):=q8 f2 rq.out;obtain⟨f4,f5,l8⟩:=qj f1;subst l8;have F1:=lhd (aiq f1 f2);clear cY eo aB bU fT fU f1 f2;go_wp2;go_roundw
       case measure=>simp[vI];omega
       case rel=>exact⟨m+1,qh (by omega),by omega,F1.out.1,F1.out.2⟩
  ·have bJ:k=len:=by omega
   have fR:=lhd bJ;clear bJ;rw[fR.out] at ah;rw[ge (by rw[HL.out];exact nlr _)] at ah;have ml:=lhd ah;clear ah;go_wp2;go_ret2;exact⟨_,rfl,by rw[HL.out];exact ml.out,hB⟩
end Go.Proofs.YtlhicnfeajejhaaGreatDoor
namespace Go.Cx
open Go.RowKit
def yv:List Sd->Sd->List Sd
 | [],x=>[x]
 | y :: l,x=>if y.c<=x.c then y :: yv l x else x :: y :: l
def zx (l:List Sd):List Sd:=l.foldl yv []
theorem qfb (l:List Sd) (x:Sd):zx (l++[x])=yv (zx l) x:=by simp[zx]
theorem qhn (l:List Sd) (x:Sd):(yv l x).length=l.length+1:=by
 induction l with
 | nil=>rfl
 | cons y l ih=>unfold yv;split <;> simp[ih]
theorem q23 (l:List Sd):(zx l).length=l.length:=by
 have key:∀ (l a:List Sd),(l.foldl yv a).length=a.length+l.length:=fun l=>by
  induction l with
  | nil=>intro a;rfl
  | cons x l ih=>intro a;rw[List.foldl_cons,ih,qhn,gD];omega
 have:=key l [];simpa [zx] using this
theorem qad {l:List Sd} {x y:Sd} (h:y∈yv l x):y=x\/y∈l:=by
 induction l with
 | nil=>simpa [yv] using h
 | cons z l ih =>
  unfold yv at h;split at h
  ·rcases gt.1 h with h | h
   ·exact .inr (by simp[h])
   ·rcases ih h with h | h
    ·exact .inl h
    ·exact .inr (by simp[h])
  ·rcases gt.1 h with h | h
   ·exact .inl h
   ·exact .inr h
theorem q66 {l:List Sd} {y:Sd} (h:y∈zx l):y∈l:=by
 have key:∀ (l a:List Sd),y∈l.foldl yv a->y∈l\/y∈a:=fun l=>by
  induction l with
  | nil=>intro a h;exact .inr h
  | cons x l ih =>
   intro a h;rcases ih _ h with h | h
   ·exact .inl (by simp[h])
   ·rcases qad h with h | h
    ·exact .inl (by simp[h])
    ·exact .inr h
 rcases key l [] h with h | h
 ·exact h
 ·cases h
theorem q8v:∀ (L:List Sd) (x:Sd) (m:Nat),m<=L.length->(∀ y∈L.take m,y.c<=x.c)->(∀ y,L[m]? = some y->¬ y.c<=x.c)->yv L x=L.take m++x :: L.drop m
 | [],x,m,hm,_,_=>by
  have:m=0:=by simpa using hm
  subst this;rfl
 | y :: L,x,0,_,_,h2=>by
  have:=h2 y rfl;show (if y.c<=x.c then _ else _)=_;rw[if_neg this];rfl
 | y :: L,x,m+1,hm,h1,h2=>by
  show (if y.c<=x.c then _ else _)=_;rw[if_pos (h1 y (by simp)),q8v L x m (by simpa using hm) (fun z hz=>h1 z (by simp[hz])) (fun z hz=>h2 z (by simpa using hz))];rfl
theorem Sl.qho {w:World} {st g n oc:Nat} {xs:List Value} (h:Sl w st (.slice (some ⟨g,0,none⟩) n oc) xs) (m:Nat) (hm:m<=n) (hc:oc<=maxLen) (p:Prop) [Decidable p] (hp:p↔oc=m) (q:Nat) (hq:q=m*st):Sl w st (.slice (if p then some ⟨g,0,none⟩ else some ⟨g,q,none⟩) (n - m) (oc - m)) (xs.drop (m*st)):=by
 obtain⟨h1,h2,h3,h4,h5⟩:=h.open;split
 ·rename_i iD;have:=hp.1 iD;rw[show n - m=0 by omega,List.drop_eq_nil_of_le (by rw[h3];exact bw _ (by omega))];exact Sl.empty _ _ _ _ (gn (Nat.sub_le _ _) hc)
 ·have:=h.drop hm;rw[hq];have ha:(⟨g,0,none⟩ : Addr).add (m*st)=⟨g,m*st,none⟩:=by rw[Addr.add_lit,Nat.zero_add]
  rw[<-ha];exact this
end Go.Cx
namespace Go.Proofs.YtlhicnfeajejhaaGreatDoor
open Go.RowKit Go.Cx
attribute [local go_sem ↓] Go.wp_at_zero Go.wp_at_succ
theorem q8w (v:Value) (l:List Sd) (w:World) (h:Sl w 2 v (cat Sd.enc l)) (hl:l.length<=1099511627776) :
  Calls Tryz.prog 130 #[v] w fun e w'=>∃ r,e = .returned r/\w'.ownsRow w.heap.size 108 2 r l.length (cat Sd.enc (zx l))/\Below w.heap.size w w':=by
 obtain⟨a,len,cap,rfl,h1,h2,h3,h4,h5⟩:=h;unfold maxLen at h2;rw[qt Sd.qp] at h3;have lU:l.length=len:=by omega
 rw[lU] at hl;have HL:=lhd lU;clear h3 lU;have H4:=lhd h4;clear h4;have H5:=lhd h5;clear h5;go_enter Tryz.func130,Tryz.ntmps130;go_wp2;go_loopw [3,4] (fun o i wr=>∃ k:Nat,i = .int .i64 k/\k<=len/\wr.ownsRow w.heap.size 108 2 o k (cat Sd.enc (zx (l.take k)))/\Below w.heap.size w wr) (fun _ i _=>len - (vI i).toNat)
 case atStart=>exact⟨0,rfl,gp _,World.ownsRow_nil _ _ _ _,Below.refl _ _⟩
 case round =>
  obtain⟨k,rfl,hk,ah,hB⟩:=hrel;by_cases hlt:k < len
  ·obtain⟨ad,rfl⟩ : ∃ ad,a=some ad:=by
    cases a with
    | none=>have:=H4.out rfl;omega
    | some ad=>exact⟨ad,rfl⟩
   obtain⟨x,hx⟩ : ∃ x,l[k]? = some x:=⟨_,g8 (by rw[HL.out];exact hlt)⟩
   obtain⟨e0,e1⟩:=zw l k x hx;have rq:=lhd (H5.out ad rfl _ _ e0);have wa:=lhd (show w.cell? ⟨(ad.add (k*2)).block,(ad.add (k*2)).off+1,none⟩=some (.int .i64 x.g) by rw[qi _ _ _ (by omega)];exact H5.out ad rfl _ _ e1);have HX:=lhd (show zx (l.take (k+1))=yv (zx (l.take k)) x by rw[gq,hx];exact qfb _ _);obtain⟨L,hL⟩ : ∃ L,L=zx (l.take k):=⟨_,rfl⟩
   have wK:L.length=k:=by rw[hL,q23,gh,HL.out];omega
   rw[<-hL] at ah HX;have fp:=lhd wK;have ml:=lhd ah;have hz:w.heap.size<=wr.heap.size:=hB.size;obtain⟨oa,oc,ho⟩:=qj ah;subst ho;obtain⟨wo,db⟩ : ∃ wo:World,wo=wr:=⟨_,rfl⟩
   subst db;clear hx ah hL wK e0 e1;go_wp2;go_loopw [5] (fun i wr=>∃ m:Nat,i = .int .i64 m/\m<=k/\Hid (∀ y∈L.take m,y.c<=x.c)/\Below wo.heap.size wo wr) (fun i _=>k - (vI i).toNat)
   case atStart=>exact⟨0,rfl,gp _,(show Hid _ from fun y hy=>by simp at hy),Below.refl _ _⟩
   case round =>
    obtain⟨m,rfl,hm,HM,dT⟩:=hrel;have aL:=hB.trans (dT.mono hB.size);have d0:wr.cell? (ad.add (k*2))=some (.int .i64 x.c):=q8 aL rq.out;by_cases iy:m < k
    ·rcases q2n ml.out with ⟨_,dr⟩ | ⟨g,Ih,he,rl,jI,E2,o4⟩
     ·omega
     ·injection he with he1 he2 he3
      subst he1 he3;obtain⟨y,hy⟩ : ∃ y,L[m]? = some y:=⟨_,g8 (by rw[fp.out];exact iy)⟩
      have c0:wr.cell? ⟨g,m*2,none⟩=some (.int .i64 y.c):=by
       refine q8 dT ?_;have:=ml.out.cellAt (m*2) (by omega);rw[this];exact(zw L m y hy).1
      have HY:=lhd hy;clear hy;by_cases Ad:y.c<=x.c
      ·go_wp2_with fail
       go_quiet (fail)
       go_wp2;go_roundw
       case measure=>simp[vI];omega
       case rel =>
        refine⟨m+1,qh (by omega),by omega,(show Hid _ from fun z hz=>?_),qb dT nq⟩;rw[gq,HY.out] at hz;rcases gF.1 hz with hz | hz
        ·exact HM.out z hz
        ·simp at hz;subst hz;exact Ad
      ·have pD:=q8v L x m (by rw[fp.out];exact hm) HM.out (fun z hz=>by rw[HY.out] at hz;cases hz;exact Ad);have sy:=lhd pD;clear pD;unfold maxLen at jI;have ug:(m:Int)<=oc:=by omega
       have rv:(k:Int)<=oc:=by omega
       go_wp2_with fail
       go_quiet (fail)
       obtain⟨V,hV⟩ : ∃ V:World,V=wr.drewN nq:=⟨_,rfl⟩
       rw[<-hV];have aD:Below wo.heap.size wo V:=by rw[hV];exact qb dT _
       have aK:=hB.trans (aD.mono hB.size);have d1:V.cell? (ad.add (k*2))=some (.int .i64 x.c):=q8 aK rq.out;have d2:V.cell? ⟨(ad.add (k*2)).block,(ad.add (k*2)).off+1,none⟩=some (.int .i64 x.g):=q8 aK wa.out;have nu:=lhd (qa ml.out aD);have iG:w.heap.size<=V.heap.size:=aK.size;have fin:∀ (r:Value) (w':World),w'.ownsRow V.heap.size 108 2 r (m+(1+(k - m))) (cat Sd.enc (L.take m)++(x.enc++cat Sd.enc (L.drop m)))->Below V.heap.size V w'->w'.ownsRow w.heap.size 108 2 r (k+1) (cat Sd.enc (zx (l.take (k+1))))/\Below w.heap.size w w':=fun r w' h1 h2=>by
        refine⟨?_,aK.trans (h2.mono iG)⟩;rw[HX.out,sy.out,x9,q22];exact zm (qf h1 iG) (by omega)
       have aP:=lhd fin;have bZ:(cat Sd.enc (L.take m)).length=m*2:=by rw[qt Sd.qp,gh,fp.out];omega
       have bQ:(cat Sd.enc (L.drop m)).length=(k - m)*2:=by rw[qt Sd.qp,gC,fp.out]
       have dn:(cat Sd.enc L).drop (m*2)=cat Sd.enc (L.drop m):=by
        conv=>lhs;rw[<-gr m L,x9]
        rw[List.drop_left' bZ]
       have mQ:(cat Sd.enc L).take (m*2)=cat Sd.enc (L.take m):=by
        conv=>lhs;rw[<-gr m L,x9]
        rw[List.take_left' bZ]
       have ei:=lhd (aiq bZ (aiq bQ (aiq dn mQ)));clear hV d0 fin dT aD bZ bQ dn mQ;go_wp2_with fail
       go_region_held3 (fun w'=>w'.cell? (ad.add (k*2))=some (.int .i64 x.c)/\w'.cell? ⟨(ad.add (k*2)).block,(ad.add (k*2)).off+1,none⟩=some (.int .i64 x.g))
        (first | exact⟨by assumption,by assumption⟩ | exact⟨qk (by assumption) _,qk (by assumption) _⟩)
        (first
         |(go_must (refine ju ((V.alloc (.cells #[.int .i64 x.c,.int .i64 x.g] 108)).drew) rfl _ _ 73 rfl V.heap.size 108 Tryz.q05 Tryz.underlying73 rfl (by decide) (by decide) _ 1 x.enc rfl (vq V.drew 108 2 1 x.enc rfl (by unfold maxLen;omega)) _ (k - m) (cat Sd.enc (L.drop m)) rfl (by have:=(Sl.qc (qa nu.out ((qb ((Below.refl _ V).alloc (nlr _) (.cells #[.int .i64 x.c,.int .i64 x.g] 108)) 1)))).qho m (by omega) (by unfold maxLen;omega) (oc=m) Iff.rfl (m*2) rfl;rw[ei.out.2.2.1] at this;simp[Act.eval];exact this) ei.out.2.1 (zo Sd.xu _) (by omega) (by show V.heap.size<=(V.alloc (.cells #[.int .i64 x.c,.int .i64 x.g] 108)).heap.size;simp) ?_;intro r w2 cB ag;have aQ:Below V.heap.size V w2:=(qb ((Below.refl _ V).alloc (nlr _) (.cells #[.int .i64 x.c,.int .i64 x.g] 108)) 1).trans ag;have e1:=q8 aQ d1;have e2:=q8 aQ d2;have R2:=lhd (aiq cB aQ);clear cB ag aQ)))
       all_goals
        generalize (if oc=m then (some (⟨g,0,none⟩ : Addr)) else some ⟨g,m*2,none⟩)=s53;have fI:V.heap.size<=w2.heap.size:=R2.out.2.size;have fT:Sl (w2.alloc (.cells #[] 108)) 2 (.slice (some ⟨g,0,none⟩) m oc) (cat Sd.enc (L.take m)):=by
         have:=((Sl.qc (qa nu.out R2.out.2)).alloc (.cells #[] 108)).take (k:=m) (by omega);rw[ei.out.2.2.2] at this;exact this
        go_wp2_with (at_builtin;refine qm (W:=w2) rfl _ _ 73 rfl w2.heap.size 108 Tryz.q05 Tryz.underlying73 rfl (by decide) (by decide) _ _ _ rfl (zj w2 108 2) _ m (cat Sd.enc (L.take m)) rfl fT ei.out.1 (zo Sd.xu _) ?apAa (((Below.refl _ w2).alloc (nlr _) _)) ?apBa ?_)
        case apAa=>omega
        case apBa=>simp
        intro v3 w3 cY _ aB;have fU:Sl w3 2 r (x.enc++cat Sd.enc (L.drop m)):=Sl.qc (qa R2.out.1 aB);go_wp2_with (at_builtin;refine qm (W:=w2) rfl _ _ 73 rfl w2.heap.size 108 Tryz.q05 Tryz.underlying73 rfl (by decide) (by decide) _ _ _ rfl cY _ (1+(k - m)) (x.enc++cat Sd.enc (L.drop m)) rfl fU ?apEa ?apFa ?apCa aB ?apDa ?_)
        case apCa=>omega
        case apDa=>exact aB.size
        case apEa=>rw[gl,ei.out.2.1];show 2+_=_;omega
        case apFa=>exact fun u hu=>(gF.1 hu).elim (Sd.xu x u) (zo Sd.xu _ u)
        intro v4 w4 eo _ bU;obtain⟨f1,f2⟩:=aP.out v4 w4 (qf (zm eo (by omega)) fI) (R2.out.2.trans (bU.mono fI));obtain⟨f4,f5,l8⟩:=qj f1;subst l8;have F1:=lhd (aiq f1 f2);clear cY eo aB bU fT fU f1 f2;go_wp2;go_roundw
        case measure=>simp[vI];omega
        case rel=>exact⟨k+1,qh (by omega),by omega,F1.out.1,F1.out.2⟩
    ·have wJ:m=k:=by omega
     have pD:=q8v L x m (by rw[fp.out];exact hm) HM.out (fun z hz=>by rw[List.getElem?_eq_none (by rw[fp.out];omega)] at hz;cases hz);have sy:=lhd pD;clear pD wJ;rcases q2n ml.out with ⟨hv,dr⟩ | ⟨g,Ih,he,rl,jI,E2,o4⟩
     ·injection hv with hv1 hv2 hv3
      subst hv1 hv3 dr;obtain rfl:m=0:=by omega
      have bI:ad.add (0*2)=ad:=by simp[Addr.add]
      have Rp:=lhd (bI ▸ rq.out);have Rq:=lhd (show w.cell? ⟨ad.block,ad.off+1,none⟩=some (.int .i64 x.g) from bI ▸ wa.out);have Mz:L=[]:=gu fp.out;have Ii:=lhd Mz;clear bI Mz;go_wp2_with fail
      go_quiet (fail)
      obtain⟨V,hV⟩ : ∃ V:World,V=wr.drewN nq:=⟨_,rfl⟩
      rw[<-hV];have aD:Below wo.heap.size wo V:=by rw[hV];exact qb dT _
      have aK:=hB.trans (aD.mono hB.size);have d1:V.cell? ad=some (.int .i64 x.c):=q8 aK Rp.out;have d2:V.cell? ⟨ad.block,ad.off+1,none⟩=some (.int .i64 x.g):=q8 aK Rq.out;have nu:=lhd (qa ml.out aD);have iG:w.heap.size<=V.heap.size:=aK.size;have fin:∀ (r:Value) (w':World),w'.ownsRow V.heap.size 108 2 r (0+(1+(0 - 0))) (cat Sd.enc (L.take 0)++(x.enc++cat Sd.enc (L.drop 0)))->Below V.heap.size V w'->w'.ownsRow w.heap.size 108 2 r (0+1) (cat Sd.enc (zx (l.take (0+1))))/\Below w.heap.size w w':=fun r w' h1 h2=>by
       refine⟨?_,aK.trans (h2.mono iG)⟩;rw[HX.out,sy.out,x9,q22];exact zm (qf h1 iG) (by omega)
      have aP:=lhd fin;have bZ:(cat Sd.enc (L.take 0)).length=0*2:=by rw[qt Sd.qp,gh,fp.out];omega
      have bQ:(cat Sd.enc (L.drop 0)).length=(0 - 0)*2:=by rw[qt Sd.qp,gC,fp.out]
      have dn:(cat Sd.enc L).drop (0*2)=cat Sd.enc (L.drop 0):=by
       conv=>lhs;rw[<-gr 0 L,x9]
       rw[List.drop_left' bZ]
      have mQ:(cat Sd.enc L).take (0*2)=cat Sd.enc (L.take 0):=by
       conv=>lhs;rw[<-gr 0 L,x9]
       rw[List.take_left' bZ]
      have ei:=lhd (aiq bZ (aiq bQ (aiq dn mQ)));clear hV d0 fin dT aD bZ bQ dn mQ;go_wp2_with fail
      go_region_held3 (fun w'=>w'.cell? ad=some (.int .i64 x.c)/\w'.cell? ⟨ad.block,ad.off+1,none⟩=some (.int .i64 x.g))
       (first | exact⟨by assumption,by assumption⟩ | exact⟨qk (by assumption) _,qk (by assumption) _⟩)
       (first
        |(go_must (refine ju ((V.alloc (.cells #[.int .i64 x.c,.int .i64 x.g] 108)).drew) rfl _ _ 73 rfl V.heap.size 108 Tryz.q05 Tryz.underlying73 rfl (by decide) (by decide) _ 1 x.enc rfl (vq V.drew 108 2 1 x.enc rfl (by unfold maxLen;omega)) _ (0 - 0) (cat Sd.enc (L.drop 0)) rfl (by rw[Ii.out];exact Sl.nil _ _) ei.out.2.1 (zo Sd.xu _) (by omega) (by show V.heap.size<=(V.alloc (.cells #[.int .i64 x.c,.int .i64 x.g] 108)).heap.size;simp) ?_;intro r w2 cB ag;have aQ:Below V.heap.size V w2:=(qb ((Below.refl _ V).alloc (nlr _) (.cells #[.int .i64 x.c,.int .i64 x.g] 108)) 1).trans ag;have e1:=q8 aQ d1;have e2:=q8 aQ d2;have R2:=lhd (aiq cB aQ);clear cB ag aQ)))
      all_goals
       skip
       have fI:V.heap.size<=w2.heap.size:=R2.out.2.size;have fT:Sl (w2.alloc (.cells #[] 108)) 2 (.slice none 0 0) (cat Sd.enc (L.take 0)):=by
        have:=((Sl.qc (qa nu.out R2.out.2)).alloc (.cells #[] 108)).take (k:=0) (by omega);rw[ei.out.2.2.2] at this;exact this
       go_wp2_with (at_builtin;refine qm (W:=w2) rfl _ _ 73 rfl w2.heap.size 108 Tryz.q05 Tryz.underlying73 rfl (by decide) (by decide) _ _ _ rfl (zj w2 108 2) _ 0 (cat Sd.enc (L.take 0)) rfl fT ei.out.1 (zo Sd.xu _) ?apAc (((Below.refl _ w2).alloc (nlr _) _)) ?apBc ?_)
       case apAc=>omega
       case apBc=>simp
       intro v3 w3 cY _ aB;have fU:Sl w3 2 r (x.enc++cat Sd.enc (L.drop 0)):=Sl.qc (qa R2.out.1 aB);go_wp2_with (at_builtin;refine qm (W:=w2) rfl _ _ 73 rfl w2.heap.size 108 Tryz.q05 Tryz.underlying73 rfl (by decide) (by decide) _ _ _ rfl cY _ (1+(0 - 0)) (x.enc++cat Sd.enc (L.drop 0)) rfl fU ?apEc ?apFc ?apCc aB ?apDc ?_)
       case apCc=>omega
       case apDc=>exact aB.size
       case apEc=>rw[gl,ei.out.2.1];show 2+_=_;omega
       case apFc=>exact fun u hu=>(gF.1 hu).elim (Sd.xu x u) (zo Sd.xu _ u)
       intro v4 w4 eo _ bU;obtain⟨f1,f2⟩:=aP.out v4 w4 (qf (zm eo (by omega)) fI) (R2.out.2.trans (bU.mono fI));obtain⟨f4,f5,l8⟩:=qj f1;subst l8;have F1:=lhd (aiq f1 f2);clear cY eo aB bU fT fU f1 f2;go_wp2;go_roundw
       case measure=>simp[vI];omega
       case rel=>exact⟨0+1,qh (by omega),by omega,F1.out.1,F1.out.2⟩
     ·injection he with he1 he2 he3
      subst he1 he3;unfold maxLen at jI;have ug:(m:Int)<=oc:=by omega
      have rv:(k:Int)<=oc:=by omega
      go_wp2_with fail
      go_quiet (fail)
      obtain⟨V,hV⟩ : ∃ V:World,V=wr.drewN nq:=⟨_,rfl⟩
      rw[<-hV];have aD:Below wo.heap.size wo V:=by rw[hV];exact qb dT _
      have aK:=hB.trans (aD.mono hB.size);have d1:V.cell? (ad.add (k*2))=some (.int .i64 x.c):=q8 aK rq.out;have d2:V.cell? ⟨(ad.add (k*2)).block,(ad.add (k*2)).off+1,none⟩=some (.int .i64 x.g):=q8 aK wa.out;have nu:=lhd (qa ml.out aD);have iG:w.heap.size<=V.heap.size:=aK.size;have fin:∀ (r:Value) (w':World),w'.ownsRow V.heap.size 108 2 r (m+(1+(k - m))) (cat Sd.enc (L.take m)++(x.enc++cat Sd.enc (L.drop m)))->Below V.heap.size V w'->w'.ownsRow w.heap.size 108 2 r (k+1) (cat Sd.enc (zx (l.take (k+1))))/\Below w.heap.size w w':=fun r w' h1 h2=>by
       refine⟨?_,aK.trans (h2.mono iG)⟩;rw[HX.out,sy.out,x9,q22];exact zm (qf h1 iG) (by omega)
      have aP:=lhd fin;have bZ:(cat Sd.enc (L.take m)).length=m*2:=by rw[qt Sd.qp,gh,fp.out];omega
      have bQ:(cat Sd.enc (L.drop m)).length=(k - m)*2:=by rw[qt Sd.qp,gC,fp.out]
      have dn:(cat Sd.enc L).drop (m*2)=cat Sd.enc (L.drop m):=by
       conv=>lhs;rw[<-gr m L,x9]
       rw[List.drop_left' bZ]
      have mQ:(cat Sd.enc L).take (m*2)=cat Sd.enc (L.take m):=by
       conv=>lhs;rw[<-gr m L,x9]
       rw[List.take_left' bZ]
      have ei:=lhd (aiq bZ (aiq bQ (aiq dn mQ)));clear hV d0 fin dT aD bZ bQ dn mQ;go_wp2_with fail
      go_region_held3 (fun w'=>w'.cell? (ad.add (k*2))=some (.int .i64 x.c)/\w'.cell? ⟨(ad.add (k*2)).block,(ad.add (k*2)).off+1,none⟩=some (.int .i64 x.g))
       (first | exact⟨by assumption,by assumption⟩ | exact⟨qk (by assumption) _,qk (by assumption) _⟩)
       (first
        |(go_must (refine ju ((V.alloc (.cells #[.int .i64 x.c,.int .i64 x.g] 108)).drew) rfl _ _ 73 rfl V.heap.size 108 Tryz.q05 Tryz.underlying73 rfl (by decide) (by decide) _ 1 x.enc rfl (vq V.drew 108 2 1 x.enc rfl (by unfold maxLen;omega)) _ (k - m) (cat Sd.enc (L.drop m)) rfl (by have:=(Sl.qc (qa nu.out ((qb ((Below.refl _ V).alloc (nlr _) (.cells #[.int .i64 x.c,.int .i64 x.g] 108)) 1)))).qho m (by omega) (by unfold maxLen;omega) (oc=m) Iff.rfl (m*2) rfl;rw[ei.out.2.2.1] at this;simp[Act.eval];exact this) ei.out.2.1 (zo Sd.xu _) (by omega) (by show V.heap.size<=(V.alloc (.cells #[.int .i64 x.c,.int .i64 x.g] 108)).heap.size;simp) ?_;intro r w2 cB ag;have aQ:Below V.heap.size V w2:=(qb ((Below.refl _ V).alloc (nlr _) (.cells #[.int .i64 x.c,.int .i64 x.g] 108)) 1).trans ag;have e1:=q8 aQ d1;have e2:=q8 aQ d2;have R2:=lhd (aiq cB aQ);clear cB ag aQ)))
      all_goals
       generalize (if oc=m then (some (⟨g,0,none⟩ : Addr)) else some ⟨g,m*2,none⟩)=s53;have fI:V.heap.size<=w2.heap.size:=R2.out.2.size;have fT:Sl (w2.alloc (.cells #[] 108)) 2 (.slice (some ⟨g,0,none⟩) m oc) (cat Sd.enc (L.take m)):=by
        have:=((Sl.qc (qa nu.out R2.out.2)).alloc (.cells #[] 108)).take (k:=m) (by omega);rw[ei.out.2.2.2] at this;exact this
       go_wp2_with (at_builtin;refine qm (W:=w2) rfl _ _ 73 rfl w2.heap.size 108 Tryz.q05 Tryz.underlying73 rfl (by decide) (by decide) _ _ _ rfl (zj w2 108 2) _ m (cat Sd.enc (L.take m)) rfl fT ei.out.1 (zo Sd.xu _) ?apAb (((Below.refl _ w2).alloc (nlr _) _)) ?apBb ?_)
       case apAb=>omega
       case apBb=>simp
       intro v3 w3 cY _ aB;have fU:Sl w3 2 r (x.enc++cat Sd.enc (L.drop m)):=Sl.qc (qa R2.out.1 aB);go_wp2_with (at_builtin;refine qm (W:=w2) rfl _ _ 73 rfl w2.heap.size 108 Tryz.q05 Tryz.underlying73 rfl (by decide) (by decide) _ _ _ rfl cY _ (1+(k - m)) (x.enc++cat Sd.enc (L.drop m)) rfl fU ?apEb ?apFb ?apCb aB ?apDb ?_)
       case apCb=>omega
       case apDb=>exact aB.size
       case apEb=>rw[gl,ei.out.2.1];show 2+_=_;omega
       case apFb=>exact fun u hu=>(gF.1 hu).elim (Sd.xu x u) (zo Sd.xu _ u)
       intro v4 w4 eo _ bU;obtain⟨f1,f2⟩:=aP.out v4 w4 (qf (zm eo (by omega)) fI) (R2.out.2.trans (bU.mono fI));obtain⟨f4,f5,l8⟩:=qj f1;subst l8;have F1:=lhd (aiq f1 f2);clear cY eo aB bU fT fU f1 f2;go_wp2;go_roundw
       case measure=>simp[vI];omega
       case rel=>exact⟨k+1,qh (by omega),by omega,F1.out.1,F1.out.2⟩
  ·have bJ:k=len:=by omega
   have fR:=lhd bJ;clear bJ;rw[fR.out] at ah;rw[ge (by rw[HL.out];exact nlr _)] at ah;have ml:=lhd ah;clear ah;go_wp2;go_ret;exact⟨_,rfl,by rw[HL.out];exact ml.out,hB⟩
end Go.Proofs.YtlhicnfeajejhaaGreatDoor
namespace Go.Cx
open Go.RowKit
def q24 (all:List (List Int)) (t:List Int):List (List Int):=if q34 all t then all else all.take (plc all t)++t :: all.drop (plc all t)
def j7:List Int->Nat->List Int
 | [],_=>[]
 | x :: s,b=>if b % 2=1 then x :: j7 s (b / 2) else j7 s (b / 2)
def kt (s:List Int) (all:List (List Int)) (n:Nat):List (List Int):=(List.range n).foldl (fun a b=>q24 a (j7 s (b+1))) all
def kg (ls:List (List Int)):List (List Int):=ls.foldl (fun a s=>kt s a (2 ^ s.length - 1)) []
theorem q2o (s:List Int) (all:List (List Int)) (n:Nat):kt s all (n+1)=q24 (kt s all n) (j7 s (n+1)):=by
 unfold kt;rw[bp,List.foldl_append];rfl
theorem qfc (ls:List (List Int)) (s:List Int):kg (ls++[s])=kt s (kg ls) (2 ^ s.length - 1):=by simp[kg]
theorem qhp (all:List (List Int)) (t:List Int):(q24 all t).length<=all.length+1:=by
 unfold q24;split
 ·omega
 ·have:=q8u all t;simp;omega
theorem q67 (s:List Int) (all:List (List Int)) (n:Nat):(kt s all n).length<=all.length+n:=by
 induction n with
 | zero=>exact nlr _
 | succ n ih=>rw[q2o];have:=qhp (kt s all n) (j7 s (n+1));omega
theorem q3v (ls:List (List Int)) (h:∀ s∈ls,s.length<=4):(kg ls).length<=ls.length*15:=by
 have key:∀ (ls a:List (List Int)),(∀ s∈ls,s.length<=4)->(ls.foldl (fun a s=>kt s a (2 ^ s.length - 1)) a).length<=a.length+ls.length*15:=fun ls=>by
  induction ls with
  | nil=>intro a _;simp
  | cons s ls ih =>
   intro a h;have h1:=ih (kt s a (2 ^ s.length - 1)) (fun x hx=>h x (by simp[hx]));have h2:=q67 s a (2 ^ s.length - 1);have h3:2 ^ s.length<=2 ^ 4:=bt (by decide) (h s (by simp));rw[List.foldl_cons,gD];omega
 have:=key ls [] h;unfold kg;simpa using this
theorem q7r:∀ (s:List Int) (x:Int) (b:Nat),j7 (s++[x]) b=j7 s b++(if b / 2 ^ s.length % 2=1 then [x] else [])
 | [],x,b=>by simp[j7]
 | y :: s,x,b=>by
  have h:=q7r s x (b / 2);have hp:b / 2 / 2 ^ s.length=b / 2 ^ (s.length+1):=by rw[Nat.div_div_eq_div_mul,Nat.pow_succ,Nat.mul_comm]
  rw[hp] at h;show (if b % 2=1 then y :: j7 (s++[x]) (b / 2) else j7 (s++[x]) (b / 2))=_;rw[h];show _=(if b % 2=1 then y :: j7 s (b / 2) else j7 s (b / 2))++_;split <;> simp
theorem qae (s:List Int) (b:Nat):(j7 s b).length<=s.length:=by
 induction s generalizing b with
 | nil=>simp[j7]
 | cons x s ih =>
  have:=ih (b / 2);unfold j7;split <;> simp <;> omega
def qhq (A:List (List Int)):Prop:=∀ t∈A,t.length<=4
theorem qaf {all:List (List Int)} {t u:List Int} (h:u∈q24 all t):u=t\/u∈all:=by
 unfold q24 at h;split at h
 ·exact .inr h
 ·rcases gF.1 h with h | h
  ·exact .inr (gU h)
  ·rcases gt.1 h with h | h
   ·exact .inl h
   ·exact .inr (bu h)
theorem qkm (s:List Int) (hs:s.length<=4) (all:List (List Int)) (h:qhq all) (n:Nat):qhq (kt s all n):=by
 induction n with
 | zero=>exact h
 | succ n ih =>
  rw[q2o];intro t ht;rcases qaf ht with rfl | ht
  ·exact gn (qae _ _) hs
  ·exact ih t ht
theorem q8x (ls:List (List Int)) (h:∀ s∈ls,s.length<=4):qhq (kg ls):=by
 have key:∀ (ls a:List (List Int)),(∀ s∈ls,s.length<=4)->qhq a->qhq (ls.foldl (fun a s=>kt s a (2 ^ s.length - 1)) a):=fun ls=>by
  induction ls with
  | nil=>intro a _ h;exact h
  | cons s ls ih=>intro a h ha;exact ih _ (fun x hx=>h x (by simp[hx])) (qkm s (h s (by simp)) a ha _)
 exact key ls [] h (fun t ht=>by simp at ht)
def z7 (all:List (List Int)) (x:List Int) (n:Nat):List Sd:=(List.range n).map fun k=>⟨((plc all (x.take k++x.drop (k+1)):Nat):Int)+1,1 - 2*((k % 2:Nat):Int)⟩
theorem qc3 (all:List (List Int)) (x:List Int) (n:Nat):z7 all x (n+1)=z7 all x n++[⟨((plc all (x.take n++x.drop (n+1)):Nat):Int)+1,1 - 2*((n % 2:Nat):Int)⟩]:=by
 simp[z7,List.range_succ]
def xy (all:List (List Int)) (i:Nat) (x:List Int):Cl:=⟨(i:Int)+1,(x.length:Int) - 1,zx (z7 all x (if 1 < x.length then x.length else 0))⟩
def xf (all:List (List Int)) (n:Nat):List Cl:=(List.range n).map fun i=>xy all i (all.getD i [])
theorem q4o (all:List (List Int)) (n:Nat):xf all (n+1)=xf all n++[xy all n (all.getD n [])]:=by
 simp[xf,List.range_succ]
def q0m (ls:List (List Int)):List Cl:=xf (kg ls) (kg ls).length
theorem SlI.nil (w:World):SlI w (.slice none 0 0) []:=⟨[],Sl.nil _ _,rfl,fun i u l hu _=>by simp at hu⟩
end Go.Cx
