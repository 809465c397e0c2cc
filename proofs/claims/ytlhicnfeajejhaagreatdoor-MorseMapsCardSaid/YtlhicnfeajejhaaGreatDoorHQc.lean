/- Steps towards MorseMaps. Conditions: none. -/
import Derived.Test.YtlhicnfeajejhaaGreatDoorHQb
set_option maxRecDepth 1000000
set_option maxHeartbeats 16000000
namespace Go.Proofs.YtlhicnfeajejhaaGreatDoor
open Go.RowKit Go.Cx
attribute [local go_sem ↓] Go.wp_at_zero Go.wp_at_succ
def Sd.v (s:Sd):Value:=.agg #[.int .i64 s.c,.int .i64 s.g]
def q2s {α:Type} (L:List α) (f:α->Bool) (i:Int):Prop:=(i = -1/\∀ t∈L,f t=false)\/∃ (k:Nat) (t:α),i=k/\L[k]? = some t/\f t=true/\∀ u∈L.take k,f u=false
theorem q2s.any {α:Type} {L:List α} {f:α->Bool} {i:Int} (h:q2s L f i):decide (0<=i)=L.any f:=by
 rcases h with ⟨rfl,h⟩ | ⟨k,t,rfl,hk,ht,_⟩
 ·rw[List.any_eq_false.2 (fun t ht=>by rw[h t ht];simp)];rfl
 ·rw[List.any_eq_true.2 ⟨t,gh hk,ht⟩];simp
theorem qii (v:Value) (L:List Tm) (g:Nat) (cb:Array Value) (f:Tm->Bool) (w:World) (h:Sl w 3 v (tv L))
  (eg:∀ args w,(callFunc g args).run Tryz.prog w = .ok (.enter g args) w) (hf:∀ W,Below w.heap.size w W->∀ t∈L,Calls Tryz.prog g (#[Tm.v t]++cb) W fun e w'=>e = .returned (.bool (f t))/\Below W.heap.size W w') :
  Calls Tryz.prog 161 #[v,.func (.func g) #[] cb] w fun e w'=>∃ i:Int,e = .returned (.int .i64 i)/\q2s L f i/\Below w.heap.size w w':=by
 obtain⟨a,len,cap,rfl,h1,h2,h3,h4,h5⟩:=h;unfold maxLen at h2;rw[z6] at h3;have hl:L.length=len:=by omega
 clear h3;have Hl:=lhd hl;clear hl;have H4:=lhd h4;clear h4;have H5:=lhd h5;clear h5;have HF:=lhd hf;clear hf;go_enter Tryz.func161,Tryz.ntmps161;go_wp2;go_loopw [5,8] (fun _ i wr=>∃ k:Nat,i = .int .i64 k/\k<=len/\Hid (∀ t∈L.take k,f t=false)/\Below w.heap.size w wr) (fun _ i _=>len - (vI i).toNat)
 case atStart=>exact⟨0,rfl,gp _,(show Hid _ from fun t ht=>by simp at ht),Below.refl _ _⟩
 case round =>
  obtain⟨k,rfl,hk,HN,hB⟩:=hrel;by_cases hlt:k < len
  ·obtain⟨ad,rfl⟩ : ∃ ad,a=some ad:=by
    cases a with
    | none=>have:=H4.out rfl;omega
    | some ad=>exact⟨ad,rfl⟩
   obtain⟨t,ht⟩ : ∃ t,L[k]? = some t:=⟨_,g8 (by rw[Hl.out];exact hlt)⟩
   obtain⟨e0,e1,e2⟩:=jd L k _ ht;have d0:wr.cell? (ad.add (k*3))=some (.int .i64 t.c):=q8 hB (H5.out ad rfl _ _ e0);have d1:wr.cell? ⟨(ad.add (k*3)).block,(ad.add (k*3)).off+1,none⟩=some (.bool t.n):=by rw[qi _ _ _ (by omega)];exact q8 hB (H5.out ad rfl _ _ e1)
   have d2:wr.cell? ⟨(ad.add (k*3)).block,(ad.add (k*3)).off+2,none⟩=some (.string t.m):=by rw[qi _ _ _ (by omega)];exact q8 hB (H5.out ad rfl _ _ e2)
   have af:=HF.out wr hB t (gh ht);have HC:=lhd af;have HT:=lhd ht;clear e0 e1 e2 ht af;go_wp2_with fail;refine HC.out.mono ?_;rintro e w2 ⟨rfl,ao⟩;by_cases hft:f t=true
   ·have eL:=lhd hft;rw[hft];go_wp2;go_ret;exact⟨k,rfl,.inr ⟨k,t,rfl,HT.out,eL.out,HN.out⟩,hB.trans (ao.mono hB.size)⟩
   ·have lj:f t=false:=by simpa using hft
    have eL:=lhd lj;rw[lj];clear hft lj;go_wp2;go_roundw
    case measure=>simp[vI];omega
    case rel =>
     refine⟨k+1,qh (by omega),by omega,(show Hid _ from fun u hu=>?_),hB.trans (ao.mono hB.size)⟩;rw[gq,HT.out] at hu;rcases gH.1 hu with hu | hu
     ·exact HN.out u hu
     ·simp at hu;rw[hu];exact eL.out
  ·have bG:k=len:=by omega
   have eG:=lhd bG;clear bG;go_wp2;go_ret;refine⟨-1,rfl,.inl ⟨rfl,?_⟩,hB⟩;have hn:=HN.out;rw[gm (by rw[Hl.out,eG.out];exact nlr _)] at hn;exact hn
theorem qnz (v:Value) (L:List Sd) (g:Nat) (cb:Array Value) (f:Sd->Bool) (w:World) (h:Sl w 2 v (cat Sd.enc L))
  (eg:∀ args w,(callFunc g args).run Tryz.prog w = .ok (.enter g args) w) (hf:∀ W,Below w.heap.size w W->∀ t∈L,Calls Tryz.prog g (#[Sd.v t]++cb) W fun e w'=>e = .returned (.bool (f t))/\Below W.heap.size W w') :
  Calls Tryz.prog 205 #[v,.func (.func g) #[] cb] w fun e w'=>∃ i:Int,e = .returned (.int .i64 i)/\q2s L f i/\Below w.heap.size w w':=by
 obtain⟨a,len,cap,rfl,h1,h2,h3,h4,h5⟩:=h;unfold maxLen at h2;rw[qt Sd.qp] at h3;have hl:L.length=len:=by omega
 clear h3;have Hl:=lhd hl;clear hl;have H4:=lhd h4;clear h4;have H5:=lhd h5;clear h5;have HF:=lhd hf;clear hf;go_enter Tryz.func205,Tryz.ntmps205;go_wp2;go_loopw [5,8] (fun _ i wr=>∃ k:Nat,i = .int .i64 k/\k<=len/\Hid (∀ t∈L.take k,f t=false)/\Below w.heap.size w wr) (fun _ i _=>len - (vI i).toNat)
 case atStart=>exact⟨0,rfl,gp _,(show Hid _ from fun t ht=>by simp at ht),Below.refl _ _⟩
 case round =>
  obtain⟨k,rfl,hk,HN,hB⟩:=hrel;by_cases hlt:k < len
  ·obtain⟨ad,rfl⟩ : ∃ ad,a=some ad:=by
    cases a with
    | none=>have:=H4.out rfl;omega
    | some ad=>exact⟨ad,rfl⟩
   obtain⟨t,ht⟩ : ∃ t,L[k]? = some t:=⟨_,g8 (by rw[Hl.out];exact hlt)⟩
   obtain⟨e0,e1⟩:=zw L k t ht;have d0:wr.cell? (ad.add (k*2))=some (.int .i64 t.c):=q8 hB (H5.out ad rfl _ _ e0);have d1:wr.cell? ⟨(ad.add (k*2)).block,(ad.add (k*2)).off+1,none⟩=some (.int .i64 t.g):=by rw[qi _ _ _ (by omega)];exact q8 hB (H5.out ad rfl _ _ e1)
   have af:=HF.out wr hB t (gh ht);have HC:=lhd af;have HT:=lhd ht;clear e0 e1 ht af;go_wp2_with fail;refine HC.out.mono ?_;rintro e w2 ⟨rfl,ao⟩;by_cases hft:f t=true
   ·have eL:=lhd hft;rw[hft];go_wp2;go_ret;exact⟨k,rfl,.inr ⟨k,t,rfl,HT.out,eL.out,HN.out⟩,hB.trans (ao.mono hB.size)⟩
   ·have lj:f t=false:=by simpa using hft
    have eL:=lhd lj;rw[lj];clear hft lj;go_wp2;go_roundw
    case measure=>simp[vI];omega
    case rel =>
     refine⟨k+1,qh (by omega),by omega,(show Hid _ from fun u hu=>?_),hB.trans (ao.mono hB.size)⟩;rw[gq,HT.out] at hu;rcases gH.1 hu with hu | hu
     ·exact HN.out u hu
     ·simp at hu;rw[hu];exact eL.out
  ·have bG:k=len:=by omega
   have eG:=lhd bG;clear bG;go_wp2;go_ret;refine⟨-1,rfl,.inl ⟨rfl,?_⟩,hB⟩;have hn:=HN.out;rw[gm (by rw[Hl.out,eG.out];exact nlr _)] at hn;exact hn
theorem qo0 (v:Value) (L:List Int) (g:Nat) (cb:Array Value) (f:Int->Bool) (w:World) (h:Sl w 1 v (ints L))
  (eg:∀ args w,(callFunc g args).run Tryz.prog w = .ok (.enter g args) w) (hf:∀ W,Below w.heap.size w W->∀ t∈L,Calls Tryz.prog g (#[.int .i64 t]++cb) W fun e w'=>e = .returned (.bool (f t))/\Below W.heap.size W w') :
  Calls Tryz.prog 187 #[v,.func (.func g) #[] cb] w fun e w'=>∃ i:Int,e = .returned (.int .i64 i)/\q2s L f i/\Below w.heap.size w w':=by
 obtain⟨a,len,cap,rfl,h1,h2,h3,h4,h5⟩:=h;unfold maxLen at h2;rw[xl] at h3;have hl:L.length=len:=by omega
 clear h3;have Hl:=lhd hl;clear hl;have H4:=lhd h4;clear h4;have H5:=lhd h5;clear h5;have HF:=lhd hf;clear hf;go_enter Tryz.func187,Tryz.ntmps187;go_wp2;go_loopw [5,8] (fun _ i wr=>∃ k:Nat,i = .int .i64 k/\k<=len/\Hid (∀ t∈L.take k,f t=false)/\Below w.heap.size w wr) (fun _ i _=>len - (vI i).toNat)
 case atStart=>exact⟨0,rfl,gp _,(show Hid _ from fun t ht=>by simp at ht),Below.refl _ _⟩
 case round =>
  obtain⟨k,rfl,hk,HN,hB⟩:=hrel;by_cases hlt:k < len
  ·obtain⟨ad,rfl⟩ : ∃ ad,a=some ad:=by
    cases a with
    | none=>have:=H4.out rfl;omega
    | some ad=>exact⟨ad,rfl⟩
   obtain⟨t,ht⟩ : ∃ t,L[k]? = some t:=⟨_,g8 (by rw[Hl.out];exact hlt)⟩
   have e0:(ints L)[k]? = some (.int .i64 t):=by simp[ints,ht]
   have d0:wr.cell? (ad.add k)=some (.int .i64 t):=q8 hB (H5.out ad rfl _ _ e0);have af:=HF.out wr hB t (gh ht);have HC:=lhd af;have HT:=lhd ht;clear e0 ht af;go_wp2_with fail;refine HC.out.mono ?_;rintro e w2 ⟨rfl,ao⟩;by_cases hft:f t=true
   ·have eL:=lhd hft;rw[hft];go_wp2;go_ret;exact⟨k,rfl,.inr ⟨k,t,rfl,HT.out,eL.out,HN.out⟩,hB.trans (ao.mono hB.size)⟩
   ·have lj:f t=false:=by simpa using hft
    have eL:=lhd lj;rw[lj];clear hft lj;go_wp2;go_roundw
    case measure=>simp[vI];omega
    case rel =>
     refine⟨k+1,qh (by omega),by omega,(show Hid _ from fun u hu=>?_),hB.trans (ao.mono hB.size)⟩;rw[gq,HT.out] at hu;rcases gH.1 hu with hu | hu
     ·exact HN.out u hu
     ·simp at hu;rw[hu];exact eL.out
  ·have bG:k=len:=by omega
   have eG:=lhd bG;clear bG;go_wp2;go_ret;refine⟨-1,rfl,.inl ⟨rfl,?_⟩,hB⟩;have hn:=HN.out;rw[gm (by rw[Hl.out,eG.out];exact nlr _)] at hn;exact hn
theorem ql9 (v:Value) (L:List Sd) (g:Nat) (cb:Array Value) (f:Sd->Bool) (w:World) (h:Sl w 2 v (cat Sd.enc L))
  (eg:∀ args w,(callFunc g args).run Tryz.prog w = .ok (.enter g args) w) (hf:∀ W,Below w.heap.size w W->∀ t∈L,Calls Tryz.prog g (#[Sd.v t]++cb) W fun e w'=>e = .returned (.bool (f t))/\Below W.heap.size W w') :
  Calls Tryz.prog 185 #[v,.func (.func g) #[] cb] w fun e w'=>e = .returned (.bool (L.any f))/\Below w.heap.size w w':=by
 have af:=qnz v L g cb f w h eg hf;obtain⟨a,len,cap,rfl⟩:=qg h;have HC:=lhd af;clear af hf h;go_enter Tryz.func185,Tryz.ntmps185;go_wp2_with fail;refine HC.out.mono ?_;rintro e w2 ⟨i,rfl,hi,ao⟩;have HI:=lhd hi.any;clear hi;go_wp2;go_ret;refine⟨?_,ao⟩;rw[<-HI.out];rfl
theorem qo1 (s:Sd) (bk:Nat) (id:Int) (w:World) (hc:w.cell? ⟨bk,0,none⟩=some (.int .i64 id)) :
  Calls Tryz.prog 186 #[Sd.v s,.pointer (some ⟨bk,0,none⟩)] w fun e w'=>e = .returned (.bool (s.c == id))/\Below w.heap.size w w':=by
 have h1:(w.alloc (.cells #[.int .i64 s.c,.int .i64 s.g] 108)).cell? ⟨bk,0,none⟩=some (.int .i64 id):=qk hc _;unfold Sd.v;go_enter Tryz.func186,Tryz.ntmps186;go_wp2;go_ret;exact⟨rfl,(Below.refl _ w).alloc (nlr _) _⟩
theorem qp8 (x:Ce) (id:Int) (w:World) (hs:Sl w 2 x.sl (cat Sd.enc x.s)) :
  Calls Tryz.prog 154 #[x.v,.int .i64 id] w fun e w'=>e = .returned (.bool (x.s.any fun s=>s.c == id))/\Below w.heap.size w w':=by
 unfold Ce.sl at hs;unfold Ce.v;obtain⟨W,hW⟩ : ∃ W,W=(w.alloc (.cells #[.int .i64 x.id,.int .i64 x.dim,.slice x.a x.n x.c] 75)).alloc (.cells #[.int .i64 id] 3):=⟨_,rfl⟩
 have hB:Below w.heap.size w W:=by rw[hW];exact((Below.refl _ w).alloc (nlr _) _).alloc (by simp) _
 have hc:W.cell? ⟨w.heap.size+1,0,none⟩=some (.int .i64 id):=by
  rw[hW];simp
 have af:=ql9 (.slice x.a x.n x.c) x.s 186 #[.pointer (some ⟨w.heap.size+1,0,none⟩)] (fun s=>s.c == id) W (hs.q8 hB) Tryz.call186 (fun U hU s _=>qo1 s (w.heap.size+1) id U (Cx.q8 hU hc));rw[hW] at af hB;have HC:=lhd af;have HB:=lhd hB;clear hs af hB hc hW;go_enter Tryz.func154,Tryz.ntmps154;go_wp2_with fail;refine HC.out.mono ?_;rintro e w2 ⟨rfl,ao⟩;go_wp2;go_ret;exact⟨rfl,HB.out.trans (ao.mono HB.out.size)⟩
theorem qij (x:Ce) (bk:Nat) (id:Int) (w:World) (hc:w.cell? ⟨bk,0,none⟩=some (.int .i64 id)) (hs:Sl w 2 x.sl (cat Sd.enc x.s)) :
  Calls Tryz.prog 153 #[x.v,.pointer (some ⟨bk,0,none⟩)] w fun e w'=>e = .returned (.bool (x.s.any fun s=>s.c == id))/\Below w.heap.size w w':=by
 have h1:(w.alloc (.cells #[.int .i64 x.id,.int .i64 x.dim,.slice x.a x.n x.c] 75)).cell? ⟨bk,0,none⟩=some (.int .i64 id):=qk hc _;have hB:Below w.heap.size w (w.alloc (.cells #[.int .i64 x.id,.int .i64 x.dim,.slice x.a x.n x.c] 75)):=(Below.refl _ w).alloc (nlr _) _;have af:=qp8 x id _ (hs.q8 hB);unfold Ce.v at af ⊢;have HC:=lhd af;have HB:=lhd hB;clear hs af hB hc;go_enter Tryz.func153,Tryz.ntmps153;go_wp2_with fail;refine HC.out.mono ?_;rintro e w2 ⟨rfl,ao⟩;go_wp2;go_ret;exact⟨rfl,HB.out.trans (ao.mono HB.out.size)⟩
theorem qla (v:Value) (l:List Ce) (id:Int) (w:World) (h:SlC w v l) (hl:l.length<=1099511627776) (hok:COk l) :
  Calls Tryz.prog 99 #[.agg #[v],.int .i64 id] w fun e w'=>∃ r,e = .returned r/\w'.ownsRow w.heap.size 3 1 r (kd (l.map Ce.cl) id).length (ints (kd (l.map Ce.cl) id))/\Below w.heap.size w w':=by
 obtain⟨a,n,cap,rfl⟩:=qg h.1;have HH:=lhd h;clear h;have jG:=lhd hok;clear hok;go_enter Tryz.func99,Tryz.ntmps99;go_wp2_with fail;refine(qnb _ l _ ((HH.out.alloc _).alloc _) hl jG.out).mono ?_;rintro e w1 ⟨T,rfl,⟨B,n1,v1,m,t1,t2,t3,t4,t5,t6,t7,t8⟩,aj⟩;simp only [World.size_alloc] at t1 t2 aj;have cj:w.heap.size+1+1<=w1.heap.size:=by have:=aj.size;simpa using this
 have ak:Below w.heap.size w w1:=(((Below.refl _ w).alloc (nlr _) _).alloc (by simp) _).trans (aj.mono (by omega));have hd:w1.cell? ⟨w.heap.size+1,0,none⟩=some (.int .i64 id):=by
  have:=qd (w.alloc (.cells #[.slice a n cap] 26)) #[.int .i64 id] 3 (0,0) 0;rw[World.size_alloc] at this;exact q1n aj (by simp) this
 have ff:m.length<=1099511627776:=by
  have:=congrArg List.length t7;rw[q0z,gn,gn] at this;omega
 have fW:∀ x∈m,I64 x.id:=fun x hx=>by
  have h1:x.cl∈canon (l.map Ce.cl):=by rw[<-t7];exact gI hx
  obtain⟨y,hy,he⟩:=go.1 h1;obtain⟨z,hz,rfl⟩:=go.1 ((q2m _ y).1 hy);have h2:=congrArg Cl.id he;have h3:z.id=x.id:=h2;rw[<-h3];exact(jG.out z hz).1.1
 have af:=qdg T B n1 v1 m 153 #[.pointer (some ⟨w.heap.size+1,0,none⟩)] (fun x=>x.s.any fun s=>s.c == id) w1 t3 t4 t5 t6 ff fW Tryz.call153 (fun W hW x hx=>qij x (w.heap.size+1) id W (Cx.q8 hW hd) ((t8 x hx).q8 hW));have heq:((xb Ce.id m).filter (fun x=>x.s.any fun s=>s.c == id)).map Ce.id=kd (l.map Ce.cl) id:=by
  unfold kd cellsOf;rw[<-t7,q63 (key:=Ce.id) Ce.cl (fun _=>rfl),List.filter_map,List.map_map];rfl
 have HC:=lhd af;have sV:=lhd heq;clear af heq t1 t2 t3 t4 t5 t6 t7 t8 hd ff fW;go_wp2_with fail;refine HC.out.mono ?_;rintro e w2 ⟨r,rfl,hr,ao⟩;go_wp2;go_ret;refine⟨r,rfl,?_,ak.trans (ao.mono ak.size)⟩;have hlen:=congrArg List.length sV.out;rw[gn] at hlen;rw[<-hlen,<-sV.out];exact qf hr ak.size
end Go.Proofs.YtlhicnfeajejhaaGreatDoor
namespace Go.Cx
open Go.RowKit Go.Maps
def q51 (nb:Int->Nat) (K:List Cl):Int->Option Value:=fun c=>if jv K c then some (.map (some (nb c))) else none
theorem qfn (nb:Int->Nat) (K:List Cl) (x:Cl) (b:Nat):q51 (fun c=>if c=x.id then b else nb c) (K++[x])=zg (q51 nb K) x.id (.map (some b)):=by
 funext c
 unfold q51 zg jv;rw[List.any_append];by_cases h:c=x.id
 ·subst h;simp
 ·have:(x.id == c)=false:=by simpa using fun e=>h e.symm
  simp[h,this]
end Go.Cx
namespace Go.Proofs.YtlhicnfeajejhaaGreatDoor
open Go.RowKit Go.Cx Go.Maps
attribute [local go_sem ↓] Go.wp_at_zero Go.wp_at_succ
theorem qlb (v:Value) (l:List Ce) (w:World) (h:SlC w v l) (hok:COk l) (hA:Asc (l.map Ce.cl)) :
  Calls Tryz.prog 180 #[.agg #[v]] w fun e w'=>∃ B nb,e = .returned (.map (some B))/\w.heap.size<=B/\(∀ x∈l,w.heap.size<=nb x.id/\nb x.id≠B)/\Sds w' B nb (l.map Ce.cl)/\Below w.heap.size w w':=by
 obtain⟨a,len,cap,rfl⟩:=qg h.1;have HH:=lhd h;clear h;have jG:=lhd hok;clear hok;have HA:=lhd hA;clear hA;have dV:=@run_makeMap Tryz.prog;have hlen:l.length=len:=by
  obtain⟨_,_,h3,_⟩:=HH.out.1.open;rw[qt Ce.qp] at h3;omega
 have Dm:len<=maxLen:=by
  obtain⟨h1,h2,_⟩:=HH.out.1.open;omega
 unfold maxLen at Dm;have HL:=lhd hlen;clear hlen;obtain⟨K0,hK0⟩ : ∃ K0,K0=l.map Ce.cl:=⟨_,rfl⟩
 rw[<-hK0];have uw:=lhd hK0;clear hK0;go_enter Tryz.func180,Tryz.ntmps180;go_wp2;obtain⟨W,hW⟩ : ∃ W:World,W=(w.alloc (.cells #[.slice a len cap] 26)).alloc (.map #[] 0):=⟨_,rfl⟩
 rw[<-hW];have bP:Below w.heap.size w W:=by rw[hW];exact((Below.refl _ w).alloc (nlr _) _).alloc (by simp) _
 have mm:Mp Tryz.prog 3 W (w.heap.size+1) 0 (q51 (fun _=>0) []):=by
  rw[hW,show q51 (fun _=>0) []=fun _=>none from rfl];have:=Mp.made (w.alloc (.cells #[.slice a len cap] 26)) Tryz.prog 3;simpa using this
 obtain⟨B,hB⟩ : ∃ B,B=w.heap.size+1:=⟨_,rfl⟩
 rw[<-hB] at mm ⊢;have aM:w.heap.size < B:=by omega
 have YS:=lhd hB;clear hW hB;go_loopw [12] (fun i wr=>∃ (k:Nat) (nb:Int->Nat),i = .int .i64 k/\k<=len/\Mp Tryz.prog 3 wr B k (q51 nb (K0.take k))/\Hid (∀ x∈l.take k,w.heap.size<=nb x.id/\nb x.id≠B/\nb x.id < wr.heap.size/\Mp Tryz.prog 3 wr (nb x.id) x.s.length (sgG x.s))/\Below w.heap.size w wr) (fun i _=>len - (vI i).toNat)
 case atStart=>exact⟨0,fun _=>0,rfl,gp _,mm,(show Hid _ from fun x hx=>by simp at hx),bP⟩
 case round =>
  clear mm bP;obtain⟨k,nb,rfl,hk,ep,HE,hB⟩:=hrel;by_cases hlt:k < len
  ·obtain⟨x,hx⟩ : ∃ x,l[k]? = some x:=⟨_,g8 (by rw[HL.out];exact hlt)⟩
   obtain⟨h2,h3,h4,h5,h6⟩:=HH.out.1.open;obtain⟨ad,rfl⟩ : ∃ ad,a=some ad:=by
    cases a with
    | none=>have:=h5 rfl;omega
    | some ad=>exact⟨ad,rfl⟩
   obtain⟨e0,e1,e2⟩:=zh l k x hx;have d0:wr.cell? (ad.add (k*3))=some (.int .i64 x.id):=Cx.q8 hB (h6 ad rfl _ _ e0);have d1:wr.cell? ⟨(ad.add (k*3)).block,(ad.add (k*3)).off+1,none⟩=some (.int .i64 x.dim):=by rw[qi _ _ _ (by omega)];exact Cx.q8 hB (h6 ad rfl _ _ e1)
   have d2:wr.cell? ⟨(ad.add (k*3)).block,(ad.add (k*3)).off+2,none⟩=some (.slice x.a x.n x.c):=by rw[qi _ _ _ (by omega)];exact Cx.q8 hB (h6 ad rfl _ _ e2)
   have oI:=gh hx;have ue:=yx (jG.out x oI).1.1;have cw:l.take (k+1)=l.take k++[x]:=by rw[gq,hx];rfl
   have Pw:K0.take (k+1)=K0.take k++[x.cl]:=by rw[gq,uw.out,List.getElem?_map,hx];rfl
   have cW:=lhd Pw;clear Pw;obtain⟨V,hV⟩ : ∃ V:World,V=wr.alloc (.cells #[.int .i64 x.id,.int .i64 x.dim,.slice x.a x.n x.c] 75):=⟨_,rfl⟩
   have aK:Below wr.heap.size wr V:=by rw[hV];exact(Below.refl _ wr).alloc (nlr _) _
   have UU:V.heap.size=wr.heap.size+1:=by rw[hV];simp
   have v0:V.cell? ⟨wr.heap.size,0,none⟩=some (.int .i64 x.id):=by rw[hV];exact qd wr #[.int .i64 x.id,.int .i64 x.dim,.slice x.a x.n x.c] 75 (0,0) 0
   have v2:V.cell? ⟨wr.heap.size,2,none⟩=some (.slice x.a x.n x.c):=by rw[hV];exact qd wr #[.int .i64 x.id,.int .i64 x.dim,.slice x.a x.n x.c] 75 (0,0) 2
   have Px:Mp Tryz.prog 3 (V.alloc (.map #[] 0)) B k (q51 nb (K0.take k)):=(ep.q8 aK).alloc _;have qB:Mp Tryz.prog 3 (V.alloc (.map #[] 0)) V.heap.size 0 (sgG (x.s.take 0)):=by
    rw[show sgG (x.s.take 0)=fun _=>none from rfl];exact Mp.made V _ _
   have pS:k < maxLen:=by unfold maxLen;omega
   have HX:=lhd (aiq oI cw);have HP:=lhd ep;have rM:=lhd (aiq aK UU);have bY:w.heap.size<=wr.heap.size:=hB.size;have Od:B < wr.heap.size:=ep.lt;clear h2 h3 h4 h5 h6 e0 e1 e2 hx oI cw ep aK;go_wp2_with (first
    |(at_mapUpdate;rw[<-hV];clear hV;refine q1z rfl _ _ _ 121 rfl Px Tryz.underlying3 Tryz.underlying121 pS x.id _ rfl rfl rfl ue ?_)
    | fail)
   intro w3 lf fQ;obtain⟨b,hb⟩ : ∃ b,b=wr.heap.size+1:=⟨_,rfl⟩
   have Le:b=V.heap.size:=by rw[hb,rM.out.2]
   rw[<-Le] at qB;have Ah:Mp Tryz.prog 3 w3 B (k+1) (q51 (fun c=>if c=x.id then b else nb c) (K0.take (k+1))):=by
    rw[cW.out];show Mp _ _ _ _ _ (q51 (fun c=>if c=x.cl.id then b else nb c) (K0.take k++[x.cl]));rw[qfn nb _ x.cl b];rw[<-hb] at lf;exact lf
   have Kq:B < b:=by omega
   have Ai:Mp Tryz.prog 3 w3 b 0 (sgG (x.s.take 0)):=qB.kept fQ (fun e=>by cases e;omega);have Aj:Below wr.heap.size wr (V.alloc (.map #[] 0)):=rM.out.1.alloc (by have:=rM.out.2;omega) _;have Lf:=fQ.size;rw[World.size_alloc,rM.out.2] at Lf;have aA:Below w.heap.size w w3:=(hB.trans (Aj.mono bY)).grown fQ (by rw[World.size_alloc,rM.out.2];omega) (fun k e=>by cases e;omega);have DT:∀ y∈l.take k,w.heap.size<=nb y.id/\nb y.id≠B/\nb y.id < wr.heap.size/\Mp Tryz.prog 3 w3 (nb y.id) y.s.length (sgG y.s):=fun y hy=>by
    obtain⟨h1,h2,h3,h4⟩:=HE.out y hy;refine⟨h1,h2,h3,?_⟩;exact(h4.q8 Aj).kept fQ (fun e=>by cases e;exact h2 rfl)
   have hid:∀ y∈l.take k,y.id≠x.id:=fun y hy e=>by
    have h1:(l.take (k+1)).Pairwise (fun p q:Ce=>p.id < q.id):=by
     have:=HA.out;unfold Asc at this;rw[List.pairwise_map] at this;exact this.sublist (List.take_sublist _ _)
    rw[HX.out.2,List.pairwise_append] at h1;have:=h1.2.2 y hy x (by simp);omega
   have b0:w3.cell? ⟨wr.heap.size,0,none⟩=some (.int .i64 x.id):=ql fQ (qk v0 _) (fun k e=>by cases e;show wr.heap.size≠B;omega);have b2:w3.cell? ⟨wr.heap.size,2,none⟩=some (.slice x.a x.n x.c):=ql fQ (qk v2 _) (fun k e=>by cases e;show wr.heap.size≠B;omega);have Ak:=lhd (aiq DT hid);have Hk:∀ U,Below w.heap.size w U->Sl U 2 (.slice x.a x.n x.c) (cat Sd.enc x.s):=fun U hU=>(HH.out.2 x HX.out.1).q8 hU
   obtain⟨sa,sn,sc,iU⟩ : ∃ sa sn sc,(sa,sn,sc)=(x.a,x.n,x.c):=⟨_,_,_,rfl⟩
   injection iU with hsd1 hsd2
   injection hsd2 with hsd2 hsd3
   rw[<-hsd1,<-hsd2,<-hsd3] at b2 Hk;have iT:=Hk w3 aA;have ou:=lhd Hk;have aW:x.s.length=sn:=by
    obtain⟨_,_,h3,_⟩:=iT.open;rw[qt Sd.qp] at h3;omega
   have ow:sn<=maxLen:=by
    obtain⟨h1,h2,_⟩:=iT.open;omega
   unfold maxLen at ow;have Al:=lhd (aiq iT aW);have HR:=lhd (aiq hb Le);have UW:b < w3.heap.size:=Ai.lt;clear qB lf fQ Px v0 v2 DT hid Le hsd1 hsd2 hsd3 iT aW Hk Aj d0 d1 d2 hb;have lL:(q51 (fun c=>if c=x.id then b else nb c) (K0.take (k+1))) x.id=some (.map (some b)):=by
    unfold q51;have:jv (K0.take (k+1)) x.id=true:=by
     rw[cW.out];exact List.any_eq_true.2 ⟨x.cl,by simp,by show (x.cl.id == x.id)=true;simp[Ce.cl]⟩
    rw[this,if_pos rfl];show some (Value.map (some (if x.id=x.id then b else nb x.id)))=_;rw[if_pos rfl]
   obtain⟨G,hG⟩ : ∃ G,G=q51 (fun c=>if c=x.id then b else nb c) (K0.take (k+1)):=⟨_,rfl⟩
   rw[<-hG] at Ah lL;have UX:=lhd lL;clear lL;obtain⟨bx,iQ⟩ : ∃ bx,bx=wr.heap.size:=⟨_,rfl⟩
   rw[<-iQ] at b0 b2 ⊢;have wK:=lhd (aiq hG iQ);have UY:B < bx/\bx < b:=by have:=HR.out.1;omega
   clear hG iQ;go_wp2_with fail;clear b2;obtain⟨wo,dB⟩ : ∃ wo,wo=wr:=⟨_,rfl⟩
   subst dB;go_loopw [23] (fun j wj=>∃ jj:Nat,j = .int .i64 jj/\jj<=sn/\Mp Tryz.prog 3 wj b jj (sgG (x.s.take jj))/\Mp Tryz.prog 3 wj B (k+1) G/\wj.cell? ⟨bx,0,none⟩=some (.int .i64 x.id)/\Hid (∀ y∈l.take k,Mp Tryz.prog 3 wj (nb y.id) y.s.length (sgG y.s))/\Below w.heap.size w wj/\Below bx w3 wj/\w3.heap.size<=wj.heap.size) (fun j _=>sn - (vI j).toNat)
   case atStart=>exact⟨0,rfl,gp _,Ai,Ah,b0,(show Hid _ from fun y hy=>(Ak.out.1 y hy).2.2.2),aA,Below.refl _ _,nlr _⟩
   case round =>
    clear Ai Ah b0;obtain⟨jj,rfl,wL,rK,DU,c0,HY,kJ,Lg,YT⟩:=hrel;by_cases dP:jj < sn
    ·obtain⟨t,ht⟩ : ∃ t,x.s[jj]? = some t:=⟨_,g8 (by rw[Al.out.2];exact dP)⟩
     obtain⟨_,_,_,h5,h6⟩:=(ou.out wr kJ).open;obtain⟨sd,rfl⟩ : ∃ sd,sa=some sd:=by
      cases sa with
      | none=>have:=h5 rfl;omega
      | some sd=>exact⟨sd,rfl⟩
     obtain⟨e0,e1⟩:=zw x.s jj t ht;have g0:wr.cell? (sd.add (jj*2))=some (.int .i64 t.c):=h6 sd rfl _ _ e0;have g1:wr.cell? ⟨(sd.add (jj*2)).block,(sd.add (jj*2)).off+1,none⟩=some (.int .i64 t.g):=by rw[qi _ _ _ (by omega)];exact h6 sd rfl _ _ e1
     have Hr:=(jG.out x HX.out.1).2.2 t (gh ht);have G9:=yx Hr.1;have DC:=yx (jG.out x HX.out.1).1.1;obtain⟨U,hU⟩ : ∃ U:World,U=wr.alloc (.cells #[.int .i64 t.c,.int .i64 t.g] 108):=⟨_,rfl⟩
     have dU:Below wr.heap.size wr U:=by rw[hU];exact(Below.refl _ wr).alloc (nlr _) _
     have UZ:U.heap.size=wr.heap.size+1:=by rw[hU];simp
     have cP:(Instr.lookup 121 (.map (some B)) (.int .i64 x.id) false).run Tryz.prog U = .ok (.map (some b)) U:=by
      have:=(DU.q8 dU).look Tryz.underlying3 Tryz.underlying121 (qau U) DC;rw[this,UX.out];rfl
     rw[hU] at cP;have YU:(wr.alloc (.cells #[.int .i64 t.c,.int .i64 t.g] 108)).cell? ⟨bx,0,none⟩=some (.int .i64 x.id):=qk c0 _;have Va:=rK.q8 dU;have oE:jj < maxLen:=by unfold maxLen;omega
     have HJ:=lhd (aiq ht (aiq dU (aiq DU UZ)));have YV:b < wr.heap.size:=rK.lt;clear h5 h6 e0 e1 ht rK DU Hr;go_wp2_with (first
      |(at_mapUpdate;rw[<-hU];clear hU;refine q1z rfl _ _ _ 122 rfl Va Tryz.underlying3 Tryz.underlying122 oE t.c _ rfl rfl rfl G9 ?_)
      | fail)
     intro w5 sU ec;have aH:Below w.heap.size w w5:=(kJ.trans (HJ.out.2.1.mono kJ.size)).grown ec (by have:=kJ.size;rw[HJ.out.2.2.2];omega) (fun k e=>by cases e;omega);have Li:Below bx w3 w5:=(Lg.trans (HJ.out.2.1.mono (by omega))).grown ec (by rw[HJ.out.2.2.2];omega) (fun k e=>by cases e;omega);have Bn:=ec.size;rw[HJ.out.2.2.2] at Bn;have Lj:Mp Tryz.prog 3 w5 b (jj+1) (sgG (x.s.take (jj+1))):=by
      rw[gq,HJ.out.1];show Mp _ _ _ _ _ (sgG (x.s.take jj++[t]));rw[qig];exact sU
     have Lk:Mp Tryz.prog 3 w5 B (k+1) G:=(HJ.out.2.2.1.q8 HJ.out.2.1).kept ec (fun e=>by cases e;omega);have Vb:w5.cell? ⟨bx,0,none⟩=some (.int .i64 x.id):=ql ec (Cx.q8 HJ.out.2.1 c0) (fun k e=>by cases e;show bx≠b;omega);have Vc:Hid (∀ y∈l.take k,Mp Tryz.prog 3 w5 (nb y.id) y.s.length (sgG y.s)):=fun y hy=>((HY.out y hy).q8 HJ.out.2.1).kept ec (fun e=>by have:=(Ak.out.1 y hy).2.2.1;cases e;have:=HR.out.1;omega)
     clear sU ec;go_wp2_with fail;go_roundw
     case measure=>simp[vI];omega
     case rel=>exact⟨jj+1,qh (by omega),by omega,Lj,Lk,Vb,Vc,aH,Li,by omega⟩
    ·have dC:jj=sn:=by omega
     have dr:Mp Tryz.prog 3 wr b x.s.length (sgG x.s):=by
      rw[dC,gm (by rw[Al.out.2];exact nlr _)] at rK;rw[Al.out.2];exact rK
     have aU:=lhd (aiq dr (aiq DU kJ));clear dC dr rK DU;go_wp2_with fail;go_roundw
     case measure=>simp[vI];omega
     case rel =>
      refine⟨k+1,fun c=>if c=x.id then b else nb c,qh (by omega),by omega,?_,(show Hid _ from fun y hy=>?_),aU.out.2.2⟩
      ·rw[<-wK.out.1];exact aU.out.2.1
      ·rw[HX.out.2] at hy;rcases gH.1 hy with hy | hy
       ·obtain⟨h1,h2,h3,_⟩:=Ak.out.1 y hy;show w.heap.size<=(if y.id=x.id then b else nb y.id)/\(if y.id=x.id then b else nb y.id)≠B/\(if y.id=x.id then b else nb y.id) < wr.heap.size/\Mp _ _ _ (if y.id=x.id then b else nb y.id) _ _;rw[if_neg (Ak.out.2 y hy)];exact⟨h1,h2,by omega,HY.out y hy⟩
       ·rw[List.mem_singleton.1 hy];show w.heap.size<=(if x.id=x.id then b else nb x.id)/\(if x.id=x.id then b else nb x.id)≠B/\(if x.id=x.id then b else nb x.id) < wr.heap.size/\Mp _ _ _ (if x.id=x.id then b else nb x.id) _ _;rw[if_pos rfl];exact⟨by omega,by omega,aU.out.1.lt,aU.out.1⟩
  ·have bG:k=len:=by omega
   have Gu:l.take k=l:=gm (by rw[HL.out];omega);have Py:K0.take k=K0:=gm (by rw[uw.out,gn,HL.out];omega);rw[Py] at ep;have Pz:k=K0.length:=by rw[uw.out,gn,HL.out];exact bG
   have HT:=lhd (aiq Gu (aiq ep Pz));clear bG Gu Py ep Pz;go_wp2;go_ret;refine⟨B,nb,rfl,by omega,fun x hx=>?_,⟨?_,fun y hy=>?_⟩,hB⟩
   ·have:=HE.out x (by rw[HT.out.1];exact hx);exact⟨this.1,this.2.1⟩
   ·have:=HT.out.2.1;rw[HT.out.2.2] at this;exact this
   ·rw[uw.out] at hy;obtain⟨x,hx,rfl⟩:=go.1 hy;exact(HE.out x (by rw[HT.out.1];exact hx)).2.2.2
theorem MpI.alloc {w:World} {b n:Nat} {h:Int->Int} (m:MpI w b n h) (o:Obj):MpI (w.alloc o) b n h:=m.q8 ((Below.refl _ w).alloc (nlr _) o)
theorem q41 {w w':World} {v:Value} {l:List Ce} (h:SlC w v l) (hb:Below w.heap.size w w'):SlC w' v l:=⟨h.1.q8 hb,fun x hx=>(h.2 x hx).q8 hb⟩
theorem Sds.q8 {w w':World} {B:Nat} {nb:Int->Nat} {K:List Cl} (h:Sds w B nb K) (hb:Below w.heap.size w w'):Sds w' B nb K:=⟨h.top.q8 hb,fun x hx=>(h.each x hx).q8 hb⟩
theorem q2t {w W:World} {a:Option Addr} {len cap:Nat} {l:List Ce} (hw:SlC w (.slice a len cap) l) (hb:Below w.heap.size w W) {BS BH BL:Nat} {nb:Int->Nat} (hS:Sds W BS nb (l.map Ce.cl)) (h1:MpI W BH 0 (fun _=>0)) (h2:MpI W BL 0 (fun _=>0))
  (b0:w.heap.size<=BS) (b1:w.heap.size<=BH) (b2:w.heap.size<=BL) (n1:BS≠BH) (n2:BS≠BL) (n3:BH≠BL) (n4:∀ x∈l,nb x.id≠BH/\nb x.id≠BL) (t:TypeId) (T:Nat) (hT:T=W.heap.size) (W':World) (nE:W'=W.alloc (.cells #[.slice a len cap,.map (some BS),.map (some BH),.map (some BL)] t)) :
  Fld W' T BS BH BL nb a len cap l/\MpI W' BH 0 (fun _=>0)/\MpI W' BL 0 (fun _=>0)/\w.heap.size<=T/\w.heap.size<=BS/\w.heap.size<=BH/\w.heap.size<=BL/\Below w.heap.size w W':=by
 subst hT;have hk:Below W.heap.size W W':=by rw[nE];exact(Below.refl _ W).alloc (nlr _) _
 have l1:=h1.lt;have l2:=h2.lt;refine⟨⟨⟨by omega,by omega,n1,n2,n3⟩,?_,?_,?_,?_,q41 (q41 hw hb) hk,⟨fun ad e aq=>?_,fun x hx ad e aq=>?_⟩,Sds.q8 hS hk,n4⟩,h1.q8 hk,h2.q8 hk,hb.size,b0,b1,b2,hb.trans (hk.mono hb.size)⟩
 ·rw[nE];exact qd W _ _ (0,0) 0
 ·rw[nE];exact qd W _ _ (0,0) 1
 ·rw[nE];exact qd W _ _ (0,0) 2
 ·rw[nE];exact qd W _ _ (0,0) 3
 ·have:=qe6 hw.1 (by rw[e]) aq;exact⟨by omega,by omega⟩
 ·have:=qe6 (hw.2 x hx) (by unfold Ce.sl;rw[e]) aq;exact⟨by omega,by omega⟩
theorem qp9 (a:Option Addr) (len cap:Nat) (l:List Ce) (w:World) (h:SlC w (.slice a len cap) l) (hok:COk l) (hA:Asc (l.map Ce.cl)) :
  Calls Tryz.prog 151 #[.agg #[.slice a len cap]] w fun e w'=>∃ T BS BH BL nb,e = .returned (.pointer (some ⟨T,0,none⟩))/\Fld w' T BS BH BL nb a len cap l/\MpI w' BH 0 (fun _=>0)/\MpI w' BL 0 (fun _=>0)/\w.heap.size<=T/\w.heap.size<=BS/\w.heap.size<=BH/\w.heap.size<=BL/\Below w.heap.size w w':=by
 have dV:=@run_makeMap Tryz.prog;have mixed:Tryz.prog.follows .mixedOrders=true:=by kernel_rfl
 have HH:=lhd (aiq h (aiq hok hA));have tok:Hid True:=trivial;clear h hok hA;go_enter Tryz.func151,Tryz.ntmps151;go_upto_region 1 with fail;obtain⟨W0,jY⟩ : ∃ W0,W0=w.alloc (.cells #[.slice a len cap] 26):=⟨_,rfl⟩
 have c0:W0.cell? ⟨w.heap.size,0,none⟩=some (.slice a len cap):=by rw[jY];exact qd w #[.slice a len cap] 26 (0,0) 0
 have hB:Below w.heap.size w W0:=by rw[jY];exact(Below.refl _ w).alloc (nlr _) _
 have aJ:w.heap.size < W0.heap.size:=by rw[jY];simp
 rw[<-jY];clear jY;have aW:∀ W,Below W0.heap.size W0 W->SlC W (.slice a len cap) l:=fun W hW=>q41 (q41 HH.out.1 hB) hW
 have hd0:Below W0.heap.size W0 W0.drew:=qb (Below.refl _ _) 1;have hd1:∀ o,Below W0.heap.size W0 (W0.alloc o).drew:=fun o=>qb ((Below.refl _ W0).alloc (nlr _) o) 1
 have bX:∀ o o',Below W0.heap.size W0 ((W0.alloc o).alloc o').drew:=fun o o'=>qb (((Below.refl _ W0).alloc (nlr _) o).alloc (by simp) o') 1
 go_region_held3 (fun w'=>w'.cell? ⟨w.heap.size,0,none⟩=some (.slice a len cap))
  (first | assumption | exact qk (by assumption) _ | exact qk (qk (by assumption) _) _ | exact qk (qk (qk (by assumption) _) _) _ | fail)
  (first | (go_at_call 180;have _t:=tok;refine(qlb _ l _ (aW _ (by first | exact hd0 | exact hd1 _ | exact bX _ _)) HH.out.2.1 HH.out.2.2).mono ?_;rintro e w1 ⟨BS,nb,rfl,h1,h2,h3,aj⟩;have ak:Below W0.heap.size W0 w1:=(by first | exact hd0.trans (aj.mono hd0.size) | exact(hd1 _).trans (aj.mono (hd1 _).size) | exact(bX _ _).trans (aj.mono (bX _ _).size));have c1:w1.cell? ⟨w.heap.size,0,none⟩=some (.slice a len cap):=Cx.q8 ak c0;clear _t tok))
 all_goals
  go_wp2;go_ret;have aM:=hB.trans (ak.mono (Nat.le_of_lt aJ));have cj:=ak.size;have Vd:BS < w1.heap.size:=h3.top.lt;have oz:∀ x∈l,nb x.id < w1.heap.size:=fun x hx=>(h3.each x.cl (gI hx)).lt
 ·have g1:W0.heap.size<=BS:=h1;have hk:=((Below.refl w1.heap.size w1).alloc (nlr _) (.map #[] 0)).alloc (by simp) (.map #[] 0);have m2:=MpI.made (w1.alloc (.map #[] 0));rw[World.size_alloc] at m2;exact⟨w1.heap.size+1+1,BS,w1.heap.size,w1.heap.size+1,nb,rfl,q2t HH.out.1 (aM.trans (hk.mono aM.size)) (Sds.q8 h3 hk) (MpI.alloc (MpI.made w1) _) m2 (by omega) (by omega) (by omega) (by omega) (by omega) (by omega) (fun x hx=>by have:=oz x hx;omega) _ _ (by simp) _ rfl⟩
 ·have g1:W0.heap.size<=BS:=h1;have hk:=((Below.refl w1.heap.size w1).alloc (nlr _) (.map #[] 0)).alloc (by simp) (.map #[] 0);have m2:=MpI.made (w1.alloc (.map #[] 0));rw[World.size_alloc] at m2;exact⟨w1.heap.size+1+1,BS,w1.heap.size+1,w1.heap.size,nb,rfl,q2t HH.out.1 (aM.trans (hk.mono aM.size)) (Sds.q8 h3 hk) m2 (MpI.alloc (MpI.made w1) _) (by omega) (by omega) (by omega) (by omega) (by omega) (by omega) (fun x hx=>by have:=oz x hx;omega) _ _ (by simp) _ rfl⟩
 ·have g1:(W0.alloc (.map #[] 0)).heap.size<=BS:=h1;have g2:∀ x∈l,(W0.alloc (.map #[] 0)).heap.size<=nb x.id/\nb x.id≠BS:=h2;simp only [World.size_alloc] at g1 g2;have hk:=(Below.refl w1.heap.size w1).alloc (nlr _) (.map #[] 0);have m1:MpI (W0.alloc (.map #[] 0)).drew W0.heap.size 0 (fun _=>0):=MpI.made W0;exact⟨w1.heap.size+1,BS,W0.heap.size,w1.heap.size,nb,rfl,q2t HH.out.1 (aM.trans (hk.mono aM.size)) (Sds.q8 h3 hk) (MpI.alloc (m1.q8 aj) _) (MpI.made w1) (by omega) (by omega) (by omega) (by omega) (by omega) (by have:=(m1.q8 aj).lt;omega) (fun x hx=>by have:=oz x hx;have:=(g2 x hx).1;omega) _ _ (by simp) _ rfl⟩
 ·have g1:((W0.alloc (.map #[] 0)).alloc (.map #[] 0)).heap.size<=BS:=h1;have g2:∀ x∈l,((W0.alloc (.map #[] 0)).alloc (.map #[] 0)).heap.size<=nb x.id/\nb x.id≠BS:=h2;simp only [World.size_alloc] at g1 g2;have m1:MpI ((W0.alloc (.map #[] 0)).alloc (.map #[] 0)).drew W0.heap.size 0 (fun _=>0):=MpI.alloc (MpI.made W0) _;have m2:=MpI.made (w:=W0.alloc (.map #[] 0));rw[World.size_alloc] at m2;have qI:MpI ((W0.alloc (.map #[] 0)).alloc (.map #[] 0)).drew (W0.heap.size+1) 0 (fun _=>0):=m2;exact⟨w1.heap.size,BS,W0.heap.size,W0.heap.size+1,nb,rfl,q2t HH.out.1 aM h3 (m1.q8 aj) (qI.q8 aj) (by omega) (by omega) (by omega) (by omega) (by omega) (by omega) (fun x hx=>by have:=(g2 x hx).1;omega) _ _ rfl _ rfl⟩
 ·have g1:(W0.alloc (.map #[] 0)).heap.size<=BS:=h1;have g2:∀ x∈l,(W0.alloc (.map #[] 0)).heap.size<=nb x.id/\nb x.id≠BS:=h2;simp only [World.size_alloc] at g1 g2;have hk:=(Below.refl w1.heap.size w1).alloc (nlr _) (.map #[] 0);have m1:MpI (W0.alloc (.map #[] 0)).drew W0.heap.size 0 (fun _=>0):=MpI.made W0;exact⟨w1.heap.size+1,BS,w1.heap.size,W0.heap.size,nb,rfl,q2t HH.out.1 (aM.trans (hk.mono aM.size)) (Sds.q8 h3 hk) (MpI.made w1) (MpI.alloc (m1.q8 aj) _) (by omega) (by omega) (by omega) (by omega) (by omega) (by have:=(m1.q8 aj).lt;omega) (fun x hx=>by have:=oz x hx;have:=(g2 x hx).1;omega) _ _ (by simp) _ rfl⟩
 ·have g1:((W0.alloc (.map #[] 0)).alloc (.map #[] 0)).heap.size<=BS:=h1;have g2:∀ x∈l,((W0.alloc (.map #[] 0)).alloc (.map #[] 0)).heap.size<=nb x.id/\nb x.id≠BS:=h2;simp only [World.size_alloc] at g1 g2;have m1:MpI ((W0.alloc (.map #[] 0)).alloc (.map #[] 0)).drew W0.heap.size 0 (fun _=>0):=MpI.alloc (MpI.made W0) _;have m2:=MpI.made (w:=W0.alloc (.map #[] 0));rw[World.size_alloc] at m2;have qI:MpI ((W0.alloc (.map #[] 0)).alloc (.map #[] 0)).drew (W0.heap.size+1) 0 (fun _=>0):=m2;exact⟨w1.heap.size,BS,W0.heap.size+1,W0.heap.size,nb,rfl,q2t HH.out.1 aM h3 (qI.q8 aj) (m1.q8 aj) (by omega) (by omega) (by omega) (by omega) (by omega) (by omega) (fun x hx=>by have:=(g2 x hx).1;omega) _ _ rfl _ rfl⟩
end Go.Proofs.YtlhicnfeajejhaaGreatDoor
namespace Go.Cx
open Go.RowKit
section
variable {w:World} {base e st g n cap:Nat} {xs:List Value}
theorem q93 (h:w.ownsRow base e st (.slice (some ⟨g,0,none⟩) n cap) n xs) {i:Nat} (hi:i<=n):w.ownsRow base e st (.slice (some ⟨g,0,none⟩) i cap) i (xs.take (i*st)):=by
 obtain⟨h1,h2⟩:=h;refine⟨by rw[gd,h1];exact gZ (bE _ hi),?_⟩;rcases h2 with ⟨h0,_⟩ | ⟨g',cm,cur,hv,hg,hb,k1,k2,k3,k4⟩
 ·cases h0
 ·cases hv
  refine .inr ⟨g,cap,cur,rfl,hg,hb,by omega,k2,k3,?_⟩;rw[<-k4,List.take_take,gZ (bE _ hi)]
theorem ku:∀ (vs:List Value) (o:Nat) {w:World} {xs:List Value},w.ownsRow base e st (.slice (some ⟨g,0,none⟩) n cap) n xs->(∃ ys,(w.setCells g o vs).ownsRow base e st (.slice (some ⟨g,0,none⟩) n cap) n ys/\ys.take o=xs.take o)/\Gs (fun b=>b=g) w (w.setCells g o vs)
 | [],o,w,xs,h=>⟨⟨xs,h,rfl⟩,Gs.refl _ _⟩
 | v :: vs,o,w,xs,h=>by
  obtain⟨h1,h2⟩:=h.stored o v;obtain⟨⟨ys,h3,h4⟩,h5⟩:=ku vs (o+1) h1;refine⟨⟨ys,h3,?_⟩,(Gs.q6i h2 (fun k e=>by cases e;exact .inr rfl)).trans h5⟩;have h6:=congrArg (List.take o) h4;rw[List.take_take,List.take_take,gZ (by omega)] at h6;rw[h6,List.take_set_of_le (nlr _)]
end
theorem qo2 (X:List Tm) (i:Nat) (t:Tm) (h:i < X.length):(((tv X).set (i*3) (.int .i64 t.c)).set (i*3+1) (.bool t.n)).set (i*3+2) (.string t.m)=tv (X.set i t):=by
 induction X generalizing i with
 | nil=>simp at h
 | cons u X ih =>
  cases i with
  | zero=>simp[ko]
  | succ i =>
   have:=ih i (by simpa using h);rw[ko,List.set_cons_succ,ko,<-this];rw[show (i+1)*3=i*3+1+1+1 by omega,show i*3+1+1+1+1=(i*3+1)+1+1+1 by omega,show i*3+1+1+1+2=(i*3+2)+1+1+1 by omega];simp
structure Sft {α:Type} (f:α->Bool) (L X:List α) (i j:Nat):Prop where
 len:X.length=L.length
 lt:i < j
 low:X.take i=(L.take j).filter fun t=>!f t
 high:X.drop j=L.drop j
theorem Sft.start {α:Type} {f:α->Bool} {L:List α} {k:Nat} {t:α} (hk:L[k]? = some t) (ht:f t=true) (hb:∀ u∈L.take k,f u=false):Sft f L L k (k+1) where
 len:=rfl
 lt:=Nat.lt_succ_self k
 low:=by
  rw[gq,hk,bB,List.filter_eq_self.2 (fun u hu=>by rw[hb u hu];rfl)];simp[ht]
 high:=rfl
theorem Sft.get {α:Type} {f:α->Bool} {L X:List α} {i j:Nat} (h:Sft f L X i j):X[j]? = L[j]?:=by
 have:=congrArg (fun l=>l[0]?) h.high;simpa using this
theorem Sft.skip {α:Type} {f:α->Bool} {L X:List α} {i j:Nat} {t:α} (h:Sft f L X i j) (hj:L[j]? = some t) (ht:f t=true):Sft f L X i (j+1) where
 len:=h.len
 lt:=Nat.lt_succ_of_lt h.lt
 low:=by rw[gq,hj,bB,h.low];simp[ht]
 high:=by rw[<-List.drop_drop,<-List.drop_drop,h.high]
theorem Sft.put {α:Type} {f:α->Bool} {L X:List α} {i j:Nat} {t:α} (h:Sft f L X i j) (hj:L[j]? = some t) (ht:f t=false):Sft f L (X.set i t) (i+1) (j+1) where
 len:=by rw[List.length_set];exact h.len
 lt:=Nat.succ_lt_succ h.lt
 low:=by
  have hl:=h.lt;have dP:=(ge.1 hj).1;have ej:i < X.length:=by rw[h.len];omega
  rw[gq,List.getElem?_set_self ej,List.take_set_of_le (nlr _),h.low,gq,hj,bB];simp[ht]
 high:=by
  have hl:=h.lt;rw[List.drop_set_of_lt (by omega),<-List.drop_drop,<-List.drop_drop,h.high]
end Go.Cx
namespace Go.Proofs.YtlhicnfeajejhaaGreatDoor
open Go.RowKit Go.Cx
attribute [local go_sem ↓] Go.wp_at_zero Go.wp_at_succ
theorem q6k (l:List Int) (k:Nat):(ints l).take k=ints (l.take k):=by simp[ints,List.map_take]
theorem qik (w:World):(zeroValue 71).run Tryz.prog w = .ok (.agg #[.int .i64 0,.bool false,.string ⟨#[]⟩]) w:=Tryz.zeroValue71 w
theorem qe9 (W:World) (g i n c:Nat) (hn:0 < n) (hc:∀ j,j < n->(W.cell? ⟨g,i+j,none⟩).isSome=true) (hf:∀ j,j < n->W.frozen? ⟨g,i+j,none⟩=false) :
  ∃ zs,∀ ty,(Builtin.clear_ #[22] ty #[.slice (some ⟨g,i,none⟩) n c]).run Tryz.prog W = .ok (.tuple #[]) (W.setCells g i zs) :=
 ⟨_,fun ty=>Lib.run_clear_slice W _ _ ty _ Tryz.underlying22 (fun w=>q40 w) rfl rfl g i n c hn hc hf⟩
theorem qlc (W:World) (g i n c:Nat) (hn:0 < n) (hc:∀ j,j < n*3->(W.cell? ⟨g,i+j,none⟩).isSome=true) (hf:∀ j,j < n*3->W.frozen? ⟨g,i+j,none⟩=false) :
  ∃ zs,∀ ty,(Builtin.clear_ #[32] ty #[.slice (some ⟨g,i,none⟩) n c]).run Tryz.prog W = .ok (.tuple #[]) (W.setCells g i zs):=by
 obtain⟨m,rfl⟩ : ∃ m,n=m+1:=⟨n - 1,by omega⟩
 have hl:(Builtin.zeroCells #[.int .i64 0,.bool false,.string ⟨#[]⟩] (m+1)).toList.length=(m+1)*3:=by simp[Builtin.zeroCells]
 have h1:∀ v∈(Builtin.zeroCells #[.int .i64 0,.bool false,.string ⟨#[]⟩] (m+1)).toList,v.oneCell'=true:=fun v hv=>by
  obtain⟨i,hi,rfl⟩:=List.getElem_of_mem hv;have h3:i % 3=0\/i % 3=1\/i % 3=2:=by omega
  rcases h3 with h | h | h <;> simp[Builtin.zeroCells,h] <;> rfl
 have aB:=run_storeCells_cells (P:=Tryz.prog) g i (Builtin.zeroCells #[.int .i64 0,.bool false,.string ⟨#[]⟩] (m+1)).toList 0 W (by rw[hl];simpa using hc) (by rw[hl];simpa using hf) h1;simp only [Nat.add_zero] at aB;have hz:=qik W;refine⟨(Builtin.zeroCells #[.int .i64 0,.bool false,.string ⟨#[]⟩] (m+1)).toList,fun ty=>?_⟩;have td:(Value.agg #[.int .i64 0,.bool false,.string ⟨#[]⟩]).cells=#[.int .i64 0,.bool false,.string ⟨#[]⟩]:=by simp[Value.cells]
 simp[Builtin.clear_,run_underlying Tryz.underlying32,hz,td,aB,Result.andThen]
theorem qq3 (base:Nat) (v:Value) (L:List Int) (g:Nat) (cb:Array Value) (f:Int->Bool) (w:World) (h:w.ownsRow base 3 1 v L.length (ints L)) (hlen:L.length<=1099511627776)
  (eg:∀ args w,(callFunc g args).run Tryz.prog w = .ok (.enter g args) w) (hf:∀ W,Gs (fun b=>v.ownBlock=some b) w W->∀ t∈L,Calls Tryz.prog g (#[.int .i64 t]++cb) W fun e w'=>e = .returned (.bool (f t))/\Below W.heap.size W w') :
  Calls Tryz.prog 160 #[v,.func (.func g) #[] cb] w fun e w'=>∃ r,e = .returned r/\w'.ownsRow base 3 1 r (L.filter fun t=>!f t).length (ints (L.filter fun t=>!f t))/\Gs (fun b=>v.ownBlock=some b) w w':=by
 have iG:=qo0 v L g cb f w (Sl.qc h) eg (fun W hW t ht=>hf W (Gs.xh hW) t ht);have HI:=lhd iG;have HF:=lhd hf;have HR:=lhd h;obtain⟨a,cap,rfl⟩:=qj h;obtain⟨len,hl⟩ : ∃ len,len=L.length:=⟨_,rfl⟩
 rw[<-hl] at HI HF HR hlen ⊢;have HL:=lhd hl;clear iG hf h hl;go_enter Tryz.func160,Tryz.ntmps160;go_wp2_with fail;refine HI.out.mono ?_;rintro e w1 ⟨i0,rfl,hi0,aj⟩;have aV:=lhd aj;rcases hi0 with ⟨rfl,aI⟩ | ⟨k,t0,rfl,hk,ht,iH⟩
 ·have HA:=lhd aI;clear aI aj;go_wp2_with fail;go_ret;have he:(L.filter fun t=>!f t)=L:=List.filter_eq_self.2 fun u hu=>by rw[HA.out u hu];rfl
  rw[he,<-HL.out];exact⟨_,rfl,qa HR.out aV.out,Gs.xh aV.out⟩
 ·have aZ:k < len:=by rw[HL.out];exact(ge.1 hk).1
  obtain⟨b,dc⟩ : ∃ b,a=some ⟨b,0,none⟩:=by
   rcases HR.out.2 with ⟨h0,_⟩ | ⟨b,c',cur,he,_⟩
   ·cases h0;omega
   ·exact⟨b,by cases he;rfl⟩
  subst dc;have cU:=Sft.start (f:=f) hk ht iH;have pS:((k:Int) == -1)=false:=by simp
  have DV:=lhd cU;have dt:len<=cap/\cap<=maxLen:=by
   obtain⟨h1,h2,_⟩:=(Sl.qc HR.out).open;exact⟨h1,h2⟩
  obtain⟨wM,lM⟩:=dt;unfold maxLen at lM;have cZ:=qa HR.out aV.out;have cE:=lhd cZ;clear hk ht iH aj cU cZ;go_wp2_with fail;go_loopw [5,6] (fun x5 x6 wr=>∃ (i j:Nat) (X:List Int),x5 = .int .i64 i/\x6 = .int .i64 j/\j<=len/\i < j/\Hid (Sft f L X i j)/\Hid (wr.ownsRow base 3 1 (.slice (some ⟨b,0,none⟩) len cap) len (ints X))/\Gs (fun c=>c=b) w wr) (fun _ x6 _=>len - (vI x6).toNat)
  case atStart=>exact⟨k,k+1,L,rfl,qh (by omega),by omega,by omega,DV.out,cE.out,Gs.xh aV.out⟩
  case round =>
   obtain⟨i,j,X,rfl,rfl,hj,iB,HS,HX,hG⟩:=hrel;have o3:Gs (fun c=>(Value.slice (some ⟨b,0,none⟩) len cap).ownBlock=some c) w wr:=hG.mono fun c _ hc=>by rw[hc];rfl
   by_cases hlt:j < len
   ·obtain⟨t,ht⟩ : ∃ t,L[j]? = some t:=⟨_,g8 (by rw[<-HL.out];exact hlt)⟩
    have wN:X[j]? = some t:=HS.out.get.trans ht;obtain⟨u,hu⟩ : ∃ u,X[i]? = some u:=⟨_,g8 (by rw[HS.out.len,<-HL.out];omega)⟩
    have aD:=fun q=>(HX.out.cellAt q)
    have db:=HX.out.frozenAt;have e0:(ints X)[j]? = some (.int .i64 t):=by simp[ints,wN]
    have d0:wr.cell? ⟨b,j,none⟩=some (.int .i64 t):=by rw[aD _ (by omega),e0]
    have o0:(ints X)[i]? = some (.int .i64 u):=by simp[ints,hu]
    have p0:wr.cell? ⟨b,i,none⟩=some (.int .i64 u):=by rw[aD _ (by omega),o0]
    clear e0 o0;have af:=HF.out wr o3 t (gh ht);have HC:=lhd af;have HT:=lhd ht;have P0:=lhd o3;clear af ht wN hu aD db o3;cases hft:f t with
    | true =>
     have eL:=lhd hft;rw[hft] at HC;clear hft;go_wp2_with fail;refine HC.out.mono ?_;rintro e w2 ⟨rfl,ao⟩;have bY:Below wr.heap.size wr w2:=ao;have dG:Gs (fun c=>c=b) w w2:=hG.then (S':=fun _=>False) (Gs.xh bY) (fun _ h=>h.elim);have dM:Hid (w2.ownsRow base 3 1 (.slice (some ⟨b,0,none⟩) len cap) len (ints X)):=qa HX.out bY;clear ao bY;go_wp2_with fail;go_roundw
     case measure=>simp[vI];omega
     case rel=>exact⟨i,j+1,X,rfl,qh (by omega),by omega,by omega,HS.out.skip HT.out eL.out,dM,dG⟩
    | false =>
     have eL:=lhd hft;rw[hft] at HC;clear hft;go_wp2_with fail;refine HC.out.mono ?_;rintro e w2 ⟨rfl,ao⟩;have bY:Below wr.heap.size wr w2:=ao;have dG:Gs (fun c=>c=b) w w2:=hG.then (S':=fun _=>False) (Gs.xh bY) (fun _ h=>h.elim);have dM:Hid (w2.ownsRow base 3 1 (.slice (some ⟨b,0,none⟩) len cap) len (ints X)):=qa HX.out bY;have f0:=dM.out.frozenAt i
     replace p0:=Cx.q8 bY p0
     clear ao bY;go_wp2_with fail;go_roundw
     case measure=>simp[vI];omega
     case rel=>exact⟨i+1,j+1,X.set i t,qh (by omega),qh (by omega),by omega,by omega,HS.out.put HT.out eL.out,by have:=(dM.out.stored i (.int .i64 t)).1;rw[show (ints X).set i (.int .i64 t)=ints (X.set i t) from by simp[ints,List.map_set]] at this;exact this,dG.grown (dM.out.stored i (.int .i64 t)).2 (fun k e=>by cases e;exact .inr rfl)⟩
   ·have dC:j=len:=by omega
    have aD:=fun q=>(HX.out.cellAt q)
    have db:=HX.out.frozenAt;have fB:=HX.out.1;obtain⟨zs,l8⟩:=qe9 wr b (i) (len - i) (cap - i) (by omega) (fun q hq=>by rw[aD _ (by omega),g8 (by rw[fB];omega)];rfl) (fun q hq=>db _);have aq:¬ cap=i:=by omega
    have HJ:=lhd dC;have HZ:=lhd (ku zs (i) HX.out);have ej:(i:Int)<=(len:Int):=by omega
    have hi0:(0:Int)<=(i:Int):=by omega
    clear aD db fB dC o3;go_wp2_with fail;go_ret;obtain⟨⟨ys,hy,rN⟩,nf⟩:=HZ.out;have ee:=HS.out.low;rw[HJ.out,HL.out,List.take_length] at ee;have qT:(L.filter fun t=>!f t).length=i:=by rw[<-ee,gd,HS.out.len,<-HL.out];omega
    refine⟨_,rfl,?_,(hG.trans nf).mono fun c _ hc=>by rw[hc];rfl⟩;have aC:=q93 hy (i:=i) (by omega);rw[gM,rN,q6k,ee] at aC;rw[qT];exact aC
theorem qil (base:Nat) (v:Value) (L:List Tm) (g:Nat) (cb:Array Value) (f:Tm->Bool) (w:World) (h:w.ownsRow base 71 3 v L.length (tv L)) (hlen:L.length<=1099511627776)
  (eg:∀ args w,(callFunc g args).run Tryz.prog w = .ok (.enter g args) w) (hf:∀ W,Gs (fun b=>v.ownBlock=some b) w W->∀ t∈L,Calls Tryz.prog g (#[Tm.v t]++cb) W fun e w'=>e = .returned (.bool (f t))/\Below W.heap.size W w') :
  Calls Tryz.prog 163 #[v,.func (.func g) #[] cb] w fun e w'=>∃ r,e = .returned r/\w'.ownsRow base 71 3 r (L.filter fun t=>!f t).length (tv (L.filter fun t=>!f t))/\Gs (fun b=>v.ownBlock=some b) w w':=by
 have iG:=qii v L g cb f w (Sl.qc h) eg (fun W hW t ht=>hf W (Gs.xh hW) t ht);have HI:=lhd iG;have HF:=lhd hf;have HR:=lhd h;obtain⟨a,cap,rfl⟩:=qj h;obtain⟨len,hl⟩ : ∃ len,len=L.length:=⟨_,rfl⟩
 rw[<-hl] at HI HF HR hlen ⊢;have HL:=lhd hl;clear iG hf h hl;go_enter Tryz.func163,Tryz.ntmps163;go_wp2_with fail;refine HI.out.mono ?_;rintro e w1 ⟨i0,rfl,hi0,aj⟩;have aV:=lhd aj;rcases hi0 with ⟨rfl,aI⟩ | ⟨k,t0,rfl,hk,ht,iH⟩
 ·have HA:=lhd aI;clear aI aj;go_wp2_with fail;go_ret;have he:(L.filter fun t=>!f t)=L:=List.filter_eq_self.2 fun u hu=>by rw[HA.out u hu];rfl
  rw[he,<-HL.out];exact⟨_,rfl,qa HR.out aV.out,Gs.xh aV.out⟩
 ·have aZ:k < len:=by rw[HL.out];exact(ge.1 hk).1
  obtain⟨b,dc⟩ : ∃ b,a=some ⟨b,0,none⟩:=by
   rcases HR.out.2 with ⟨h0,_⟩ | ⟨b,c',cur,he,_⟩
   ·cases h0;omega
   ·exact⟨b,by cases he;rfl⟩
  subst dc;have cU:=Sft.start (f:=f) hk ht iH;have pS:((k:Int) == -1)=false:=by simp
  have DV:=lhd cU;have dt:len<=cap/\cap<=maxLen:=by
   obtain⟨h1,h2,_⟩:=(Sl.qc HR.out).open;exact⟨h1,h2⟩
  obtain⟨wM,lM⟩:=dt;unfold maxLen at lM;have cZ:=qa HR.out aV.out;have cE:=lhd cZ;clear hk ht iH aj cU cZ;go_wp2_with fail;go_loopw [5,6] (fun x5 x6 wr=>∃ (i j:Nat) (X:List Tm),x5 = .int .i64 i/\x6 = .int .i64 j/\j<=len/\i < j/\Hid (Sft f L X i j)/\Hid (wr.ownsRow base 71 3 (.slice (some ⟨b,0,none⟩) len cap) len (tv X))/\Gs (fun c=>c=b) w wr) (fun _ x6 _=>len - (vI x6).toNat)
  case atStart=>exact⟨k,k+1,L,rfl,qh (by omega),by omega,by omega,DV.out,cE.out,Gs.xh aV.out⟩
  case round =>
   obtain⟨i,j,X,rfl,rfl,hj,iB,HS,HX,hG⟩:=hrel;have o3:Gs (fun c=>(Value.slice (some ⟨b,0,none⟩) len cap).ownBlock=some c) w wr:=hG.mono fun c _ hc=>by rw[hc];rfl
   by_cases hlt:j < len
   ·obtain⟨t,ht⟩ : ∃ t,L[j]? = some t:=⟨_,g8 (by rw[<-HL.out];exact hlt)⟩
    have wN:X[j]? = some t:=HS.out.get.trans ht;obtain⟨u,hu⟩ : ∃ u,X[i]? = some u:=⟨_,g8 (by rw[HS.out.len,<-HL.out];omega)⟩
    have aD:=fun q=>(HX.out.cellAt q)
    have db:=HX.out.frozenAt;obtain⟨e0,e1,e2⟩:=jd X j _ wN;have d0:wr.cell? ⟨b,j*3,none⟩=some (.int .i64 t.c):=by rw[aD _ (by omega),e0]
    have d1:wr.cell? ⟨b,j*3+1,none⟩=some (.bool t.n):=by rw[aD _ (by omega),e1]
    have d2:wr.cell? ⟨b,j*3+2,none⟩=some (.string t.m):=by rw[aD _ (by omega),e2]
    obtain⟨o0,o1,o2⟩:=jd X i _ hu;have p0:wr.cell? ⟨b,i*3,none⟩=some (.int .i64 u.c):=by rw[aD _ (by omega),o0]
    have p1:wr.cell? ⟨b,i*3+1,none⟩=some (.bool u.n):=by rw[aD _ (by omega),o1]
    have p2:wr.cell? ⟨b,i*3+2,none⟩=some (.string u.m):=by rw[aD _ (by omega),o2]
    clear e0 e1 e2 o0 o1 o2;obtain⟨U,hU⟩ : ∃ U,U=wr.alloc (.cells #[.int .i64 t.c,.bool t.n,.string t.m] 71):=⟨_,rfl⟩
    have dU:Below wr.heap.size wr U:=by rw[hU];exact(Below.refl _ wr).alloc (nlr _) _
    have P1:Gs (fun c=>(Value.slice (some ⟨b,0,none⟩) len cap).ownBlock=some c) w U:=o3.then (S':=fun _=>False) (Gs.xh dU) (fun _ h=>h.elim);have u0:U.cell? ⟨wr.heap.size,0,none⟩=some (.int .i64 t.c):=by rw[hU];exact qd wr #[.int .i64 t.c,.bool t.n,.string t.m] 71 (0,0) 0
    have u1:U.cell? ⟨wr.heap.size,1,none⟩=some (.bool t.n):=by rw[hU];exact qd wr #[.int .i64 t.c,.bool t.n,.string t.m] 71 (0,0) 1
    have u2:U.cell? ⟨wr.heap.size,2,none⟩=some (.string t.m):=by rw[hU];exact qd wr #[.int .i64 t.c,.bool t.n,.string t.m] 71 (0,0) 2
    have HU:=lhd (aiq dU (aiq u0 (aiq u1 u2)));have af:=HF.out U P1 t (gh ht);unfold Tm.v at af;rw[hU] at af;have Ll:=lhd hU;clear dU P1 u0 u1 u2 hU;have HC:=lhd af;have HT:=lhd ht;have P0:=lhd o3;clear af ht wN hu aD db o3;cases hft:f t with
    | true =>
     have eL:=lhd hft;rw[hft] at HC;clear hft;go_wp2_with fail;refine HC.out.mono ?_;rintro e w2 ⟨rfl,ao⟩;have bY:Below wr.heap.size wr w2:=by rw[<-Ll.out] at ao;exact HU.out.1.trans (ao.mono HU.out.1.size)
     have dG:Gs (fun c=>c=b) w w2:=hG.then (S':=fun _=>False) (Gs.xh bY) (fun _ h=>h.elim);have dM:Hid (w2.ownsRow base 71 3 (.slice (some ⟨b,0,none⟩) len cap) len (tv X)):=qa HX.out bY;clear ao bY;go_wp2_with fail;go_roundw
     case measure=>simp[vI];omega
     case rel=>exact⟨i,j+1,X,rfl,qh (by omega),by omega,by omega,HS.out.skip HT.out eL.out,dM,dG⟩
    | false =>
     have eL:=lhd hft;rw[hft] at HC;clear hft;go_wp2_with fail;refine HC.out.mono ?_;rintro e w2 ⟨rfl,ao⟩;have bY:Below wr.heap.size wr w2:=by rw[<-Ll.out] at ao;exact HU.out.1.trans (ao.mono HU.out.1.size)
     have dG:Gs (fun c=>c=b) w w2:=hG.then (S':=fun _=>False) (Gs.xh bY) (fun _ h=>h.elim);have dM:Hid (w2.ownsRow base 71 3 (.slice (some ⟨b,0,none⟩) len cap) len (tv X)):=qa HX.out bY;have f0:=dM.out.frozenAt (i*3);have f1:=dM.out.frozenAt (i*3+1);have f2:=dM.out.frozenAt (i*3+2)
     replace p0:=Cx.q8 bY p0
     replace p1:=Cx.q8 bY p1
     replace p2:=Cx.q8 bY p2
     rw[<-Ll.out] at ao;have b0:=Cx.q8 ao HU.out.2.1;have b1:=Cx.q8 ao HU.out.2.2.1;have b2:=Cx.q8 ao HU.out.2.2.2;clear ao bY;go_wp2_with fail;go_roundw
     case measure=>simp[vI];omega
     case rel=>exact⟨i+1,j+1,X.set i t,qh (by omega),qh (by omega),by omega,by omega,HS.out.put HT.out eL.out,by have:=(((dM.out.stored (i*3) (.int .i64 t.c)).1.stored (i*3+1) (.bool t.n)).1.stored (i*3+2) (.string t.m)).1;rw[qo2 X i t (by rw[HS.out.len,<-HL.out];omega)] at this;exact this,((dG.grown (dM.out.stored (i*3) (.int .i64 t.c)).2 (fun k e=>by cases e;exact .inr rfl)).grown ((dM.out.stored (i*3) (.int .i64 t.c)).1.stored (i*3+1) (.bool t.n)).2 (fun k e=>by cases e;exact .inr rfl)).grown (((dM.out.stored (i*3) (.int .i64 t.c)).1.stored (i*3+1) (.bool t.n)).1.stored (i*3+2) (.string t.m)).2 (fun k e=>by cases e;exact .inr rfl)⟩
   ·have dC:j=len:=by omega
    have aD:=fun q=>(HX.out.cellAt q)
    have db:=HX.out.frozenAt;have fB:=HX.out.1;obtain⟨zs,l8⟩:=qlc wr b (i*3) (len - i) (cap - i) (by omega) (fun q hq=>by rw[aD _ (by omega),g8 (by rw[fB];omega)];rfl) (fun q hq=>db _);have aq:¬ cap=i:=by omega
    have HJ:=lhd dC;have HZ:=lhd (ku zs (i*3) HX.out);have ej:(i:Int)<=(len:Int):=by omega
    have hi0:(0:Int)<=(i:Int):=by omega
    clear aD db fB dC o3;go_wp2_with fail;go_ret;obtain⟨⟨ys,hy,rN⟩,nf⟩:=HZ.out;have ee:=HS.out.low;rw[HJ.out,HL.out,List.take_length] at ee;have qT:(L.filter fun t=>!f t).length=i:=by rw[<-ee,gd,HS.out.len,<-HL.out];omega
    refine⟨_,rfl,?_,(hG.trans nf).mono fun c _ hc=>by rw[hc];rfl⟩;have aC:=q93 hy (i:=i) (by omega);rw[rN,q3r,ee] at aC;rw[qT];exact aC
end Go.Proofs.YtlhicnfeajejhaaGreatDoor
