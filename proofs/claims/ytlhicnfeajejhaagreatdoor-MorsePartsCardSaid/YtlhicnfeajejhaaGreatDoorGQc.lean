/- Steps towards MorseParts. Conditions: none. -/
import Derived.Test.YtlhicnfeajejhaaGreatDoorGQb
set_option maxRecDepth 1000000
set_option maxHeartbeats 16000000
namespace Go.Proofs.YtlhicnfeajejhaaGreatDoor
open Go.RowKit Go.Cx
attribute [local go_sem ↓] Go.wp_at_zero Go.wp_at_succ
def Sd.v (s:Sd):Value:=.agg #[.int .i64 s.c,.int .i64 s.g]
def q2s {α:Type} (L:List α) (f:α->Bool) (i:Int):Prop:=(i = -1/\∀ t∈L,f t=false)\/∃ (k:Nat) (t:α),i=k/\L[k]? = some t/\f t=true/\∀ u∈L.take k,f u=false
theorem q2s.any {α:Type} {L:List α} {f:α->Bool} {i:Int} (h:q2s L f i):decide (0<=i)=L.any f:=by
 rcases h with ⟨rfl,h⟩ | ⟨k,t,rfl,hk,ht,_⟩
 ·rw[List.any_eq_false.2 (fun t ht=>by rw[h t ht];simp)];rfl
 ·rw[List.any_eq_true.2 ⟨t,gh hk,ht⟩];simp
theorem qii (v:Value) (L:List Tm) (g:Nat) (cb:Array Value) (f:Tm->Bool) (w:World) (h:Sl w 3 v (tv L))
  (eg:∀ args w,(callFunc g args).run Tryz.prog w = .ok (.enter g args) w) (hf:∀ W,BwQ w W->∀ t∈L,Calls Tryz.prog g (#[Tm.v t]++cb) W fun e w'=>e = .returned (.bool (f t))/\BwQ W w') :
  Calls Tryz.prog 161 #[v,.func (.func g) #[] cb] w fun e w'=>∃ i:Int,e = .returned (.int .i64 i)/\q2s L f i/\BwQ w w':=by
 obtain⟨a,len,cap,rfl,h1,h2,h3,h4,h5⟩:=h;unfold maxLen at h2;rw[z6] at h3;have hl:L.length=len:=by omega
 clear h3;have Hl:=lhd hl;clear hl;have H4:=lhd h4;clear h4;have H5:=lhd h5;clear h5;have HF:=lhd hf;clear hf;go_enter Tryz.func161,Tryz.ntmps161;go_wp2;go_loopw [5,8] (fun _ i wr=>∃ k:Nat,i = .int .i64 k/\k<=len/\Hid (∀ t∈L.take k,f t=false)/\BwQ w wr) (fun _ i _=>len - (vI i).toNat)
 case atStart=>exact⟨0,rfl,go _,(show Hid _ from fun t ht=>by simp at ht),Below.refl _ _⟩
 case round =>
  obtain⟨k,rfl,hk,HN,hB⟩:=hrel;by_cases hlt:k < len
  ·obtain⟨ad,rfl⟩:=sadq H4.out (by omega)
   obtain⟨t,ht⟩ : ∃ t,L[k]? = some t:=⟨_,g8 (by rw[Hl.out];exact hlt)⟩
   obtain⟨e0,e1,e2⟩:=jd L k _ ht;have d0:wr.cell? (ad.add (k*3))=some (.int .i64 t.c):=q8 hB (H5.out ad rfl _ _ e0);have d1:wr.cell? ⟨(ad.add (k*3)).block,(ad.add (k*3)).off+1,none⟩=some (.bool t.n):=by rw[qi _ _ _ (by omega)];exact q8 hB (H5.out ad rfl _ _ e1)
   have d2:wr.cell? ⟨(ad.add (k*3)).block,(ad.add (k*3)).off+2,none⟩=some (.string t.m):=by rw[qi _ _ _ (by omega)];exact q8 hB (H5.out ad rfl _ _ e2)
   have af:=HF.out wr hB t (gh ht);have HC:=lhd af;have HT:=lhd ht;clear e0 e1 e2 ht af;go_wp2_with fail;refine HC.out.mono ?_;rintro e w2 ⟨rfl,aj⟩;by_cases hft:f t=true
   ·have fi:=lhd hft;rw[hft];go_wp2;go_ret;exact⟨k,rfl,.inr ⟨k,t,rfl,HT.out,fi.out,HN.out⟩,(btr hB aj)⟩
   ·have mo:f t=false:=by simpa using hft
    have fi:=lhd mo;rw[mo];clear hft mo;go_wp2;go_roundw
    case measure=>simp[vI];omega
    case rel =>
     refine⟨k+1,qh (by omega),by omega,(show Hid _ from fun u hu=>?_),(btr hB aj)⟩;rw[gq,HT.out] at hu;rcases gF.1 hu with hu | hu
     ·exact HN.out u hu
     ·simp at hu;rw[hu];exact fi.out
  ·have bE:k=len:=by omega
   have eZ:=lhd bE;clear bE;go_wp2;go_ret;refine⟨-1,rfl,.inl ⟨rfl,?_⟩,hB⟩;have hn:=HN.out;rw[gm (by rw[Hl.out,eZ.out];exact nlr _)] at hn;exact hn
theorem qnz (v:Value) (L:List Sd) (g:Nat) (cb:Array Value) (f:Sd->Bool) (w:World) (h:Sl w 2 v (cat Sd.enc L))
  (eg:∀ args w,(callFunc g args).run Tryz.prog w = .ok (.enter g args) w) (hf:∀ W,BwQ w W->∀ t∈L,Calls Tryz.prog g (#[Sd.v t]++cb) W fun e w'=>e = .returned (.bool (f t))/\BwQ W w') :
  Calls Tryz.prog 205 #[v,.func (.func g) #[] cb] w fun e w'=>∃ i:Int,e = .returned (.int .i64 i)/\q2s L f i/\BwQ w w':=by
 obtain⟨a,len,cap,rfl,h1,h2,h3,h4,h5⟩:=h;unfold maxLen at h2;rw[qt Sd.qp] at h3;have hl:L.length=len:=by omega
 clear h3;have Hl:=lhd hl;clear hl;have H4:=lhd h4;clear h4;have H5:=lhd h5;clear h5;have HF:=lhd hf;clear hf;go_enter Tryz.func205,Tryz.ntmps205;go_wp2;go_loopw [5,8] (fun _ i wr=>∃ k:Nat,i = .int .i64 k/\k<=len/\Hid (∀ t∈L.take k,f t=false)/\BwQ w wr) (fun _ i _=>len - (vI i).toNat)
 case atStart=>exact⟨0,rfl,go _,(show Hid _ from fun t ht=>by simp at ht),Below.refl _ _⟩
 case round =>
  obtain⟨k,rfl,hk,HN,hB⟩:=hrel;by_cases hlt:k < len
  ·obtain⟨ad,rfl⟩:=sadq H4.out (by omega)
   obtain⟨t,ht⟩ : ∃ t,L[k]? = some t:=⟨_,g8 (by rw[Hl.out];exact hlt)⟩
   obtain⟨e0,e1⟩:=zw L k t ht;have d0:wr.cell? (ad.add (k*2))=some (.int .i64 t.c):=q8 hB (H5.out ad rfl _ _ e0);have d1:wr.cell? ⟨(ad.add (k*2)).block,(ad.add (k*2)).off+1,none⟩=some (.int .i64 t.g):=by rw[qi _ _ _ (by omega)];exact q8 hB (H5.out ad rfl _ _ e1)
   have af:=HF.out wr hB t (gh ht);have HC:=lhd af;have HT:=lhd ht;clear e0 e1 ht af;go_wp2_with fail;refine HC.out.mono ?_;rintro e w2 ⟨rfl,aj⟩;by_cases hft:f t=true
   ·have fi:=lhd hft;rw[hft];go_wp2;go_ret;exact⟨k,rfl,.inr ⟨k,t,rfl,HT.out,fi.out,HN.out⟩,(btr hB aj)⟩
   ·have mo:f t=false:=by simpa using hft
    have fi:=lhd mo;rw[mo];clear hft mo;go_wp2;go_roundw
    case measure=>simp[vI];omega
    case rel =>
     refine⟨k+1,qh (by omega),by omega,(show Hid _ from fun u hu=>?_),(btr hB aj)⟩;rw[gq,HT.out] at hu;rcases gF.1 hu with hu | hu
     ·exact HN.out u hu
     ·simp at hu;rw[hu];exact fi.out
  ·have bE:k=len:=by omega
   have eZ:=lhd bE;clear bE;go_wp2;go_ret;refine⟨-1,rfl,.inl ⟨rfl,?_⟩,hB⟩;have hn:=HN.out;rw[gm (by rw[Hl.out,eZ.out];exact nlr _)] at hn;exact hn
theorem qo0 (v:Value) (L:List Int) (g:Nat) (cb:Array Value) (f:Int->Bool) (w:World) (h:Sl w 1 v (ints L))
  (eg:∀ args w,(callFunc g args).run Tryz.prog w = .ok (.enter g args) w) (hf:∀ W,BwQ w W->∀ t∈L,Calls Tryz.prog g (#[.int .i64 t]++cb) W fun e w'=>e = .returned (.bool (f t))/\BwQ W w') :
  Calls Tryz.prog 187 #[v,.func (.func g) #[] cb] w fun e w'=>∃ i:Int,e = .returned (.int .i64 i)/\q2s L f i/\BwQ w w':=by
 obtain⟨a,len,cap,rfl,h1,h2,h3,h4,h5⟩:=h;unfold maxLen at h2;rw[xl] at h3;have hl:L.length=len:=by omega
 clear h3;have Hl:=lhd hl;clear hl;have H4:=lhd h4;clear h4;have H5:=lhd h5;clear h5;have HF:=lhd hf;clear hf;go_enter Tryz.func187,Tryz.ntmps187;go_wp2;go_loopw [5,8] (fun _ i wr=>∃ k:Nat,i = .int .i64 k/\k<=len/\Hid (∀ t∈L.take k,f t=false)/\BwQ w wr) (fun _ i _=>len - (vI i).toNat)
 case atStart=>exact⟨0,rfl,go _,(show Hid _ from fun t ht=>by simp at ht),Below.refl _ _⟩
 case round =>
  obtain⟨k,rfl,hk,HN,hB⟩:=hrel;by_cases hlt:k < len
  ·obtain⟨ad,rfl⟩:=sadq H4.out (by omega)
   obtain⟨t,ht⟩ : ∃ t,L[k]? = some t:=⟨_,g8 (by rw[Hl.out];exact hlt)⟩
   have e0:(ints L)[k]? = some (.int .i64 t):=by simp[ints,ht]
   have d0:wr.cell? (ad.add k)=some (.int .i64 t):=q8 hB (H5.out ad rfl _ _ e0);have af:=HF.out wr hB t (gh ht);have HC:=lhd af;have HT:=lhd ht;clear e0 ht af;go_wp2_with fail;refine HC.out.mono ?_;rintro e w2 ⟨rfl,aj⟩;by_cases hft:f t=true
   ·have fi:=lhd hft;rw[hft];go_wp2;go_ret;exact⟨k,rfl,.inr ⟨k,t,rfl,HT.out,fi.out,HN.out⟩,(btr hB aj)⟩
   ·have mo:f t=false:=by simpa using hft
    have fi:=lhd mo;rw[mo];clear hft mo;go_wp2;go_roundw
    case measure=>simp[vI];omega
    case rel =>
     refine⟨k+1,qh (by omega),by omega,(show Hid _ from fun u hu=>?_),(btr hB aj)⟩;rw[gq,HT.out] at hu;rcases gF.1 hu with hu | hu
     ·exact HN.out u hu
     ·simp at hu;rw[hu];exact fi.out
  ·have bE:k=len:=by omega
   have eZ:=lhd bE;clear bE;go_wp2;go_ret;refine⟨-1,rfl,.inl ⟨rfl,?_⟩,hB⟩;have hn:=HN.out;rw[gm (by rw[Hl.out,eZ.out];exact nlr _)] at hn;exact hn
theorem ql9 (v:Value) (L:List Sd) (g:Nat) (cb:Array Value) (f:Sd->Bool) (w:World) (h:Sl w 2 v (cat Sd.enc L))
  (eg:∀ args w,(callFunc g args).run Tryz.prog w = .ok (.enter g args) w) (hf:∀ W,BwQ w W->∀ t∈L,Calls Tryz.prog g (#[Sd.v t]++cb) W fun e w'=>e = .returned (.bool (f t))/\BwQ W w') :
  Calls Tryz.prog 185 #[v,.func (.func g) #[] cb] w fun e w'=>e = .returned (.bool (L.any f))/\BwQ w w':=by
 have af:=qnz v L g cb f w h eg hf;obtain⟨a,len,cap,rfl⟩:=qg h;have HC:=lhd af;clear af hf h;go_enter Tryz.func185,Tryz.ntmps185;go_wp2_with fail;refine HC.out.mono ?_;rintro e w2 ⟨i,rfl,hi,aj⟩;have HI:=lhd hi.any;clear hi;go_wp2;go_ret;refine⟨?_,aj⟩;rw[<-HI.out];rfl
theorem qo1 (s:Sd) (bk:Nat) (id:Int) (w:World) (hc:w.cell? ⟨bk,0,none⟩=some (.int .i64 id)) :
  Calls Tryz.prog 186 #[Sd.v s,.pointer (some ⟨bk,0,none⟩)] w fun e w'=>e = .returned (.bool (s.c == id))/\BwQ w w':=by
 have h1:(w.alloc (.cells #[.int .i64 s.c,.int .i64 s.g] 108)).cell? ⟨bk,0,none⟩=some (.int .i64 id):=qk hc _;unfold Sd.v;go_enter Tryz.func186,Tryz.ntmps186;go_wp2;go_ret;exact⟨rfl,bal w _⟩
theorem qp8 (x:Ce) (id:Int) (w:World) (hs:Sl w 2 x.sl (cat Sd.enc x.s)) :
  Calls Tryz.prog 154 #[x.v,.int .i64 id] w fun e w'=>e = .returned (.bool (x.s.any fun s=>s.c == id))/\BwQ w w':=by
 unfold Ce.sl at hs;unfold Ce.v;obtain⟨W,hW⟩ : ∃ W,W=(w.alloc (.cells #[.int .i64 x.id,.int .i64 x.dim,.slice x.a x.n x.c] 75)).alloc (.cells #[.int .i64 id] 3):=⟨_,rfl⟩
 have hB:BwQ w W:=by rw[hW];exact(bal w _).alloc (by simp) _
 have hc:W.cell? ⟨w.heap.size+1,0,none⟩=some (.int .i64 id):=by rw[hW];simp
 have af:=ql9 (.slice x.a x.n x.c) x.s 186 #[.pointer (some ⟨w.heap.size+1,0,none⟩)] (fun s=>s.c == id) W (hs.q8 hB) Tryz.call186 (fun U hU s _=>qo1 s (w.heap.size+1) id U (Cx.q8 hU hc));rw[hW] at af hB;have HC:=lhd af;have HB:=lhd hB;clear hs af hB hc hW;go_enter Tryz.func154,Tryz.ntmps154;go_wp2_with fail;refine HC.out.mono ?_;rintro e w2 ⟨rfl,aj⟩;go_wp2;go_ret;exact⟨rfl,(btr HB.out aj)⟩
theorem qij (x:Ce) (bk:Nat) (id:Int) (w:World) (hc:w.cell? ⟨bk,0,none⟩=some (.int .i64 id)) (hs:Sl w 2 x.sl (cat Sd.enc x.s)) :
  Calls Tryz.prog 153 #[x.v,.pointer (some ⟨bk,0,none⟩)] w fun e w'=>e = .returned (.bool (x.s.any fun s=>s.c == id))/\BwQ w w':=by
 have h1:(w.alloc (.cells #[.int .i64 x.id,.int .i64 x.dim,.slice x.a x.n x.c] 75)).cell? ⟨bk,0,none⟩=some (.int .i64 id):=qk hc _;have hB:BwQ w (w.alloc (.cells #[.int .i64 x.id,.int .i64 x.dim,.slice x.a x.n x.c] 75)):=bal w _;have af:=qp8 x id _ (hs.q8 hB);unfold Ce.v at af ⊢;have HC:=lhd af;have HB:=lhd hB;clear hs af hB hc;go_enter Tryz.func153,Tryz.ntmps153;go_wp2_with fail;refine HC.out.mono ?_;rintro e w2 ⟨rfl,aj⟩;go_wp2;go_ret;exact⟨rfl,(btr HB.out aj)⟩
theorem qla (v:Value) (l:List Ce) (id:Int) (w:World) (h:SlC w v l) (hl:l.length<=1099511627776) (hok:COk l) :
  Calls Tryz.prog 99 #[.agg #[v],.int .i64 id] w fun e w'=>∃ r,e = .returned r/\w'.ownsRow w.heap.size 3 1 r (kd (l.map Ce.cl) id).length (ints (kd (l.map Ce.cl) id))/\BwQ w w':=by
 obtain⟨a,n,cap,rfl⟩:=qg h.1;have HH:=lhd h;clear h;have kU:=lhd hok;clear hok;go_enter Tryz.func99,Tryz.ntmps99;go_wp2_with fail;refine(qnb _ l _ ((HH.out.alloc _).alloc _) hl kU.out).mono ?_;rintro e w1 ⟨T,rfl,⟨B,n1,v1,m,t1,t2,t3,t4,t5,t6,t7,t8⟩,ai⟩;(try simp only[BwQ]at t1 t2 ai);simp only [World.size_alloc] at t1 t2 ai;have bR:w.heap.size+1+1<=w1.heap.size:=by have:=ai.size;simpa using this
 have ak:BwQ w w1:=((bal w _).alloc (by simp) _).trans (ai.mono (by omega));have hd:w1.cell? ⟨w.heap.size+1,0,none⟩=some (.int .i64 id):=by have:=qd (w.alloc (.cells #[.slice a n cap] 26)) #[.int .i64 id] 3 (0,0) 0;(try simp only[BwQ] at this);rw[World.size_alloc] at this;exact q1n ai (by simp) this
 have dx:m.length<=1099511627776:=by have:=congrArg List.length t7;rw[q0z,gn,gn] at this;omega
 have iI:∀ x∈m,I64 x.id:=fun x hx=>by
  have h1:x.cl∈canon (l.map Ce.cl):=by rw[<-t7];exact gG hx
  obtain⟨y,hy,he⟩:=gr.1 h1;obtain⟨z,hz,rfl⟩:=gr.1 ((q2m _ y).1 hy);have h2:=congrArg Cl.id he;have h3:z.id=x.id:=h2;rw[<-h3];exact(kU.out z hz).1.1
 have af:=qdg T B n1 v1 m 153 #[.pointer (some ⟨w.heap.size+1,0,none⟩)] (fun x=>x.s.any fun s=>s.c == id) w1 t3 t4 t5 t6 dx iI Tryz.call153 (fun W hW x hx=>qij x (w.heap.size+1) id W (Cx.q8 hW hd) ((t8 x hx).q8 hW));have heq:((xb Ce.id m).filter (fun x=>x.s.any fun s=>s.c == id)).map Ce.id=kd (l.map Ce.cl) id:=by unfold kd cellsOf;rw[<-t7,q63 (key:=Ce.id) Ce.cl (fun _=>rfl),List.filter_map,List.map_map];rfl
 have HC:=lhd af;have uk:=lhd heq;clear af heq t1 t2 t3 t4 t5 t6 t7 t8 hd dx iI;go_wp2_with fail;refine HC.out.mono ?_;rintro e w2 ⟨r,rfl,hr,aj⟩;go_wp2;go_ret;refine⟨r,rfl,?_,(btr ak aj)⟩;have hlen:=congrArg List.length uk.out;rw[gn] at hlen;rw[<-hlen,<-uk.out];exact qf hr ak.size
end Go.Proofs.YtlhicnfeajejhaaGreatDoor
namespace Go.Cx
open Go.RowKit Go.Maps
def q51 (nb:Int->Nat) (K:List Cl):Int->Option Value:=fun c=>if jv K c then some (.map (some (nb c))) else none
theorem qfn (nb:Int->Nat) (K:List Cl) (x:Cl) (b:Nat):q51 (fun c=>if c=x.id then b else nb c) (K++[x])=zg (q51 nb K) x.id (.map (some b)):=by
 funext c
 unfold q51 zg jv;rw[List.any_append];by_cases h:c=x.id
 ·subst h;simp
 ·have:(x.id == c)=false:=by simpa using fun e=>h e.symm
  simp[h,this]
end Go.Cx
namespace Go.Proofs.YtlhicnfeajejhaaGreatDoor
open Go.RowKit Go.Cx Go.Maps
attribute [local go_sem ↓] Go.wp_at_zero Go.wp_at_succ
theorem qlb (v:Value) (l:List Ce) (w:World) (h:SlC w v l) (hok:COk l) (hA:Asc (l.map Ce.cl)) :
  Calls Tryz.prog 180 #[.agg #[v]] w fun e w'=>∃ B nb,e = .returned (.map (some B))/\w.heap.size<=B/\(∀ x∈l,w.heap.size<=nb x.id/\nb x.id≠B)/\Sds w' B nb (l.map Ce.cl)/\BwQ w w':=by
 obtain⟨a,len,cap,rfl⟩:=qg h.1;have HH:=lhd h;clear h;have kU:=lhd hok;clear hok;have HA:=lhd hA;clear hA;have dL:=@run_makeMap Tryz.prog;have hlen:l.length=len:=by obtain⟨_,_,h3,_⟩:=HH.out.1.open;rw[qt Ce.qp] at h3;omega
 have Ec:len<=maxLen:=by obtain⟨h1,h2,_⟩:=HH.out.1.open;omega
 unfold maxLen at Ec;have HL:=lhd hlen;clear hlen;obtain⟨K0,hK0⟩ : ∃ K0,K0=l.map Ce.cl:=⟨_,rfl⟩
 rw[<-hK0];have vP:=lhd hK0;clear hK0;go_enter Tryz.func180,Tryz.ntmps180;go_wp2;obtain⟨W,hW⟩ : ∃ W:World,W=(w.alloc (.cells #[.slice a len cap] 26)).alloc (.map #[] 0):=⟨_,rfl⟩
 rw[<-hW];have bI:BwQ w W:=by rw[hW];exact(bal w _).alloc (by simp) _
 have mm:Mp Tryz.prog 3 W (w.heap.size+1) 0 (q51 (fun _=>0) []):=by rw[hW,show q51 (fun _=>0) []=fun _=>none from rfl];have:=Mp.made (w.alloc (.cells #[.slice a len cap] 26)) Tryz.prog 3;simpa using this
 obtain⟨B,hB⟩ : ∃ B,B=w.heap.size+1:=⟨_,rfl⟩
 rw[<-hB] at mm ⊢;have aP:w.heap.size < B:=by omega
 have YX:=lhd hB;clear hW hB;go_loopw [12] (fun i wr=>∃ (k:Nat) (nb:Int->Nat),i = .int .i64 k/\k<=len/\Mp Tryz.prog 3 wr B k (q51 nb (K0.take k))/\Hid (∀ x∈l.take k,w.heap.size<=nb x.id/\nb x.id≠B/\nb x.id < wr.heap.size/\Mp Tryz.prog 3 wr (nb x.id) x.s.length (sgG x.s))/\BwQ w wr) (fun i _=>len - (vI i).toNat)
 case atStart=>exact⟨0,fun _=>0,rfl,go _,mm,(show Hid _ from fun x hx=>by simp at hx),bI⟩
 case round =>
  clear mm bI;obtain⟨k,nb,rfl,hk,eG,HE,hB⟩:=hrel;by_cases hlt:k < len
  ·obtain⟨x,hx⟩ : ∃ x,l[k]? = some x:=⟨_,g8 (by rw[HL.out];exact hlt)⟩
   obtain⟨h2,h3,h4,h5,h6⟩:=HH.out.1.open;obtain⟨ad,rfl⟩:=sadq h5 (by omega)
   obtain⟨e0,e1,e2⟩:=zh l k x hx;have d0:wr.cell? (ad.add (k*3))=some (.int .i64 x.id):=Cx.q8 hB (h6 ad rfl _ _ e0);have d1:wr.cell? ⟨(ad.add (k*3)).block,(ad.add (k*3)).off+1,none⟩=some (.int .i64 x.dim):=by rw[qi _ _ _ (by omega)];exact Cx.q8 hB (h6 ad rfl _ _ e1)
   have d2:wr.cell? ⟨(ad.add (k*3)).block,(ad.add (k*3)).off+2,none⟩=some (.slice x.a x.n x.c):=by rw[qi _ _ _ (by omega)];exact Cx.q8 hB (h6 ad rfl _ _ e2)
   have qF:=gh hx;have uZ:=yx (kU.out x qF).1.1;have bZ:l.take (k+1)=l.take k++[x]:=by rw[gq,hx];rfl
   have P4:K0.take (k+1)=K0.take k++[x.cl]:=by rw[gq,vP.out,List.getElem?_map,hx];rfl
   have cr:=lhd P4;clear P4;obtain⟨V,hV⟩ : ∃ V:World,V=wr.alloc (.cells #[.int .i64 x.id,.int .i64 x.dim,.slice x.a x.n x.c] 75):=⟨_,rfl⟩
   have aN:BwQ wr V:=by rw[hV];exact bal wr _
   have UZ:V.heap.size=wr.heap.size+1:=by rw[hV];simp
   have v0:V.cell? ⟨wr.heap.size,0,none⟩=some (.int .i64 x.id):=by rw[hV];exact qd wr #[.int .i64 x.id,.int .i64 x.dim,.slice x.a x.n x.c] 75 (0,0) 0
   have v2:V.cell? ⟨wr.heap.size,2,none⟩=some (.slice x.a x.n x.c):=by rw[hV];exact qd wr #[.int .i64 x.id,.int .i64 x.dim,.slice x.a x.n x.c] 75 (0,0) 2
   have P5:Mp Tryz.prog 3 (V.alloc (.map #[] 0)) B k (q51 nb (K0.take k)):=(eG.q8 aN).alloc _;have xT:Mp Tryz.prog 3 (V.alloc (.map #[] 0)) V.heap.size 0 (sgG (x.s.take 0)):=by rw[show sgG (x.s.take 0)=fun _=>none from rfl];exact Mp.made V _ _
   have rI:k < maxLen:=by unfold maxLen;omega
   have HX:=lhd (aiq qF bZ);have HP:=lhd eG;have sX:=lhd (aiq aN UZ);have ck:w.heap.size<=wr.heap.size:=hB.size;have Om:B < wr.heap.size:=eG.lt;clear h2 h3 h4 h5 h6 e0 e1 e2 hx qF bZ eG aN;go_wp2_with (first
    |(at_mapUpdate;rw[<-hV];clear hV;refine q1z rfl _ _ _ 121 rfl P5 Tryz.underlying3 Tryz.underlying121 rI x.id _ rfl rfl rfl uZ ?_)
    | fail)
   intro w3 kN iE;obtain⟨b,hb⟩ : ∃ b,b=wr.heap.size+1:=⟨_,rfl⟩
   have Lp:b=V.heap.size:=by rw[hb,sX.out.2]
   rw[<-Lp] at xT;have AY:Mp Tryz.prog 3 w3 B (k+1) (q51 (fun c=>if c=x.id then b else nb c) (K0.take (k+1))):=by rw[cr.out];show Mp _ _ _ _ _ (q51 (fun c=>if c=x.cl.id then b else nb c) (K0.take k++[x.cl]));rw[qfn nb _ x.cl b];rw[<-hb] at kN;exact kN
   have KA:B < b:=by omega
   have AZ:Mp Tryz.prog 3 w3 b 0 (sgG (x.s.take 0)):=xT.kept iE (fun e=>by cases e;omega);have Ba:BwQ wr (V.alloc (.map #[] 0)):=sX.out.1.alloc (by have:=sX.out.2;omega) _;have Lq:=iE.size;(try simp only[BwQ] at Lq);rw[World.size_alloc,sX.out.2] at Lq;have ar:BwQ w w3:=(hB.trans (Ba.mono ck)).grown iE (by (try simp only[BwQ]);rw[World.size_alloc,sX.out.2];omega) (fun k e=>by cases e;omega);have EN:∀ y∈l.take k,w.heap.size<=nb y.id/\nb y.id≠B/\nb y.id < wr.heap.size/\Mp Tryz.prog 3 w3 (nb y.id) y.s.length (sgG y.s):=fun y hy=>by obtain⟨h1,h2,h3,h4⟩:=HE.out y hy;refine⟨h1,h2,h3,?_⟩;exact(h4.q8 Ba).kept iE (fun e=>by cases e;exact h2 rfl)
   have hid:∀ y∈l.take k,y.id≠x.id:=fun y hy e=>by
    have h1:(l.take (k+1)).Pairwise (fun p q:Ce=>p.id < q.id):=by have:=HA.out;unfold Asc at this;rw[List.pairwise_map] at this;exact this.sublist (List.take_sublist _ _)
    rw[HX.out.2,List.pairwise_append] at h1;have:=h1.2.2 y hy x (by simp);omega
   have b0:w3.cell? ⟨wr.heap.size,0,none⟩=some (.int .i64 x.id):=ql iE (qk v0 _) (fun k e=>by cases e;show wr.heap.size≠B;omega);have b2:w3.cell? ⟨wr.heap.size,2,none⟩=some (.slice x.a x.n x.c):=ql iE (qk v2 _) (fun k e=>by cases e;show wr.heap.size≠B;omega);have Bb:=lhd (aiq EN hid);have Iv:∀ U,BwQ w U->Sl U 2 (.slice x.a x.n x.c) (cat Sd.enc x.s):=fun U hU=>(HH.out.2 x HX.out.1).q8 hU
   obtain⟨sa,sn,sc,kD⟩ : ∃ sa sn sc,(sa,sn,sc)=(x.a,x.n,x.c):=⟨_,_,_,rfl⟩
   injection kD with hsd1 hsd2
   injection hsd2 with hsd2 hsd3
   rw[<-hsd1,<-hsd2,<-hsd3] at b2 Iv;have kC:=Iv w3 ar;have pK:=lhd Iv;have aK:x.s.length=sn:=by obtain⟨_,_,h3,_⟩:=kC.open;rw[qt Sd.qp] at h3;omega
   have Eb:sn<=maxLen:=by obtain⟨h1,h2,_⟩:=kC.open;omega
   unfold maxLen at Eb;have Bc:=lhd (aiq kC aK);have HR:=lhd (aiq hb Lp);have Va:b < w3.heap.size:=AZ.lt;clear xT kN iE P5 v0 v2 EN hid Lp hsd1 hsd2 hsd3 kC aK Iv Ba d0 d1 d2 hb;have np:(q51 (fun c=>if c=x.id then b else nb c) (K0.take (k+1))) x.id=some (.map (some b)):=by
    unfold q51;have:jv (K0.take (k+1)) x.id=true:=by rw[cr.out];exact List.any_eq_true.2 ⟨x.cl,by simp,by show (x.cl.id == x.id)=true;simp[Ce.cl]⟩
    rw[this,if_pos rfl];show some (Value.map (some (if x.id=x.id then b else nb x.id)))=_;rw[if_pos rfl]
   obtain⟨G,hG⟩ : ∃ G,G=q51 (fun c=>if c=x.id then b else nb c) (K0.take (k+1)):=⟨_,rfl⟩
   rw[<-hG] at AY np;have Vb:=lhd np;clear np;obtain⟨bx,im⟩ : ∃ bx,bx=wr.heap.size:=⟨_,rfl⟩
   rw[<-im] at b0 b2 ⊢;have yE:=lhd (aiq hG im);have Vc:B < bx/\bx < b:=by have:=HR.out.1;omega
   clear hG im;go_wp2_with fail;clear b2;obtain⟨wo,de⟩ : ∃ wo,wo=wr:=⟨_,rfl⟩
   subst de;go_loopw [23] (fun j wj=>∃ jj:Nat,j = .int .i64 jj/\jj<=sn/\Mp Tryz.prog 3 wj b jj (sgG (x.s.take jj))/\Mp Tryz.prog 3 wj B (k+1) G/\wj.cell? ⟨bx,0,none⟩=some (.int .i64 x.id)/\Hid (∀ y∈l.take k,Mp Tryz.prog 3 wj (nb y.id) y.s.length (sgG y.s))/\BwQ w wj/\Below bx w3 wj/\w3.heap.size<=wj.heap.size) (fun j _=>sn - (vI j).toNat)
   case atStart=>exact⟨0,rfl,go _,AZ,AY,b0,(show Hid _ from fun y hy=>(Bb.out.1 y hy).2.2.2),ar,Below.refl _ _,nlr _⟩
   case round =>
    clear AZ AY b0;obtain⟨jj,rfl,Vd,CR,EO,c0,HY,lP,Lr,YY⟩:=hrel;by_cases dS:jj < sn
    ·obtain⟨t,ht⟩ : ∃ t,x.s[jj]? = some t:=⟨_,g8 (by rw[Bc.out.2];exact dS)⟩
     obtain⟨_,_,_,h5,h6⟩:=(pK.out wr lP).open;obtain⟨sd,rfl⟩:=sadq h5 (by omega)
     obtain⟨e0,e1⟩:=zw x.s jj t ht;have g0:wr.cell? (sd.add (jj*2))=some (.int .i64 t.c):=h6 sd rfl _ _ e0;have g1:wr.cell? ⟨(sd.add (jj*2)).block,(sd.add (jj*2)).off+1,none⟩=some (.int .i64 t.g):=by rw[qi _ _ _ (by omega)];exact h6 sd rfl _ _ e1
     have P6:=(kU.out x HX.out.1).2.2 t (gh ht);have Hb:=yx P6.1;have Ey:=yx (kU.out x HX.out.1).1.1;obtain⟨U,hU⟩ : ∃ U:World,U=wr.alloc (.cells #[.int .i64 t.c,.int .i64 t.g] 108):=⟨_,rfl⟩
     have ej:BwQ wr U:=by rw[hU];exact bal wr _
     have Ve:U.heap.size=wr.heap.size+1:=by rw[hU];simp
     have db:(Instr.lookup 121 (.map (some B)) (.int .i64 x.id) false).run Tryz.prog U = .ok (.map (some b)) U:=by have:=(EO.q8 ej).look Tryz.underlying3 Tryz.underlying121 (qau U) Ey;rw[this,Vb.out];rfl
     rw[hU] at db;have YZ:(wr.alloc (.cells #[.int .i64 t.c,.int .i64 t.g] 108)).cell? ⟨bx,0,none⟩=some (.int .i64 x.id):=qk c0 _;have Vf:=CR.q8 ej;have qB:jj < maxLen:=by unfold maxLen;omega
     have HJ:=lhd (aiq ht (aiq ej (aiq EO Ve)));have Za:b < wr.heap.size:=CR.lt;clear h5 h6 e0 e1 ht CR EO P6;go_wp2_with (first
      |(at_mapUpdate;rw[<-hU];clear hU;refine q1z rfl _ _ _ 122 rfl Vf Tryz.underlying3 Tryz.underlying122 qB t.c _ rfl rfl rfl Hb ?_)
      | fail)
     intro w5 uj e6;have aB:BwQ w w5:=((btr lP HJ.out.2.1)).grown e6 (by have:=lP.size;rw[HJ.out.2.2.2];omega) (fun k e=>by cases e;omega);have Ls:Below bx w3 w5:=(Lr.trans (HJ.out.2.1.mono (by omega))).grown e6 (by rw[HJ.out.2.2.2];omega) (fun k e=>by cases e;omega);have Cz:=e6.size;rw[HJ.out.2.2.2] at Cz;have Lt:Mp Tryz.prog 3 w5 b (jj+1) (sgG (x.s.take (jj+1))):=by rw[gq,HJ.out.1];show Mp _ _ _ _ _ (sgG (x.s.take jj++[t]));rw[qig];exact uj
     have Lu:Mp Tryz.prog 3 w5 B (k+1) G:=(HJ.out.2.2.1.q8 HJ.out.2.1).kept e6 (fun e=>by cases e;omega);have Vg:w5.cell? ⟨bx,0,none⟩=some (.int .i64 x.id):=ql e6 (Cx.q8 HJ.out.2.1 c0) (fun k e=>by cases e;show bx≠b;omega);have Vh:Hid (∀ y∈l.take k,Mp Tryz.prog 3 w5 (nb y.id) y.s.length (sgG y.s)):=fun y hy=>((HY.out y hy).q8 HJ.out.2.1).kept e6 (fun e=>by have:=(Bb.out.1 y hy).2.2.1;cases e;have:=HR.out.1;omega)
     clear uj e6;go_wp2_with fail;go_roundw
     case measure=>simp[vI];omega
     case rel=>exact⟨jj+1,qh (by omega),by omega,Lt,Lu,Vg,Vh,aB,Ls,by omega⟩
    ·have dM:jj=sn:=by omega
     have dK:Mp Tryz.prog 3 wr b x.s.length (sgG x.s):=by rw[dM,gm (by rw[Bc.out.2];exact nlr _)] at CR;rw[Bc.out.2];exact CR
     have aO:=lhd (aiq dK (aiq EO lP));clear dM dK CR EO;go_wp2_with fail;go_roundw
     case measure=>simp[vI];omega
     case rel =>
      refine⟨k+1,fun c=>if c=x.id then b else nb c,qh (by omega),by omega,?_,(show Hid _ from fun y hy=>?_),aO.out.2.2⟩
      ·rw[<-yE.out.1];exact aO.out.2.1
      ·rw[HX.out.2] at hy;rcases gF.1 hy with hy | hy
       ·obtain⟨h1,h2,h3,_⟩:=Bb.out.1 y hy;show w.heap.size<=(if y.id=x.id then b else nb y.id)/\(if y.id=x.id then b else nb y.id)≠B/\(if y.id=x.id then b else nb y.id) < wr.heap.size/\Mp _ _ _ (if y.id=x.id then b else nb y.id) _ _;rw[if_neg (Bb.out.2 y hy)];exact⟨h1,h2,by omega,HY.out y hy⟩
       ·rw[List.mem_singleton.1 hy];show w.heap.size<=(if x.id=x.id then b else nb x.id)/\(if x.id=x.id then b else nb x.id)≠B/\(if x.id=x.id then b else nb x.id) < wr.heap.size/\Mp _ _ _ (if x.id=x.id then b else nb x.id) _ _;rw[if_pos rfl];exact⟨by omega,by omega,aO.out.1.lt,aO.out.1⟩
  ·have bE:k=len:=by omega
   have GQ:l.take k=l:=gm (by rw[HL.out];omega);have P7:K0.take k=K0:=gm (by rw[vP.out,gn,HL.out];omega);rw[P7] at eG;have P8:k=K0.length:=by rw[vP.out,gn,HL.out];exact bE
   have HT:=lhd (aiq GQ (aiq eG P8));clear bE GQ P7 eG P8;go_wp2;go_ret;refine⟨B,nb,rfl,by omega,fun x hx=>?_,⟨?_,fun y hy=>?_⟩,hB⟩
   ·have:=HE.out x (by rw[HT.out.1];exact hx);exact⟨this.1,this.2.1⟩
   ·have:=HT.out.2.1;rw[HT.out.2.2] at this;exact this
   ·rw[vP.out] at hy;obtain⟨x,hx,rfl⟩:=gr.1 hy;exact(HE.out x (by rw[HT.out.1];exact hx)).2.2.2
theorem MpI.alloc {w:World} {b n:Nat} {h:Int->Int} (m:MpI w b n h) (o:Obj):MpI (w.alloc o) b n h:=m.q8 (bal w o)
theorem q41 {w w':World} {v:Value} {l:List Ce} (h:SlC w v l) (hb:BwQ w w'):SlC w' v l:=⟨h.1.q8 hb,fun x hx=>(h.2 x hx).q8 hb⟩
theorem Sds.q8 {w w':World} {B:Nat} {nb:Int->Nat} {K:List Cl} (h:Sds w B nb K) (hb:BwQ w w'):Sds w' B nb K:=⟨h.top.q8 hb,fun x hx=>(h.each x hx).q8 hb⟩
theorem q2t {w W:World} {a:Option Addr} {len cap:Nat} {l:List Ce} (hw:SlC w (.slice a len cap) l) (hb:BwQ w W) {BS BH BL:Nat} {nb:Int->Nat} (hS:Sds W BS nb (l.map Ce.cl)) (h1:MpI W BH 0 (fun _=>0)) (h2:MpI W BL 0 (fun _=>0))
  (b0:w.heap.size<=BS) (b1:w.heap.size<=BH) (b2:w.heap.size<=BL) (n1:BS≠BH) (n2:BS≠BL) (n3:BH≠BL) (n4:∀ x∈l,nb x.id≠BH/\nb x.id≠BL) (t:TypeId) (T:Nat) (hT:T=W.heap.size) (W':World) (lM:W'=W.alloc (.cells #[.slice a len cap,.map (some BS),.map (some BH),.map (some BL)] t)) :
  Fld W' T BS BH BL nb a len cap l/\MpI W' BH 0 (fun _=>0)/\MpI W' BL 0 (fun _=>0)/\w.heap.size<=T/\w.heap.size<=BS/\w.heap.size<=BH/\w.heap.size<=BL/\BwQ w W':=by
 subst hT;have hk:BwQ W W':=by rw[lM];exact bal W _
 have l1:=h1.lt;have l2:=h2.lt;refine⟨⟨⟨by omega,by omega,n1,n2,n3⟩,?_,?_,?_,?_,q41 (q41 hw hb) hk,⟨fun ad e al=>?_,fun x hx ad e al=>?_⟩,Sds.q8 hS hk,n4⟩,h1.q8 hk,h2.q8 hk,hb.size,b0,b1,b2,(btr hb hk)⟩
 ·rw[lM];exact qd W _ _ (0,0) 0
 ·rw[lM];exact qd W _ _ (0,0) 1
 ·rw[lM];exact qd W _ _ (0,0) 2
 ·rw[lM];exact qd W _ _ (0,0) 3
 ·have:=qe6 hw.1 (by rw[e]) al;exact⟨by omega,by omega⟩
 ·have:=qe6 (hw.2 x hx) (by unfold Ce.sl;rw[e]) al;exact⟨by omega,by omega⟩
theorem qp9 (a:Option Addr) (len cap:Nat) (l:List Ce) (w:World) (h:SlC w (.slice a len cap) l) (hok:COk l) (hA:Asc (l.map Ce.cl)) :
  Calls Tryz.prog 151 #[.agg #[.slice a len cap]] w fun e w'=>∃ T BS BH BL nb,e = .returned (.pointer (some ⟨T,0,none⟩))/\Fld w' T BS BH BL nb a len cap l/\MpI w' BH 0 (fun _=>0)/\MpI w' BL 0 (fun _=>0)/\w.heap.size<=T/\w.heap.size<=BS/\w.heap.size<=BH/\w.heap.size<=BL/\BwQ w w':=by
 have dL:=@run_makeMap Tryz.prog;have mixed:Tryz.prog.follows .mixedOrders=true:=by kernel_rfl
 have HH:=lhd (aiq h (aiq hok hA));have tok:Hid True:=trivial;clear h hok hA;go_enter Tryz.func151,Tryz.ntmps151;go_upto_region 1 with fail;obtain⟨W0,l9⟩ : ∃ W0,W0=w.alloc (.cells #[.slice a len cap] 26):=⟨_,rfl⟩
 have c0:W0.cell? ⟨w.heap.size,0,none⟩=some (.slice a len cap):=by rw[l9];exact qd w #[.slice a len cap] 26 (0,0) 0
 have hB:BwQ w W0:=by rw[l9];exact bal w _
 have aF:w.heap.size < W0.heap.size:=by rw[l9];simp
 rw[<-l9];clear l9;have aK:∀ W,BwQ W0 W->SlC W (.slice a len cap) l:=fun W hW=>q41 (q41 HH.out.1 hB) hW
 have hd0:BwQ W0 W0.drew:=qb (Below.refl _ _) 1;have hd1:∀ o,BwQ W0 (W0.alloc o).drew:=fun o=>qb (bal W0 o) 1
 have cj:∀ o o',BwQ W0 ((W0.alloc o).alloc o').drew:=fun o o'=>qb ((bal W0 o).alloc (by simp) o') 1
 go_region_held3 (fun w'=>w'.cell? ⟨w.heap.size,0,none⟩=some (.slice a len cap))
  (first | assumption | exact qk (by assumption) _ | exact qk (qk (by assumption) _) _ | exact qk (qk (qk (by assumption) _) _) _ | fail)
  (first | (go_at_call 180;have _t:=tok;refine(qlb _ l _ (aK _ (by first | exact hd0 | exact hd1 _ | exact cj _ _)) HH.out.2.1 HH.out.2.2).mono ?_;rintro e w1 ⟨BS,nb,rfl,h1,h2,h3,ai⟩;have ak:BwQ W0 w1:=(by first | exact (btr hd0 ai) | exact(hd1 _).trans (ai.mono (hd1 _).size) | exact(cj _ _).trans (ai.mono (cj _ _).size));have c1:w1.cell? ⟨w.heap.size,0,none⟩=some (.slice a len cap):=Cx.q8 ak c0;clear _t tok))
 all_goals
  go_wp2;go_ret;have aP:=hB.trans (ak.mono (Nat.le_of_lt aF));have bR:=ak.size;have Vi:BS < w1.heap.size:=h3.top.lt;have iY:∀ x∈l,nb x.id < w1.heap.size:=fun x hx=>(h3.each x.cl (gG hx)).lt
 ·have g1:W0.heap.size<=BS:=h1;have hk:=((Below.refl w1.heap.size w1).alloc (nlr _) (.map #[] 0)).alloc (by simp) (.map #[] 0);have m2:=MpI.made (w1.alloc (.map #[] 0));(try simp only[BwQ] at m2);rw[World.size_alloc] at m2;exact⟨w1.heap.size+1+1,BS,w1.heap.size,w1.heap.size+1,nb,rfl,q2t HH.out.1 ((btr aP hk)) (Sds.q8 h3 hk) (MpI.alloc (MpI.made w1) _) m2 (by omega) (by omega) (by omega) (by omega) (by omega) (by omega) (fun x hx=>by have:=iY x hx;omega) _ _ (by simp) _ rfl⟩
 ·have g1:W0.heap.size<=BS:=h1;have hk:=((Below.refl w1.heap.size w1).alloc (nlr _) (.map #[] 0)).alloc (by simp) (.map #[] 0);have m2:=MpI.made (w1.alloc (.map #[] 0));(try simp only[BwQ] at m2);rw[World.size_alloc] at m2;exact⟨w1.heap.size+1+1,BS,w1.heap.size+1,w1.heap.size,nb,rfl,q2t HH.out.1 ((btr aP hk)) (Sds.q8 h3 hk) m2 (MpI.alloc (MpI.made w1) _) (by omega) (by omega) (by omega) (by omega) (by omega) (by omega) (fun x hx=>by have:=iY x hx;omega) _ _ (by simp) _ rfl⟩
 ·have g1:(W0.alloc (.map #[] 0)).heap.size<=BS:=h1;have g2:∀ x∈l,(W0.alloc (.map #[] 0)).heap.size<=nb x.id/\nb x.id≠BS:=h2;(try simp only[BwQ]at g1 g2);simp only [World.size_alloc] at g1 g2;have hk:=(Below.refl w1.heap.size w1).alloc (nlr _) (.map #[] 0);have m1:MpI (W0.alloc (.map #[] 0)).drew W0.heap.size 0 (fun _=>0):=MpI.made W0;exact⟨w1.heap.size+1,BS,W0.heap.size,w1.heap.size,nb,rfl,q2t HH.out.1 ((btr aP hk)) (Sds.q8 h3 hk) (MpI.alloc (m1.q8 ai) _) (MpI.made w1) (by omega) (by omega) (by omega) (by omega) (by omega) (by have:=(m1.q8 ai).lt;omega) (fun x hx=>by have:=iY x hx;have:=(g2 x hx).1;omega) _ _ (by simp) _ rfl⟩
 ·have g1:((W0.alloc (.map #[] 0)).alloc (.map #[] 0)).heap.size<=BS:=h1;have g2:∀ x∈l,((W0.alloc (.map #[] 0)).alloc (.map #[] 0)).heap.size<=nb x.id/\nb x.id≠BS:=h2;(try simp only[BwQ]at g1 g2);simp only [World.size_alloc] at g1 g2;have m1:MpI ((W0.alloc (.map #[] 0)).alloc (.map #[] 0)).drew W0.heap.size 0 (fun _=>0):=MpI.alloc (MpI.made W0) _;have m2:=MpI.made (w:=W0.alloc (.map #[] 0));(try simp only[BwQ] at m2);rw[World.size_alloc] at m2;have rO:MpI ((W0.alloc (.map #[] 0)).alloc (.map #[] 0)).drew (W0.heap.size+1) 0 (fun _=>0):=m2;exact⟨w1.heap.size,BS,W0.heap.size,W0.heap.size+1,nb,rfl,q2t HH.out.1 aP h3 (m1.q8 ai) (rO.q8 ai) (by omega) (by omega) (by omega) (by omega) (by omega) (by omega) (fun x hx=>by have:=(g2 x hx).1;omega) _ _ rfl _ rfl⟩
 ·have g1:(W0.alloc (.map #[] 0)).heap.size<=BS:=h1;have g2:∀ x∈l,(W0.alloc (.map #[] 0)).heap.size<=nb x.id/\nb x.id≠BS:=h2;(try simp only[BwQ]at g1 g2);simp only [World.size_alloc] at g1 g2;have hk:=(Below.refl w1.heap.size w1).alloc (nlr _) (.map #[] 0);have m1:MpI (W0.alloc (.map #[] 0)).drew W0.heap.size 0 (fun _=>0):=MpI.made W0;exact⟨w1.heap.size+1,BS,w1.heap.size,W0.heap.size,nb,rfl,q2t HH.out.1 ((btr aP hk)) (Sds.q8 h3 hk) (MpI.made w1) (MpI.alloc (m1.q8 ai) _) (by omega) (by omega) (by omega) (by omega) (by omega) (by have:=(m1.q8 ai).lt;omega) (fun x hx=>by have:=iY x hx;have:=(g2 x hx).1;omega) _ _ (by simp) _ rfl⟩
 ·have g1:((W0.alloc (.map #[] 0)).alloc (.map #[] 0)).heap.size<=BS:=h1;have g2:∀ x∈l,((W0.alloc (.map #[] 0)).alloc (.map #[] 0)).heap.size<=nb x.id/\nb x.id≠BS:=h2;(try simp only[BwQ]at g1 g2);simp only [World.size_alloc] at g1 g2;have m1:MpI ((W0.alloc (.map #[] 0)).alloc (.map #[] 0)).drew W0.heap.size 0 (fun _=>0):=MpI.alloc (MpI.made W0) _;have m2:=MpI.made (w:=W0.alloc (.map #[] 0));(try simp only[BwQ] at m2);rw[World.size_alloc] at m2;have rO:MpI ((W0.alloc (.map #[] 0)).alloc (.map #[] 0)).drew (W0.heap.size+1) 0 (fun _=>0):=m2;exact⟨w1.heap.size,BS,W0.heap.size+1,W0.heap.size,nb,rfl,q2t HH.out.1 aP h3 (rO.q8 ai) (m1.q8 ai) (by omega) (by omega) (by omega) (by omega) (by omega) (by omega) (fun x hx=>by have:=(g2 x hx).1;omega) _ _ rfl _ rfl⟩
end Go.Proofs.YtlhicnfeajejhaaGreatDoor
namespace Go.Cx
open Go.RowKit
section
variable {w:World} {base e st g n cap:Nat} {xs:List Value}
theorem q93 (h:w.ownsRow base e st (.slice (some ⟨g,0,none⟩) n cap) n xs) {i:Nat} (hi:i<=n):w.ownsRow base e st (.slice (some ⟨g,0,none⟩) i cap) i (xs.take (i*st)):=by
 obtain⟨h1,h2⟩:=h;refine⟨by rw[gd,h1];exact gX (bC _ hi),?_⟩;rcases h2 with ⟨h0,_⟩ | ⟨g',bU,cur,hv,hg,hb,k1,k2,k3,k4⟩
 ·cases h0
 ·cases hv
  refine .inr ⟨g,cap,cur,rfl,hg,hb,by omega,k2,k3,?_⟩;rw[<-k4,List.take_take,gX (bC _ hi)]
theorem ku:∀ (vs:List Value) (o:Nat) {w:World} {xs:List Value},w.ownsRow base e st (.slice (some ⟨g,0,none⟩) n cap) n xs->(∃ ys,(w.setCells g o vs).ownsRow base e st (.slice (some ⟨g,0,none⟩) n cap) n ys/\ys.take o=xs.take o)/\Gs (fun b=>b=g) w (w.setCells g o vs)
 | [],o,w,xs,h=>⟨⟨xs,h,rfl⟩,Gs.refl _ _⟩
 | v :: vs,o,w,xs,h=>by obtain⟨h1,h2⟩:=h.stored o v;obtain⟨⟨ys,h3,h4⟩,h5⟩:=ku vs (o+1) h1;refine⟨⟨ys,h3,?_⟩,(Gs.q6i h2 (fun k e=>by cases e;exact .inr rfl)).trans h5⟩;have h6:=congrArg (List.take o) h4;rw[List.take_take,List.take_take,gX (by omega)] at h6;rw[h6,List.take_set_of_le (nlr _)]
end
theorem qo2 (X:List Tm) (i:Nat) (t:Tm) (h:i < X.length):(((tv X).set (i*3) (.int .i64 t.c)).set (i*3+1) (.bool t.n)).set (i*3+2) (.string t.m)=tv (X.set i t):=by
 induction X generalizing i with
 | nil=>simp at h
 | cons u X ih =>
  cases i with
  | zero=>simp[ko]
  | succ i =>have:=ih i (by simpa using h);rw[ko,List.set_cons_succ,ko,<-this];rw[show (i+1)*3=i*3+1+1+1 by omega,show i*3+1+1+1+1=(i*3+1)+1+1+1 by omega,show i*3+1+1+1+2=(i*3+2)+1+1+1 by omega];simp
structure Sft {α:Type} (f:α->Bool) (L X:List α) (i j:Nat):Prop where
 len:X.length=L.length
 lt:i < j
 low:X.take i=(L.take j).filter fun t=>!f t
 high:X.drop j=L.drop j
theorem Sft.start {α:Type} {f:α->Bool} {L:List α} {k:Nat} {t:α} (hk:L[k]? = some t) (ht:f t=true) (hb:∀ u∈L.take k,f u=false):Sft f L L k (k+1) where
 len:=rfl
 lt:=Nat.lt_succ_self k
 low:=by rw[gq,hk,bm,List.filter_eq_self.2 (fun u hu=>by rw[hb u hu];rfl)];simp[ht]
 high:=rfl
theorem Sft.get {α:Type} {f:α->Bool} {L X:List α} {i j:Nat} (h:Sft f L X i j):X[j]? = L[j]?:=by have:=congrArg (fun l=>l[0]?) h.high;simpa using this
theorem Sft.skip {α:Type} {f:α->Bool} {L X:List α} {i j:Nat} {t:α} (h:Sft f L X i j) (hj:L[j]? = some t) (ht:f t=true):Sft f L X i (j+1) where
 len:=h.len
 lt:=Nat.lt_succ_of_lt h.lt
 low:=by rw[gq,hj,bm,h.low];simp[ht]
 high:=by rw[<-List.drop_drop,<-List.drop_drop,h.high]
theorem Sft.put {α:Type} {f:α->Bool} {L X:List α} {i j:Nat} {t:α} (h:Sft f L X i j) (hj:L[j]? = some t) (ht:f t=false):Sft f L (X.set i t) (i+1) (j+1) where
 len:=by rw[List.length_set];exact h.len
 lt:=Nat.succ_lt_succ h.lt
 low:=by
  have hl:=h.lt;have dS:=(ge.1 hj).1;have ed:i < X.length:=by rw[h.len];omega
  rw[gq,List.getElem?_set_self ed,List.take_set_of_le (nlr _),h.low,gq,hj,bm];simp[ht]
 high:=by have hl:=h.lt;rw[List.drop_set_of_lt (by omega),<-List.drop_drop,<-List.drop_drop,h.high]
end Go.Cx
namespace Go.Proofs.YtlhicnfeajejhaaGreatDoor
open Go.RowKit Go.Cx
attribute [local go_sem ↓] Go.wp_at_zero Go.wp_at_succ
theorem q6k (l:List Int) (k:Nat):(ints l).take k=ints (l.take k):=by simp[ints,List.map_take]
theorem qik (w:World):(zeroValue 71).run Tryz.prog w = .ok (.agg #[.int .i64 0,.bool false,.string ⟨#[]⟩]) w:=Tryz.zeroValue71 w
theorem qe9 (W:World) (g i n c:Nat) (hn:0 < n) (hc:∀ j,j < n->(W.cell? ⟨g,i+j,none⟩).isSome=true) (hf:∀ j,j < n->W.frozen? ⟨g,i+j,none⟩=false) :
  ∃ zs,∀ ty,(Builtin.clear_ #[22] ty #[.slice (some ⟨g,i,none⟩) n c]).run Tryz.prog W = .ok (.tuple #[]) (W.setCells g i zs) :=
 ⟨_,fun ty=>Lib.run_clear_slice W _ _ ty _ Tryz.underlying22 (fun w=>q40 w) rfl rfl g i n c hn hc hf⟩
theorem qlc (W:World) (g i n c:Nat) (hn:0 < n) (hc:∀ j,j < n*3->(W.cell? ⟨g,i+j,none⟩).isSome=true) (hf:∀ j,j < n*3->W.frozen? ⟨g,i+j,none⟩=false) :
  ∃ zs,∀ ty,(Builtin.clear_ #[32] ty #[.slice (some ⟨g,i,none⟩) n c]).run Tryz.prog W = .ok (.tuple #[]) (W.setCells g i zs):=by
 obtain⟨m,rfl⟩ : ∃ m,n=m+1:=⟨n - 1,by omega⟩
 have hl:(Builtin.zeroCells #[.int .i64 0,.bool false,.string ⟨#[]⟩] (m+1)).toList.length=(m+1)*3:=by simp[Builtin.zeroCells]
 have h1:∀ v∈(Builtin.zeroCells #[.int .i64 0,.bool false,.string ⟨#[]⟩] (m+1)).toList,v.oneCell'=true:=fun v hv=>by
  obtain⟨i,hi,rfl⟩:=List.getElem_of_mem hv;have h3:i % 3=0\/i % 3=1\/i % 3=2:=by omega
  rcases h3 with h | h | h <;> simp[Builtin.zeroCells,h] <;> rfl
 have az:=run_storeCells_cells (P:=Tryz.prog) g i (Builtin.zeroCells #[.int .i64 0,.bool false,.string ⟨#[]⟩] (m+1)).toList 0 W (by rw[hl];simpa using hc) (by rw[hl];simpa using hf) h1;simp only [Nat.add_zero] at az;have hz:=qik W;refine⟨(Builtin.zeroCells #[.int .i64 0,.bool false,.string ⟨#[]⟩] (m+1)).toList,fun ty=>?_⟩;have Ak:(Value.agg #[.int .i64 0,.bool false,.string ⟨#[]⟩]).cells=#[.int .i64 0,.bool false,.string ⟨#[]⟩]:=by simp[Value.cells]
 simp[Builtin.clear_,run_underlying Tryz.underlying32,hz,Ak,az,Result.andThen]
theorem qq3 (base:Nat) (v:Value) (L:List Int) (g:Nat) (cb:Array Value) (f:Int->Bool) (w:World) (h:w.ownsRow base 3 1 v L.length (ints L)) (hlen:L.length<=1099511627776)
  (eg:∀ args w,(callFunc g args).run Tryz.prog w = .ok (.enter g args) w) (hf:∀ W,Gs (fun b=>v.ownBlock=some b) w W->∀ t∈L,Calls Tryz.prog g (#[.int .i64 t]++cb) W fun e w'=>e = .returned (.bool (f t))/\BwQ W w') :
  Calls Tryz.prog 160 #[v,.func (.func g) #[] cb] w fun e w'=>∃ r,e = .returned r/\w'.ownsRow base 3 1 r (L.filter fun t=>!f t).length (ints (L.filter fun t=>!f t))/\Gs (fun b=>v.ownBlock=some b) w w':=by
 have jK:=qo0 v L g cb f w (Sl.qc h) eg (fun W hW t ht=>hf W (Gs.xh hW) t ht);have HI:=lhd jK;have HF:=lhd hf;have HR:=lhd h;obtain⟨a,cap,rfl⟩:=qj h;obtain⟨len,hl⟩ : ∃ len,len=L.length:=⟨_,rfl⟩
 rw[<-hl] at HI HF HR hlen ⊢;have HL:=lhd hl;clear jK hf h hl;go_enter Tryz.func160,Tryz.ntmps160;go_wp2_with fail;refine HI.out.mono ?_;rintro e w1 ⟨i0,rfl,hi0,ai⟩;have aV:=lhd ai;rcases hi0 with ⟨rfl,aG⟩ | ⟨k,t0,rfl,hk,ht,fO⟩
 ·have HA:=lhd aG;clear aG ai;go_wp2_with fail;go_ret;have he:(L.filter fun t=>!f t)=L:=List.filter_eq_self.2 fun u hu=>by rw[HA.out u hu];rfl
  rw[he,<-HL.out];exact⟨_,rfl,qa HR.out aV.out,Gs.xh aV.out⟩
 ·have bF:k < len:=by rw[HL.out];exact(ge.1 hk).1
  obtain⟨b,dr⟩ : ∃ b,a=some ⟨b,0,none⟩:=by
   rcases HR.out.2 with ⟨h0,_⟩ | ⟨b,c',cur,he,_⟩
   ·cases h0;omega
   ·exact⟨b,by cases he;rfl⟩
  subst dr;have dg:=Sft.start (f:=f) hk ht fO;have rI:((k:Int) == -1)=false:=by simp
  have EP:=lhd dg;have cw:len<=cap/\cap<=maxLen:=by obtain⟨h1,h2,_⟩:=(Sl.qc HR.out).open;exact⟨h1,h2⟩
  obtain⟨yF,nt⟩:=cw;unfold maxLen at nt;have cQ:=qa HR.out aV.out;have ct:=lhd cQ;clear hk ht fO ai dg cQ;go_wp2_with fail;go_loopw [5,6] (fun x5 x6 wr=>∃ (i j:Nat) (X:List Int),x5 = .int .i64 i/\x6 = .int .i64 j/\j<=len/\i < j/\Hid (Sft f L X i j)/\Hid (wr.ownsRow base 3 1 (.slice (some ⟨b,0,none⟩) len cap) len (ints X))/\Gs (fun c=>c=b) w wr) (fun _ x6 _=>len - (vI x6).toNat)
  case atStart=>exact⟨k,k+1,L,rfl,qh (by omega),by omega,by omega,EP.out,ct.out,Gs.xh aV.out⟩
  case round =>
   obtain⟨i,j,X,rfl,rfl,hj,jE,HS,HX,hG⟩:=hrel;have pO:Gs (fun c=>(Value.slice (some ⟨b,0,none⟩) len cap).ownBlock=some c) w wr:=hG.mono fun c _ hc=>by rw[hc];rfl
   by_cases hlt:j < len
   ·obtain⟨t,ht⟩ : ∃ t,L[j]? = some t:=⟨_,g8 (by rw[<-HL.out];exact hlt)⟩
    have yG:X[j]? = some t:=HS.out.get.trans ht;obtain⟨u,hu⟩ : ∃ u,X[i]? = some u:=⟨_,g8 (by rw[HS.out.len,<-HL.out];omega)⟩
    have aI:=fun q=>(HX.out.cellAt q)
    have dp:=HX.out.frozenAt;have e0:(ints X)[j]? = some (.int .i64 t):=by simp[ints,yG]
    have d0:wr.cell? ⟨b,j,none⟩=some (.int .i64 t):=by rw[aI _ (by omega),e0]
    have o0:(ints X)[i]? = some (.int .i64 u):=by simp[ints,hu]
    have p0:wr.cell? ⟨b,i,none⟩=some (.int .i64 u):=by rw[aI _ (by omega),o0]
    clear e0 o0;have af:=HF.out wr pO t (gh ht);have HC:=lhd af;have HT:=lhd ht;have P9:=lhd pO;clear af ht yG hu aI dp pO;cases hft:f t with
    | true =>
     have fi:=lhd hft;rw[hft] at HC;clear hft;go_wp2_with fail;refine HC.out.mono ?_;rintro e w2 ⟨rfl,aj⟩;have ck:BwQ wr w2:=aj;have dF:Gs (fun c=>c=b) w w2:=hG.then (S':=fun _=>False) (Gs.xh ck) (fun _ h=>h.elim);have eS:Hid (w2.ownsRow base 3 1 (.slice (some ⟨b,0,none⟩) len cap) len (ints X)):=qa HX.out ck;clear aj ck;go_wp2_with fail;go_roundw
     case measure=>simp[vI];omega
     case rel=>exact⟨i,j+1,X,rfl,qh (by omega),by omega,by omega,HS.out.skip HT.out fi.out,eS,dF⟩
    | false =>
     have fi:=lhd hft;rw[hft] at HC;clear hft;go_wp2_with fail;refine HC.out.mono ?_;rintro e w2 ⟨rfl,aj⟩;have ck:BwQ wr w2:=aj;have dF:Gs (fun c=>c=b) w w2:=hG.then (S':=fun _=>False) (Gs.xh ck) (fun _ h=>h.elim);have eS:Hid (w2.ownsRow base 3 1 (.slice (some ⟨b,0,none⟩) len cap) len (ints X)):=qa HX.out ck;have f0:=eS.out.frozenAt i
     replace p0:=Cx.q8 ck p0
     clear aj ck;go_wp2_with fail;go_roundw
     case measure=>simp[vI];omega
     case rel=>exact⟨i+1,j+1,X.set i t,qh (by omega),qh (by omega),by omega,by omega,HS.out.put HT.out fi.out,by have:=(eS.out.stored i (.int .i64 t)).1;rw[show (ints X).set i (.int .i64 t)=ints (X.set i t) from by simp[ints,List.map_set]] at this;exact this,dF.grown (eS.out.stored i (.int .i64 t)).2 (fun k e=>by cases e;exact .inr rfl)⟩
   ·have dM:j=len:=by omega
    have aI:=fun q=>(HX.out.cellAt q)
    have dp:=HX.out.frozenAt;have fE:=HX.out.1;obtain⟨zs,iD⟩:=qe9 wr b (i) (len - i) (cap - i) (by omega) (fun q hq=>by rw[aI _ (by omega),g8 (by rw[fE];omega)];rfl) (fun q hq=>dp _);have al:¬ cap=i:=by omega
    have HJ:=lhd dM;have HZ:=lhd (ku zs (i) HX.out);have ed:(i:Int)<=(len:Int):=by omega
    have hi0:(0:Int)<=(i:Int):=by omega
    clear aI dp fE dM pO;go_wp2_with fail;go_ret;obtain⟨⟨ys,hy,sY⟩,o7⟩:=HZ.out;have jL:=HS.out.low;rw[HJ.out,HL.out,List.take_length] at jL;have sh:(L.filter fun t=>!f t).length=i:=by rw[<-jL,gd,HS.out.len,<-HL.out];omega
    refine⟨_,rfl,?_,(hG.trans o7).mono fun c _ hc=>by rw[hc];rfl⟩;have aA:=q93 hy (i:=i) (by omega);rw[gL,sY,q6k,jL] at aA;rw[sh];exact aA
theorem qil (base:Nat) (v:Value) (L:List Tm) (g:Nat) (cb:Array Value) (f:Tm->Bool) (w:World) (h:w.ownsRow base 71 3 v L.length (tv L)) (hlen:L.length<=1099511627776)
  (eg:∀ args w,(callFunc g args).run Tryz.prog w = .ok (.enter g args) w) (hf:∀ W,Gs (fun b=>v.ownBlock=some b) w W->∀ t∈L,Calls Tryz.prog g (#[Tm.v t]++cb) W fun e w'=>e = .returned (.bool (f t))/\BwQ W w') :
  Calls Tryz.prog 163 #[v,.func (.func g) #[] cb] w fun e w'=>∃ r,e = .returned r/\w'.ownsRow base 71 3 r (L.filter fun t=>!f t).length (tv (L.filter fun t=>!f t))/\Gs (fun b=>v.ownBlock=some b) w w':=by
 have jK:=qii v L g cb f w (Sl.qc h) eg (fun W hW t ht=>hf W (Gs.xh hW) t ht);have HI:=lhd jK;have HF:=lhd hf;have HR:=lhd h;obtain⟨a,cap,rfl⟩:=qj h;obtain⟨len,hl⟩ : ∃ len,len=L.length:=⟨_,rfl⟩
 rw[<-hl] at HI HF HR hlen ⊢;have HL:=lhd hl;clear jK hf h hl;go_enter Tryz.func163,Tryz.ntmps163;go_wp2_with fail;refine HI.out.mono ?_;rintro e w1 ⟨i0,rfl,hi0,ai⟩;have aV:=lhd ai;rcases hi0 with ⟨rfl,aG⟩ | ⟨k,t0,rfl,hk,ht,fO⟩
 ·have HA:=lhd aG;clear aG ai;go_wp2_with fail;go_ret;have he:(L.filter fun t=>!f t)=L:=List.filter_eq_self.2 fun u hu=>by rw[HA.out u hu];rfl
  rw[he,<-HL.out];exact⟨_,rfl,qa HR.out aV.out,Gs.xh aV.out⟩
 ·have bF:k < len:=by rw[HL.out];exact(ge.1 hk).1
  obtain⟨b,dr⟩ : ∃ b,a=some ⟨b,0,none⟩:=by
   rcases HR.out.2 with ⟨h0,_⟩ | ⟨b,c',cur,he,_⟩
   ·cases h0;omega
   ·exact⟨b,by cases he;rfl⟩
  subst dr;have dg:=Sft.start (f:=f) hk ht fO;have rI:((k:Int) == -1)=false:=by simp
  have EP:=lhd dg;have cw:len<=cap/\cap<=maxLen:=by obtain⟨h1,h2,_⟩:=(Sl.qc HR.out).open;exact⟨h1,h2⟩
  obtain⟨yF,nt⟩:=cw;unfold maxLen at nt;have cQ:=qa HR.out aV.out;have ct:=lhd cQ;clear hk ht fO ai dg cQ;go_wp2_with fail;go_loopw [5,6] (fun x5 x6 wr=>∃ (i j:Nat) (X:List Tm),x5 = .int .i64 i/\x6 = .int .i64 j/\j<=len/\i < j/\Hid (Sft f L X i j)/\Hid (wr.ownsRow base 71 3 (.slice (some ⟨b,0,none⟩) len cap) len (tv X))/\Gs (fun c=>c=b) w wr) (fun _ x6 _=>len - (vI x6).toNat)
  case atStart=>exact⟨k,k+1,L,rfl,qh (by omega),by omega,by omega,EP.out,ct.out,Gs.xh aV.out⟩
  case round =>
   obtain⟨i,j,X,rfl,rfl,hj,jE,HS,HX,hG⟩:=hrel;have pO:Gs (fun c=>(Value.slice (some ⟨b,0,none⟩) len cap).ownBlock=some c) w wr:=hG.mono fun c _ hc=>by rw[hc];rfl
   by_cases hlt:j < len
   ·obtain⟨t,ht⟩ : ∃ t,L[j]? = some t:=⟨_,g8 (by rw[<-HL.out];exact hlt)⟩
    have yG:X[j]? = some t:=HS.out.get.trans ht;obtain⟨u,hu⟩ : ∃ u,X[i]? = some u:=⟨_,g8 (by rw[HS.out.len,<-HL.out];omega)⟩
    have aI:=fun q=>(HX.out.cellAt q)
    have dp:=HX.out.frozenAt;obtain⟨e0,e1,e2⟩:=jd X j _ yG;have d0:wr.cell? ⟨b,j*3,none⟩=some (.int .i64 t.c):=by rw[aI _ (by omega),e0]
    have d1:wr.cell? ⟨b,j*3+1,none⟩=some (.bool t.n):=by rw[aI _ (by omega),e1]
    have d2:wr.cell? ⟨b,j*3+2,none⟩=some (.string t.m):=by rw[aI _ (by omega),e2]
    obtain⟨o0,o1,o2⟩:=jd X i _ hu;have p0:wr.cell? ⟨b,i*3,none⟩=some (.int .i64 u.c):=by rw[aI _ (by omega),o0]
    have p1:wr.cell? ⟨b,i*3+1,none⟩=some (.bool u.n):=by rw[aI _ (by omega),o1]
    have p2:wr.cell? ⟨b,i*3+2,none⟩=some (.string u.m):=by rw[aI _ (by omega),o2]
    clear e0 e1 e2 o0 o1 o2;obtain⟨U,hU⟩ : ∃ U,U=wr.alloc (.cells #[.int .i64 t.c,.bool t.n,.string t.m] 71):=⟨_,rfl⟩
    have ej:BwQ wr U:=by rw[hU];exact bal wr _
    have PA:Gs (fun c=>(Value.slice (some ⟨b,0,none⟩) len cap).ownBlock=some c) w U:=pO.then (S':=fun _=>False) (Gs.xh ej) (fun _ h=>h.elim);have u0:U.cell? ⟨wr.heap.size,0,none⟩=some (.int .i64 t.c):=by rw[hU];exact qd wr #[.int .i64 t.c,.bool t.n,.string t.m] 71 (0,0) 0
    have u1:U.cell? ⟨wr.heap.size,1,none⟩=some (.bool t.n):=by rw[hU];exact qd wr #[.int .i64 t.c,.bool t.n,.string t.m] 71 (0,0) 1
    have u2:U.cell? ⟨wr.heap.size,2,none⟩=some (.string t.m):=by rw[hU];exact qd wr #[.int .i64 t.c,.bool t.n,.string t.m] 71 (0,0) 2
    have HU:=lhd (aiq ej (aiq u0 (aiq u1 u2)));have af:=HF.out U PA t (gh ht);unfold Tm.v at af;rw[hU] at af;have Lv:=lhd hU;clear ej PA u0 u1 u2 hU;have HC:=lhd af;have HT:=lhd ht;have P9:=lhd pO;clear af ht yG hu aI dp pO;cases hft:f t with
    | true =>
     have fi:=lhd hft;rw[hft] at HC;clear hft;go_wp2_with fail;refine HC.out.mono ?_;rintro e w2 ⟨rfl,aj⟩;have ck:BwQ wr w2:=by rw[<-Lv.out] at aj;exact (btr HU.out.1 aj)
     have dF:Gs (fun c=>c=b) w w2:=hG.then (S':=fun _=>False) (Gs.xh ck) (fun _ h=>h.elim);have eS:Hid (w2.ownsRow base 71 3 (.slice (some ⟨b,0,none⟩) len cap) len (tv X)):=qa HX.out ck;clear aj ck;go_wp2_with fail;go_roundw
     case measure=>simp[vI];omega
     case rel=>exact⟨i,j+1,X,rfl,qh (by omega),by omega,by omega,HS.out.skip HT.out fi.out,eS,dF⟩
    | false =>
     have fi:=lhd hft;rw[hft] at HC;clear hft;go_wp2_with fail;refine HC.out.mono ?_;rintro e w2 ⟨rfl,aj⟩;have ck:BwQ wr w2:=by rw[<-Lv.out] at aj;exact (btr HU.out.1 aj)
     have dF:Gs (fun c=>c=b) w w2:=hG.then (S':=fun _=>False) (Gs.xh ck) (fun _ h=>h.elim);have eS:Hid (w2.ownsRow base 71 3 (.slice (some ⟨b,0,none⟩) len cap) len (tv X)):=qa HX.out ck;have f0:=eS.out.frozenAt (i*3);have f1:=eS.out.frozenAt (i*3+1);have f2:=eS.out.frozenAt (i*3+2)
     replace p0:=Cx.q8 ck p0
     replace p1:=Cx.q8 ck p1
     replace p2:=Cx.q8 ck p2
     rw[<-Lv.out] at aj;have b0:=Cx.q8 aj HU.out.2.1;have b1:=Cx.q8 aj HU.out.2.2.1;have b2:=Cx.q8 aj HU.out.2.2.2;clear aj ck;go_wp2_with fail;go_roundw
     case measure=>simp[vI];omega
     case rel=>exact⟨i+1,j+1,X.set i t,qh (by omega),qh (by omega),by omega,by omega,HS.out.put HT.out fi.out,by have:=(((eS.out.stored (i*3) (.int .i64 t.c)).1.stored (i*3+1) (.bool t.n)).1.stored (i*3+2) (.string t.m)).1;rw[qo2 X i t (by rw[HS.out.len,<-HL.out];omega)] at this;exact this,((dF.grown (eS.out.stored (i*3) (.int .i64 t.c)).2 (fun k e=>by cases e;exact .inr rfl)).grown ((eS.out.stored (i*3) (.int .i64 t.c)).1.stored (i*3+1) (.bool t.n)).2 (fun k e=>by cases e;exact .inr rfl)).grown (((eS.out.stored (i*3) (.int .i64 t.c)).1.stored (i*3+1) (.bool t.n)).1.stored (i*3+2) (.string t.m)).2 (fun k e=>by cases e;exact .inr rfl)⟩
   ·have dM:j=len:=by omega
    have aI:=fun q=>(HX.out.cellAt q)
    have dp:=HX.out.frozenAt;have fE:=HX.out.1;obtain⟨zs,iD⟩:=qlc wr b (i*3) (len - i) (cap - i) (by omega) (fun q hq=>by rw[aI _ (by omega),g8 (by rw[fE];omega)];rfl) (fun q hq=>dp _);have al:¬ cap=i:=by omega
    have HJ:=lhd dM;have HZ:=lhd (ku zs (i*3) HX.out);have ed:(i:Int)<=(len:Int):=by omega
    have hi0:(0:Int)<=(i:Int):=by omega
    clear aI dp fE dM pO;go_wp2_with fail;go_ret;obtain⟨⟨ys,hy,sY⟩,o7⟩:=HZ.out;have jL:=HS.out.low;rw[HJ.out,HL.out,List.take_length] at jL;have sh:(L.filter fun t=>!f t).length=i:=by rw[<-jL,gd,HS.out.len,<-HL.out];omega
    refine⟨_,rfl,?_,(hG.trans o7).mono fun c _ hc=>by rw[hc];rfl⟩;have aA:=q93 hy (i:=i) (by omega);rw[sY,q3r,jL] at aA;rw[sh];exact aA
end Go.Proofs.YtlhicnfeajejhaaGreatDoor
