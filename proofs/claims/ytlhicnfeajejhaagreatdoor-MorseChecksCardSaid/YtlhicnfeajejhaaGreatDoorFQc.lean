/- Steps towards MorseChecks. Conditions: none. -/
import Derived.Test.YtlhicnfeajejhaaGreatDoorFQb
set_option maxRecDepth 1000000
set_option maxHeartbeats 16000000
namespace Go.Proofs.YtlhicnfeajejhaaGreatDoor
open Go.RowKit Go.Cx
attribute [local go_sem ↓] Go.wp_at_zero Go.wp_at_succ
def Sd.v (s:Sd):Value:=.agg #[.int .i64 s.c,.int .i64 s.g]
def q2s {α:Type} (L:List α) (f:α->Bool) (i:Int):Prop:=(i = -1/\∀ t∈L,f t=false)\/∃ (k:Nat) (t:α),i=k/\L[k]? = some t/\f t=true/\∀ u∈L.take k,f u=false
theorem q2s.any {α:Type} {L:List α} {f:α->Bool} {i:Int} (h:q2s L f i):decide (0<=i)=L.any f:=by
 rcases h with ⟨rfl,h⟩ | ⟨k,t,rfl,hk,ht,_⟩
 ·rw[List.any_eq_false.2 (fun t ht=>by rw[h t ht];simp)];rfl
 ·rw[List.any_eq_true.2 ⟨t,gd hk,ht⟩];simp
theorem qii (v:Value) (L:List Tm) (g:Nat) (cb:Array Value) (f:Tm->Bool) (w:World) (h:Sl w 3 v (tv L))
  (eg:∀ args w,(callFunc g args).run Tryz.prog w = .ok (.enter g args) w) (hf:∀ W,Below w.heap.size w W->∀ t∈L,Calls Tryz.prog g (#[Tm.v t]++cb) W fun e w'=>e = .returned (.bool (f t))/\Below W.heap.size W w') :
  Calls Tryz.prog 161 #[v,.func (.func g) #[] cb] w fun e w'=>∃ i:Int,e = .returned (.int .i64 i)/\q2s L f i/\Below w.heap.size w w':=by
 obtain⟨a,len,cap,rfl,h1,h2,h3,h4,h5⟩:=h;unfold maxLen at h2;rw[z6] at h3;have hl:L.length=len:=by omega
 clear h3;have Hl:=lhd hl;clear hl;have H4:=lhd h4;clear h4;have H5:=lhd h5;clear h5;have HF:=lhd hf;clear hf;go_enter Tryz.func161,Tryz.ntmps161;go_wp2;go_loopw [5,8] (fun _ i wr=>∃ k:Nat,i = .int .i64 k/\k<=len/\Hid (∀ t∈L.take k,f t=false)/\Below w.heap.size w wr) (fun _ i _=>len - (vI i).toNat)
 case atStart=>exact⟨0,rfl,gp _,(show Hid _ from fun t ht=>by simp at ht),Below.refl _ _⟩
 case round =>
  obtain⟨k,rfl,hk,HN,hB⟩:=hrel;by_cases hlt:k < len
  ·obtain⟨ad,rfl⟩ : ∃ ad,a=some ad:=by
    cases a with
    | none=>have:=H4.out rfl;omega
    | some ad=>exact⟨ad,rfl⟩
   obtain⟨t,ht⟩ : ∃ t,L[k]? = some t:=⟨_,g8 (by rw[Hl.out];exact hlt)⟩
   obtain⟨e0,e1,e2⟩:=jd L k _ ht;have d0:wr.cell? (ad.add (k*3))=some (.int .i64 t.c):=q8 hB (H5.out ad rfl _ _ e0);have d1:wr.cell? ⟨(ad.add (k*3)).block,(ad.add (k*3)).off+1,none⟩=some (.bool t.n):=by rw[qi _ _ _ (by omega)];exact q8 hB (H5.out ad rfl _ _ e1)
   have d2:wr.cell? ⟨(ad.add (k*3)).block,(ad.add (k*3)).off+2,none⟩=some (.string t.m):=by rw[qi _ _ _ (by omega)];exact q8 hB (H5.out ad rfl _ _ e2)
   have ae:=HF.out wr hB t (gd ht);have HC:=lhd ae;have HT:=lhd ht;clear e0 e1 e2 ht ae;go_wp2_with fail;refine HC.out.mono ?_;rintro e w2 ⟨rfl,ag⟩;by_cases hft:f t=true
   ·have dL:=lhd hft;rw[hft];go_wp2;go_ret;exact⟨k,rfl,.inr ⟨k,t,rfl,HT.out,dL.out,HN.out⟩,hB.trans (ag.mono hB.size)⟩
   ·have iZ:f t=false:=by simpa using hft
    have dL:=lhd iZ;rw[iZ];clear hft iZ;go_wp2;go_roundw
    case measure=>simp[vI];omega
    case rel =>
     refine⟨k+1,qh (by omega),by omega,(show Hid _ from fun u hu=>?_),hB.trans (ag.mono hB.size)⟩;rw[gq,HT.out] at hu;rcases gF.1 hu with hu | hu
     ·exact HN.out u hu
     ·simp at hu;rw[hu];exact dL.out
  ·have bJ:k=len:=by omega
   have fR:=lhd bJ;clear bJ;go_wp2;go_ret;refine⟨-1,rfl,.inl ⟨rfl,?_⟩,hB⟩;have hn:=HN.out;rw[ge (by rw[Hl.out,fR.out];exact nlr _)] at hn;exact hn
theorem qnz (v:Value) (L:List Sd) (g:Nat) (cb:Array Value) (f:Sd->Bool) (w:World) (h:Sl w 2 v (cat Sd.enc L))
  (eg:∀ args w,(callFunc g args).run Tryz.prog w = .ok (.enter g args) w) (hf:∀ W,Below w.heap.size w W->∀ t∈L,Calls Tryz.prog g (#[Sd.v t]++cb) W fun e w'=>e = .returned (.bool (f t))/\Below W.heap.size W w') :
  Calls Tryz.prog 205 #[v,.func (.func g) #[] cb] w fun e w'=>∃ i:Int,e = .returned (.int .i64 i)/\q2s L f i/\Below w.heap.size w w':=by
 obtain⟨a,len,cap,rfl,h1,h2,h3,h4,h5⟩:=h;unfold maxLen at h2;rw[qt Sd.qp] at h3;have hl:L.length=len:=by omega
 clear h3;have Hl:=lhd hl;clear hl;have H4:=lhd h4;clear h4;have H5:=lhd h5;clear h5;have HF:=lhd hf;clear hf;go_enter Tryz.func205,Tryz.ntmps205;go_wp2;go_loopw [5,8] (fun _ i wr=>∃ k:Nat,i = .int .i64 k/\k<=len/\Hid (∀ t∈L.take k,f t=false)/\Below w.heap.size w wr) (fun _ i _=>len - (vI i).toNat)
 case atStart=>exact⟨0,rfl,gp _,(show Hid _ from fun t ht=>by simp at ht),Below.refl _ _⟩
 case round =>
  obtain⟨k,rfl,hk,HN,hB⟩:=hrel;by_cases hlt:k < len
  ·obtain⟨ad,rfl⟩ : ∃ ad,a=some ad:=by
    cases a with
    | none=>have:=H4.out rfl;omega
    | some ad=>exact⟨ad,rfl⟩
   obtain⟨t,ht⟩ : ∃ t,L[k]? = some t:=⟨_,g8 (by rw[Hl.out];exact hlt)⟩
   obtain⟨e0,e1⟩:=zw L k t ht;have d0:wr.cell? (ad.add (k*2))=some (.int .i64 t.c):=q8 hB (H5.out ad rfl _ _ e0);have d1:wr.cell? ⟨(ad.add (k*2)).block,(ad.add (k*2)).off+1,none⟩=some (.int .i64 t.g):=by rw[qi _ _ _ (by omega)];exact q8 hB (H5.out ad rfl _ _ e1)
   have ae:=HF.out wr hB t (gd ht);have HC:=lhd ae;have HT:=lhd ht;clear e0 e1 ht ae;go_wp2_with fail;refine HC.out.mono ?_;rintro e w2 ⟨rfl,ag⟩;by_cases hft:f t=true
   ·have dL:=lhd hft;rw[hft];go_wp2;go_ret;exact⟨k,rfl,.inr ⟨k,t,rfl,HT.out,dL.out,HN.out⟩,hB.trans (ag.mono hB.size)⟩
   ·have iZ:f t=false:=by simpa using hft
    have dL:=lhd iZ;rw[iZ];clear hft iZ;go_wp2;go_roundw
    case measure=>simp[vI];omega
    case rel =>
     refine⟨k+1,qh (by omega),by omega,(show Hid _ from fun u hu=>?_),hB.trans (ag.mono hB.size)⟩;rw[gq,HT.out] at hu;rcases gF.1 hu with hu | hu
     ·exact HN.out u hu
     ·simp at hu;rw[hu];exact dL.out
  ·have bJ:k=len:=by omega
   have fR:=lhd bJ;clear bJ;go_wp2;go_ret;refine⟨-1,rfl,.inl ⟨rfl,?_⟩,hB⟩;have hn:=HN.out;rw[ge (by rw[Hl.out,fR.out];exact nlr _)] at hn;exact hn
theorem qo0 (v:Value) (L:List Int) (g:Nat) (cb:Array Value) (f:Int->Bool) (w:World) (h:Sl w 1 v (ints L))
  (eg:∀ args w,(callFunc g args).run Tryz.prog w = .ok (.enter g args) w) (hf:∀ W,Below w.heap.size w W->∀ t∈L,Calls Tryz.prog g (#[.int .i64 t]++cb) W fun e w'=>e = .returned (.bool (f t))/\Below W.heap.size W w') :
  Calls Tryz.prog 187 #[v,.func (.func g) #[] cb] w fun e w'=>∃ i:Int,e = .returned (.int .i64 i)/\q2s L f i/\Below w.heap.size w w':=by
 obtain⟨a,len,cap,rfl,h1,h2,h3,h4,h5⟩:=h;unfold maxLen at h2;rw[xl] at h3;have hl:L.length=len:=by omega
 clear h3;have Hl:=lhd hl;clear hl;have H4:=lhd h4;clear h4;have H5:=lhd h5;clear h5;have HF:=lhd hf;clear hf;go_enter Tryz.func187,Tryz.ntmps187;go_wp2;go_loopw [5,8] (fun _ i wr=>∃ k:Nat,i = .int .i64 k/\k<=len/\Hid (∀ t∈L.take k,f t=false)/\Below w.heap.size w wr) (fun _ i _=>len - (vI i).toNat)
 case atStart=>exact⟨0,rfl,gp _,(show Hid _ from fun t ht=>by simp at ht),Below.refl _ _⟩
 case round =>
  obtain⟨k,rfl,hk,HN,hB⟩:=hrel;by_cases hlt:k < len
  ·obtain⟨ad,rfl⟩ : ∃ ad,a=some ad:=by
    cases a with
    | none=>have:=H4.out rfl;omega
    | some ad=>exact⟨ad,rfl⟩
   obtain⟨t,ht⟩ : ∃ t,L[k]? = some t:=⟨_,g8 (by rw[Hl.out];exact hlt)⟩
   have e0:(ints L)[k]? = some (.int .i64 t):=by simp[ints,ht]
   have d0:wr.cell? (ad.add k)=some (.int .i64 t):=q8 hB (H5.out ad rfl _ _ e0);have ae:=HF.out wr hB t (gd ht);have HC:=lhd ae;have HT:=lhd ht;clear e0 ht ae;go_wp2_with fail;refine HC.out.mono ?_;rintro e w2 ⟨rfl,ag⟩;by_cases hft:f t=true
   ·have dL:=lhd hft;rw[hft];go_wp2;go_ret;exact⟨k,rfl,.inr ⟨k,t,rfl,HT.out,dL.out,HN.out⟩,hB.trans (ag.mono hB.size)⟩
   ·have iZ:f t=false:=by simpa using hft
    have dL:=lhd iZ;rw[iZ];clear hft iZ;go_wp2;go_roundw
    case measure=>simp[vI];omega
    case rel =>
     refine⟨k+1,qh (by omega),by omega,(show Hid _ from fun u hu=>?_),hB.trans (ag.mono hB.size)⟩;rw[gq,HT.out] at hu;rcases gF.1 hu with hu | hu
     ·exact HN.out u hu
     ·simp at hu;rw[hu];exact dL.out
  ·have bJ:k=len:=by omega
   have fR:=lhd bJ;clear bJ;go_wp2;go_ret;refine⟨-1,rfl,.inl ⟨rfl,?_⟩,hB⟩;have hn:=HN.out;rw[ge (by rw[Hl.out,fR.out];exact nlr _)] at hn;exact hn
theorem ql9 (v:Value) (L:List Sd) (g:Nat) (cb:Array Value) (f:Sd->Bool) (w:World) (h:Sl w 2 v (cat Sd.enc L))
  (eg:∀ args w,(callFunc g args).run Tryz.prog w = .ok (.enter g args) w) (hf:∀ W,Below w.heap.size w W->∀ t∈L,Calls Tryz.prog g (#[Sd.v t]++cb) W fun e w'=>e = .returned (.bool (f t))/\Below W.heap.size W w') :
  Calls Tryz.prog 185 #[v,.func (.func g) #[] cb] w fun e w'=>e = .returned (.bool (L.any f))/\Below w.heap.size w w':=by
 have ae:=qnz v L g cb f w h eg hf;obtain⟨a,len,cap,rfl⟩:=qg h;have HC:=lhd ae;clear ae hf h;go_enter Tryz.func185,Tryz.ntmps185;go_wp2_with fail;refine HC.out.mono ?_;rintro e w2 ⟨i,rfl,hi,ag⟩;have HI:=lhd hi.any;clear hi;go_wp2;go_ret;refine⟨?_,ag⟩;rw[<-HI.out];rfl
theorem qo1 (s:Sd) (bk:Nat) (id:Int) (w:World) (hc:w.cell? ⟨bk,0,none⟩=some (.int .i64 id)) :
  Calls Tryz.prog 186 #[Sd.v s,.pointer (some ⟨bk,0,none⟩)] w fun e w'=>e = .returned (.bool (s.c == id))/\Below w.heap.size w w':=by
 have h1:(w.alloc (.cells #[.int .i64 s.c,.int .i64 s.g] 108)).cell? ⟨bk,0,none⟩=some (.int .i64 id):=qk hc _;unfold Sd.v;go_enter Tryz.func186,Tryz.ntmps186;go_wp2;go_ret;exact⟨rfl,(Below.refl _ w).alloc (nlr _) _⟩
theorem qp8 (x:Ce) (id:Int) (w:World) (hs:Sl w 2 x.sl (cat Sd.enc x.s)) :
  Calls Tryz.prog 154 #[x.v,.int .i64 id] w fun e w'=>e = .returned (.bool (x.s.any fun s=>s.c == id))/\Below w.heap.size w w':=by
 unfold Ce.sl at hs;unfold Ce.v;obtain⟨W,hW⟩ : ∃ W,W=(w.alloc (.cells #[.int .i64 x.id,.int .i64 x.dim,.slice x.a x.n x.c] 75)).alloc (.cells #[.int .i64 id] 3):=⟨_,rfl⟩
 have hB:Below w.heap.size w W:=by rw[hW];exact((Below.refl _ w).alloc (nlr _) _).alloc (by simp) _
 have hc:W.cell? ⟨w.heap.size+1,0,none⟩=some (.int .i64 id):=by
  rw[hW];simp
 have ae:=ql9 (.slice x.a x.n x.c) x.s 186 #[.pointer (some ⟨w.heap.size+1,0,none⟩)] (fun s=>s.c == id) W (hs.q8 hB) Tryz.call186 (fun U hU s _=>qo1 s (w.heap.size+1) id U (Cx.q8 hU hc));rw[hW] at ae hB;have HC:=lhd ae;have HB:=lhd hB;clear hs ae hB hc hW;go_enter Tryz.func154,Tryz.ntmps154;go_wp2_with fail;refine HC.out.mono ?_;rintro e w2 ⟨rfl,ag⟩;go_wp2;go_ret;exact⟨rfl,HB.out.trans (ag.mono HB.out.size)⟩
theorem qij (x:Ce) (bk:Nat) (id:Int) (w:World) (hc:w.cell? ⟨bk,0,none⟩=some (.int .i64 id)) (hs:Sl w 2 x.sl (cat Sd.enc x.s)) :
  Calls Tryz.prog 153 #[x.v,.pointer (some ⟨bk,0,none⟩)] w fun e w'=>e = .returned (.bool (x.s.any fun s=>s.c == id))/\Below w.heap.size w w':=by
 have h1:(w.alloc (.cells #[.int .i64 x.id,.int .i64 x.dim,.slice x.a x.n x.c] 75)).cell? ⟨bk,0,none⟩=some (.int .i64 id):=qk hc _;have hB:Below w.heap.size w (w.alloc (.cells #[.int .i64 x.id,.int .i64 x.dim,.slice x.a x.n x.c] 75)):=(Below.refl _ w).alloc (nlr _) _;have ae:=qp8 x id _ (hs.q8 hB);unfold Ce.v at ae ⊢;have HC:=lhd ae;have HB:=lhd hB;clear hs ae hB hc;go_enter Tryz.func153,Tryz.ntmps153;go_wp2_with fail;refine HC.out.mono ?_;rintro e w2 ⟨rfl,ag⟩;go_wp2;go_ret;exact⟨rfl,HB.out.trans (ag.mono HB.out.size)⟩
theorem qla (v:Value) (l:List Ce) (id:Int) (w:World) (h:SlC w v l) (hl:l.length<=1099511627776) (hok:COk l) :
  Calls Tryz.prog 99 #[.agg #[v],.int .i64 id] w fun e w'=>∃ r,e = .returned r/\w'.ownsRow w.heap.size 3 1 r (kd (l.map Ce.cl) id).length (ints (kd (l.map Ce.cl) id))/\Below w.heap.size w w':=by
 obtain⟨a,n,cap,rfl⟩:=qg h.1;have HH:=lhd h;clear h;have iY:=lhd hok;clear hok;go_enter Tryz.func99,Tryz.ntmps99;go_wp2_with fail;refine(qnb _ l _ ((HH.out.alloc _).alloc _) hl iY.out).mono ?_;rintro e w1 ⟨T,rfl,⟨B,n1,v1,m,t1,t2,t3,t4,t5,t6,t7,t8⟩,ai⟩;simp only [World.size_alloc] at t1 t2 ai;have bT:w.heap.size+1+1<=w1.heap.size:=by have:=ai.size;simpa using this
 have al:Below w.heap.size w w1:=(((Below.refl _ w).alloc (nlr _) _).alloc (by simp) _).trans (ai.mono (by omega));have hd:w1.cell? ⟨w.heap.size+1,0,none⟩=some (.int .i64 id):=by
  have:=qd (w.alloc (.cells #[.slice a n cap] 26)) #[.int .i64 id] 3 (0,0) 0;rw[World.size_alloc] at this;exact q1n ai (by simp) this
 have eV:m.length<=1099511627776:=by
  have:=congrArg List.length t7;rw[q0z,gm,gm] at this;omega
 have eS:∀ x∈m,I64 x.id:=fun x hx=>by
  have h1:x.cl∈canon (l.map Ce.cl):=by rw[<-t7];exact gE hx
  obtain⟨y,hy,he⟩:=go.1 h1;obtain⟨z,hz,rfl⟩:=go.1 ((q2m _ y).1 hy);have h2:=congrArg Cl.id he;have h3:z.id=x.id:=h2;rw[<-h3];exact(iY.out z hz).1.1
 have ae:=qdg T B n1 v1 m 153 #[.pointer (some ⟨w.heap.size+1,0,none⟩)] (fun x=>x.s.any fun s=>s.c == id) w1 t3 t4 t5 t6 eV eS Tryz.call153 (fun W hW x hx=>qij x (w.heap.size+1) id W (Cx.q8 hW hd) ((t8 x hx).q8 hW));have heq:((xb Ce.id m).filter (fun x=>x.s.any fun s=>s.c == id)).map Ce.id=kd (l.map Ce.cl) id:=by
  unfold kd cellsOf;rw[<-t7,q63 (key:=Ce.id) Ce.cl (fun _=>rfl),List.filter_map,List.map_map];rfl
 have HC:=lhd ae;have rk:=lhd heq;clear ae heq t1 t2 t3 t4 t5 t6 t7 t8 hd eV eS;go_wp2_with fail;refine HC.out.mono ?_;rintro e w2 ⟨r,rfl,hr,ag⟩;go_wp2;go_ret;refine⟨r,rfl,?_,al.trans (ag.mono al.size)⟩;have hlen:=congrArg List.length rk.out;rw[gm] at hlen;rw[<-hlen,<-rk.out];exact qf hr al.size
end Go.Proofs.YtlhicnfeajejhaaGreatDoor
namespace Go.Cx
open Go.RowKit Go.Maps
def q51 (nb:Int->Nat) (K:List Cl):Int->Option Value:=fun c=>if jv K c then some (.map (some (nb c))) else none
theorem qfn (nb:Int->Nat) (K:List Cl) (x:Cl) (b:Nat):q51 (fun c=>if c=x.id then b else nb c) (K++[x])=zg (q51 nb K) x.id (.map (some b)):=by
 funext c
 unfold q51 zg jv;rw[List.any_append];by_cases h:c=x.id
 ·subst h;simp
 ·have:(x.id == c)=false:=by simpa using fun e=>h e.symm
  simp[h,this]
end Go.Cx
namespace Go.Proofs.YtlhicnfeajejhaaGreatDoor
open Go.RowKit Go.Cx Go.Maps
attribute [local go_sem ↓] Go.wp_at_zero Go.wp_at_succ
theorem qlb (v:Value) (l:List Ce) (w:World) (h:SlC w v l) (hok:COk l) (hA:Asc (l.map Ce.cl)) :
  Calls Tryz.prog 180 #[.agg #[v]] w fun e w'=>∃ B nb,e = .returned (.map (some B))/\w.heap.size<=B/\(∀ x∈l,w.heap.size<=nb x.id/\nb x.id≠B)/\Sds w' B nb (l.map Ce.cl)/\Below w.heap.size w w':=by
 obtain⟨a,len,cap,rfl⟩:=qg h.1;have HH:=lhd h;clear h;have iY:=lhd hok;clear hok;have HA:=lhd hA;clear hA;have cC:=@run_makeMap Tryz.prog;have hlen:l.length=len:=by
  obtain⟨_,_,h3,_⟩:=HH.out.1.open;rw[qt Ce.qp] at h3;omega
 have BP:len<=maxLen:=by
  obtain⟨h1,h2,_⟩:=HH.out.1.open;omega
 unfold maxLen at BP;have HL:=lhd hlen;clear hlen;obtain⟨K0,hK0⟩ : ∃ K0,K0=l.map Ce.cl:=⟨_,rfl⟩
 rw[<-hK0];have sL:=lhd hK0;clear hK0;go_enter Tryz.func180,Tryz.ntmps180;go_wp2;obtain⟨W,hW⟩ : ∃ W:World,W=(w.alloc (.cells #[.slice a len cap] 26)).alloc (.map #[] 0):=⟨_,rfl⟩
 rw[<-hW];have aK:Below w.heap.size w W:=by rw[hW];exact((Below.refl _ w).alloc (nlr _) _).alloc (by simp) _
 have mm:Mp Tryz.prog 3 W (w.heap.size+1) 0 (q51 (fun _=>0) []):=by
  rw[hW,show q51 (fun _=>0) []=fun _=>none from rfl];have:=Mp.made (w.alloc (.cells #[.slice a len cap] 26)) Tryz.prog 3;simpa using this
 obtain⟨B,hB⟩ : ∃ B,B=w.heap.size+1:=⟨_,rfl⟩
 rw[<-hB] at mm ⊢;have aL:w.heap.size < B:=by omega
 have Wd:=lhd hB;clear hW hB;go_loopw [12] (fun i wr=>∃ (k:Nat) (nb:Int->Nat),i = .int .i64 k/\k<=len/\Mp Tryz.prog 3 wr B k (q51 nb (K0.take k))/\Hid (∀ x∈l.take k,w.heap.size<=nb x.id/\nb x.id≠B/\nb x.id < wr.heap.size/\Mp Tryz.prog 3 wr (nb x.id) x.s.length (sgG x.s))/\Below w.heap.size w wr) (fun i _=>len - (vI i).toNat)
 case atStart=>exact⟨0,fun _=>0,rfl,gp _,mm,(show Hid _ from fun x hx=>by simp at hx),aK⟩
 case round =>
  clear mm aK;obtain⟨k,nb,rfl,hk,dt,HE,hB⟩:=hrel;by_cases hlt:k < len
  ·obtain⟨x,hx⟩ : ∃ x,l[k]? = some x:=⟨_,g8 (by rw[HL.out];exact hlt)⟩
   obtain⟨h2,h3,h4,h5,h6⟩:=HH.out.1.open;obtain⟨ad,rfl⟩ : ∃ ad,a=some ad:=by
    cases a with
    | none=>have:=h5 rfl;omega
    | some ad=>exact⟨ad,rfl⟩
   obtain⟨e0,e1,e2⟩:=zh l k x hx;have d0:wr.cell? (ad.add (k*3))=some (.int .i64 x.id):=Cx.q8 hB (h6 ad rfl _ _ e0);have d1:wr.cell? ⟨(ad.add (k*3)).block,(ad.add (k*3)).off+1,none⟩=some (.int .i64 x.dim):=by rw[qi _ _ _ (by omega)];exact Cx.q8 hB (h6 ad rfl _ _ e1)
   have d2:wr.cell? ⟨(ad.add (k*3)).block,(ad.add (k*3)).off+2,none⟩=some (.slice x.a x.n x.c):=by rw[qi _ _ _ (by omega)];exact Cx.q8 hB (h6 ad rfl _ _ e2)
   have lk:=gd hx;have s8:=yx (iY.out x lk).1.1;have cZ:l.take (k+1)=l.take k++[x]:=by rw[gq,hx];rfl
   have Nc:K0.take (k+1)=K0.take k++[x.cl]:=by rw[gq,sL.out,List.getElem?_map,hx];rfl
   have dc:=lhd Nc;clear Nc;obtain⟨V,hV⟩ : ∃ V:World,V=wr.alloc (.cells #[.int .i64 x.id,.int .i64 x.dim,.slice x.a x.n x.c] 75):=⟨_,rfl⟩
   have aD:Below wr.heap.size wr V:=by rw[hV];exact(Below.refl _ wr).alloc (nlr _) _
   have Sj:V.heap.size=wr.heap.size+1:=by rw[hV];simp
   have v0:V.cell? ⟨wr.heap.size,0,none⟩=some (.int .i64 x.id):=by rw[hV];exact qd wr #[.int .i64 x.id,.int .i64 x.dim,.slice x.a x.n x.c] 75 (0,0) 0
   have v2:V.cell? ⟨wr.heap.size,2,none⟩=some (.slice x.a x.n x.c):=by rw[hV];exact qd wr #[.int .i64 x.id,.int .i64 x.dim,.slice x.a x.n x.c] 75 (0,0) 2
   have Nd:Mp Tryz.prog 3 (V.alloc (.map #[] 0)) B k (q51 nb (K0.take k)):=(dt.q8 aD).alloc _;have ru:Mp Tryz.prog 3 (V.alloc (.map #[] 0)) V.heap.size 0 (sgG (x.s.take 0)):=by
    rw[show sgG (x.s.take 0)=fun _=>none from rfl];exact Mp.made V _ _
   have oz:k < maxLen:=by unfold maxLen;omega
   have HX:=lhd (aiq lk cZ);have HP:=lhd dt;have mx:=lhd (aiq aD Sj);have cm:w.heap.size<=wr.heap.size:=hB.size;have LJ:B < wr.heap.size:=dt.lt;clear h2 h3 h4 h5 h6 e0 e1 e2 hx lk cZ dt aD;go_wp2_with (first
    |(at_mapUpdate;rw[<-hV];clear hV;refine q1z rfl _ _ _ 121 rfl Nd Tryz.underlying3 Tryz.underlying121 oz x.id _ rfl rfl rfl s8 ?_)
    | fail)
   intro w3 iW eJ;obtain⟨b,hb⟩ : ∃ b,b=wr.heap.size+1:=⟨_,rfl⟩
   have IV:b=V.heap.size:=by rw[hb,mx.out.2]
   rw[<-IV] at ru;have xK:Mp Tryz.prog 3 w3 B (k+1) (q51 (fun c=>if c=x.id then b else nb c) (K0.take (k+1))):=by
    rw[dc.out];show Mp _ _ _ _ _ (q51 (fun c=>if c=x.cl.id then b else nb c) (K0.take k++[x.cl]));rw[qfn nb _ x.cl b];rw[<-hb] at iW;exact iW
   have Ip:B < b:=by omega
   have xL:Mp Tryz.prog 3 w3 b 0 (sgG (x.s.take 0)):=ru.kept eJ (fun e=>by cases e;omega);have xM:Below wr.heap.size wr (V.alloc (.map #[] 0)):=mx.out.1.alloc (by have:=mx.out.2;omega) _;have IW:=eJ.size;rw[World.size_alloc,mx.out.2] at IW;have aB:Below w.heap.size w w3:=(hB.trans (xM.mono cm)).grown eJ (by rw[World.size_alloc,mx.out.2];omega) (fun k e=>by cases e;omega);have CB:∀ y∈l.take k,w.heap.size<=nb y.id/\nb y.id≠B/\nb y.id < wr.heap.size/\Mp Tryz.prog 3 w3 (nb y.id) y.s.length (sgG y.s):=fun y hy=>by
    obtain⟨h1,h2,h3,h4⟩:=HE.out y hy;refine⟨h1,h2,h3,?_⟩;exact(h4.q8 xM).kept eJ (fun e=>by cases e;exact h2 rfl)
   have hid:∀ y∈l.take k,y.id≠x.id:=fun y hy e=>by
    have h1:(l.take (k+1)).Pairwise (fun p q:Ce=>p.id < q.id):=by
     have:=HA.out;unfold Asc at this;rw[List.pairwise_map] at this;exact this.sublist (List.take_sublist _ _)
    rw[HX.out.2,List.pairwise_append] at h1;have:=h1.2.2 y hy x (by simp);omega
   have b0:w3.cell? ⟨wr.heap.size,0,none⟩=some (.int .i64 x.id):=ql eJ (qk v0 _) (fun k e=>by cases e;show wr.heap.size≠B;omega);have b2:w3.cell? ⟨wr.heap.size,2,none⟩=some (.slice x.a x.n x.c):=ql eJ (qk v2 _) (fun k e=>by cases e;show wr.heap.size≠B;omega);have xN:=lhd (aiq CB hid);have EX:∀ U,Below w.heap.size w U->Sl U 2 (.slice x.a x.n x.c) (cat Sd.enc x.s):=fun U hU=>(HH.out.2 x HX.out.1).q8 hU
   obtain⟨sa,sn,sc,iA⟩ : ∃ sa sn sc,(sa,sn,sc)=(x.a,x.n,x.c):=⟨_,_,_,rfl⟩
   injection iA with hsd1 hsd2
   injection hsd2 with hsd2 hsd3
   rw[<-hsd1,<-hsd2,<-hsd3] at b2 EX;have iz:=EX w3 aB;have mj:=lhd EX;have aX:x.s.length=sn:=by
    obtain⟨_,_,h3,_⟩:=iz.open;rw[qt Sd.qp] at h3;omega
   have BO:sn<=maxLen:=by
    obtain⟨h1,h2,_⟩:=iz.open;omega
   unfold maxLen at BO;have xO:=lhd (aiq iz aX);have HR:=lhd (aiq hb IV);have Sk:b < w3.heap.size:=xL.lt;clear ru iW eJ Nd v0 v2 CB hid IV hsd1 hsd2 hsd3 iz aX EX xM d0 d1 d2 hb;have jQ:(q51 (fun c=>if c=x.id then b else nb c) (K0.take (k+1))) x.id=some (.map (some b)):=by
    unfold q51;have:jv (K0.take (k+1)) x.id=true:=by
     rw[dc.out];exact List.any_eq_true.2 ⟨x.cl,by simp,by show (x.cl.id == x.id)=true;simp[Ce.cl]⟩
    rw[this,if_pos rfl];show some (Value.map (some (if x.id=x.id then b else nb x.id)))=_;rw[if_pos rfl]
   obtain⟨G,hG⟩ : ∃ G,G=q51 (fun c=>if c=x.id then b else nb c) (K0.take (k+1)):=⟨_,rfl⟩
   rw[<-hG] at xK jQ;have Sm:=lhd jQ;clear jQ;obtain⟨bx,iX⟩ : ∃ bx,bx=wr.heap.size:=⟨_,rfl⟩
   rw[<-iX] at b0 b2 ⊢;have uC:=lhd (aiq hG iX);have Sn:B < bx/\bx < b:=by have:=HR.out.1;omega
   clear hG iX;go_wp2_with fail;clear b2;obtain⟨wo,db⟩ : ∃ wo,wo=wr:=⟨_,rfl⟩
   subst db;go_loopw [23] (fun j wj=>∃ jj:Nat,j = .int .i64 jj/\jj<=sn/\Mp Tryz.prog 3 wj b jj (sgG (x.s.take jj))/\Mp Tryz.prog 3 wj B (k+1) G/\wj.cell? ⟨bx,0,none⟩=some (.int .i64 x.id)/\Hid (∀ y∈l.take k,Mp Tryz.prog 3 wj (nb y.id) y.s.length (sgG y.s))/\Below w.heap.size w wj/\Below bx w3 wj/\w3.heap.size<=wj.heap.size) (fun j _=>sn - (vI j).toNat)
   case atStart=>exact⟨0,rfl,gp _,xL,xK,b0,(show Hid _ from fun y hy=>(xN.out.1 y hy).2.2.2),aB,Below.refl _ _,nlr _⟩
   case round =>
    clear xL xK b0;obtain⟨jj,rfl,Sp,Ar,CC,c0,HY,lE,IX,We⟩:=hrel;by_cases dP:jj < sn
    ·obtain⟨t,ht⟩ : ∃ t,x.s[jj]? = some t:=⟨_,g8 (by rw[xO.out.2];exact dP)⟩
     obtain⟨_,_,_,h5,h6⟩:=(mj.out wr lE).open;obtain⟨sd,rfl⟩ : ∃ sd,sa=some sd:=by
      cases sa with
      | none=>have:=h5 rfl;omega
      | some sd=>exact⟨sd,rfl⟩
     obtain⟨e0,e1⟩:=zw x.s jj t ht;have g0:wr.cell? (sd.add (jj*2))=some (.int .i64 t.c):=h6 sd rfl _ _ e0;have g1:wr.cell? ⟨(sd.add (jj*2)).block,(sd.add (jj*2)).off+1,none⟩=some (.int .i64 t.g):=by rw[qi _ _ _ (by omega)];exact h6 sd rfl _ _ e1
     have Nf:=(iY.out x HX.out.1).2.2 t (gd ht);have E6:=yx Nf.1;have Cm:=yx (iY.out x HX.out.1).1.1;obtain⟨U,hU⟩ : ∃ U:World,U=wr.alloc (.cells #[.int .i64 t.c,.int .i64 t.g] 108):=⟨_,rfl⟩
     have cW:Below wr.heap.size wr U:=by rw[hU];exact(Below.refl _ wr).alloc (nlr _) _
     have Sq:U.heap.size=wr.heap.size+1:=by rw[hU];simp
     have dd:(Instr.lookup 121 (.map (some B)) (.int .i64 x.id) false).run Tryz.prog U = .ok (.map (some b)) U:=by
      have:=(CC.q8 cW).look Tryz.underlying3 Tryz.underlying121 (qau U) Cm;rw[this,Sm.out];rfl
     rw[hU] at dd;have Wf:(wr.alloc (.cells #[.int .i64 t.c,.int .i64 t.g] 108)).cell? ⟨bx,0,none⟩=some (.int .i64 x.id):=qk c0 _;have Sr:=Ar.q8 cW;have mU:jj < maxLen:=by unfold maxLen;omega
     have HJ:=lhd (aiq ht (aiq cW (aiq CC Sq)));have xP:b < wr.heap.size:=Ar.lt;clear h5 h6 e0 e1 ht Ar CC Nf;go_wp2_with (first
      |(at_mapUpdate;rw[<-hU];clear hU;refine q1z rfl _ _ _ 122 rfl Sr Tryz.underlying3 Tryz.underlying122 mU t.c _ rfl rfl rfl E6 ?_)
      | fail)
     intro w5 ri ed;have aT:Below w.heap.size w w5:=(lE.trans (HJ.out.2.1.mono lE.size)).grown ed (by have:=lE.size;rw[HJ.out.2.2.2];omega) (fun k e=>by cases e;omega);have IY:Below bx w3 w5:=(IX.trans (HJ.out.2.1.mono (by omega))).grown ed (by rw[HJ.out.2.2.2];omega) (fun k e=>by cases e;omega);have zT:=ed.size;rw[HJ.out.2.2.2] at zT;have IZ:Mp Tryz.prog 3 w5 b (jj+1) (sgG (x.s.take (jj+1))):=by
      rw[gq,HJ.out.1];show Mp _ _ _ _ _ (sgG (x.s.take jj++[t]));rw[qig];exact ri
     have Ja:Mp Tryz.prog 3 w5 B (k+1) G:=(HJ.out.2.2.1.q8 HJ.out.2.1).kept ed (fun e=>by cases e;omega);have Ss:w5.cell? ⟨bx,0,none⟩=some (.int .i64 x.id):=ql ed (Cx.q8 HJ.out.2.1 c0) (fun k e=>by cases e;show bx≠b;omega);have Su:Hid (∀ y∈l.take k,Mp Tryz.prog 3 w5 (nb y.id) y.s.length (sgG y.s)):=fun y hy=>((HY.out y hy).q8 HJ.out.2.1).kept ed (fun e=>by have:=(xN.out.1 y hy).2.2.1;cases e;have:=HR.out.1;omega)
     clear ri ed;go_wp2_with fail;go_roundw
     case measure=>simp[vI];omega
     case rel=>exact⟨jj+1,qh (by omega),by omega,IZ,Ja,Ss,Su,aT,IY,by omega⟩
    ·have cX:jj=sn:=by omega
     have da:Mp Tryz.prog 3 wr b x.s.length (sgG x.s):=by
      rw[cX,ge (by rw[xO.out.2];exact nlr _)] at Ar;rw[xO.out.2];exact Ar
     have aJ:=lhd (aiq da (aiq CC lE));clear cX da Ar CC;go_wp2_with fail;go_roundw
     case measure=>simp[vI];omega
     case rel =>
      refine⟨k+1,fun c=>if c=x.id then b else nb c,qh (by omega),by omega,?_,(show Hid _ from fun y hy=>?_),aJ.out.2.2⟩
      ·rw[<-uC.out.1];exact aJ.out.2.1
      ·rw[HX.out.2] at hy;rcases gF.1 hy with hy | hy
       ·obtain⟨h1,h2,h3,_⟩:=xN.out.1 y hy;show w.heap.size<=(if y.id=x.id then b else nb y.id)/\(if y.id=x.id then b else nb y.id)≠B/\(if y.id=x.id then b else nb y.id) < wr.heap.size/\Mp _ _ _ (if y.id=x.id then b else nb y.id) _ _;rw[if_neg (xN.out.2 y hy)];exact⟨h1,h2,by omega,HY.out y hy⟩
       ·rw[List.mem_singleton.1 hy];show w.heap.size<=(if x.id=x.id then b else nb x.id)/\(if x.id=x.id then b else nb x.id)≠B/\(if x.id=x.id then b else nb x.id) < wr.heap.size/\Mp _ _ _ (if x.id=x.id then b else nb x.id) _ _;rw[if_pos rfl];exact⟨by omega,by omega,aJ.out.1.lt,aJ.out.1⟩
  ·have bJ:k=len:=by omega
   have Gi:l.take k=l:=ge (by rw[HL.out];omega);have Ng:K0.take k=K0:=ge (by rw[sL.out,gm,HL.out];omega);rw[Ng] at dt;have Nh:k=K0.length:=by rw[sL.out,gm,HL.out];exact bJ
   have HT:=lhd (aiq Gi (aiq dt Nh));clear bJ Gi Ng dt Nh;go_wp2;go_ret;refine⟨B,nb,rfl,by omega,fun x hx=>?_,⟨?_,fun y hy=>?_⟩,hB⟩
   ·have:=HE.out x (by rw[HT.out.1];exact hx);exact⟨this.1,this.2.1⟩
   ·have:=HT.out.2.1;rw[HT.out.2.2] at this;exact this
   ·rw[sL.out] at hy;obtain⟨x,hx,rfl⟩:=go.1 hy;exact(HE.out x (by rw[HT.out.1];exact hx)).2.2.2
theorem MpI.alloc {w:World} {b n:Nat} {h:Int->Int} (m:MpI w b n h) (o:Obj):MpI (w.alloc o) b n h:=m.q8 ((Below.refl _ w).alloc (nlr _) o)
theorem q41 {w w':World} {v:Value} {l:List Ce} (h:SlC w v l) (hb:Below w.heap.size w w'):SlC w' v l:=⟨h.1.q8 hb,fun x hx=>(h.2 x hx).q8 hb⟩
theorem Sds.q8 {w w':World} {B:Nat} {nb:Int->Nat} {K:List Cl} (h:Sds w B nb K) (hb:Below w.heap.size w w'):Sds w' B nb K:=⟨h.top.q8 hb,fun x hx=>(h.each x hx).q8 hb⟩
theorem q2t {w W:World} {a:Option Addr} {len cap:Nat} {l:List Ce} (hw:SlC w (.slice a len cap) l) (hb:Below w.heap.size w W) {BS BH BL:Nat} {nb:Int->Nat} (hS:Sds W BS nb (l.map Ce.cl)) (h1:MpI W BH 0 (fun _=>0)) (h2:MpI W BL 0 (fun _=>0))
  (b0:w.heap.size<=BS) (b1:w.heap.size<=BH) (b2:w.heap.size<=BL) (n1:BS≠BH) (n2:BS≠BL) (n3:BH≠BL) (n4:∀ x∈l,nb x.id≠BH/\nb x.id≠BL) (t:TypeId) (T:Nat) (hT:T=W.heap.size) (W':World) (lF:W'=W.alloc (.cells #[.slice a len cap,.map (some BS),.map (some BH),.map (some BL)] t)) :
  Fld W' T BS BH BL nb a len cap l/\MpI W' BH 0 (fun _=>0)/\MpI W' BL 0 (fun _=>0)/\w.heap.size<=T/\w.heap.size<=BS/\w.heap.size<=BH/\w.heap.size<=BL/\Below w.heap.size w W':=by
 subst hT;have hk:Below W.heap.size W W':=by rw[lF];exact(Below.refl _ W).alloc (nlr _) _
 have l1:=h1.lt;have l2:=h2.lt;refine⟨⟨⟨by omega,by omega,n1,n2,n3⟩,?_,?_,?_,?_,q41 (q41 hw hb) hk,⟨fun ad e ak=>?_,fun x hx ad e ak=>?_⟩,Sds.q8 hS hk,n4⟩,h1.q8 hk,h2.q8 hk,hb.size,b0,b1,b2,hb.trans (hk.mono hb.size)⟩
 ·rw[lF];exact qd W _ _ (0,0) 0
 ·rw[lF];exact qd W _ _ (0,0) 1
 ·rw[lF];exact qd W _ _ (0,0) 2
 ·rw[lF];exact qd W _ _ (0,0) 3
 ·have:=qe6 hw.1 (by rw[e]) ak;exact⟨by omega,by omega⟩
 ·have:=qe6 (hw.2 x hx) (by unfold Ce.sl;rw[e]) ak;exact⟨by omega,by omega⟩
theorem qp9 (a:Option Addr) (len cap:Nat) (l:List Ce) (w:World) (h:SlC w (.slice a len cap) l) (hok:COk l) (hA:Asc (l.map Ce.cl)) :
  Calls Tryz.prog 151 #[.agg #[.slice a len cap]] w fun e w'=>∃ T BS BH BL nb,e = .returned (.pointer (some ⟨T,0,none⟩))/\Fld w' T BS BH BL nb a len cap l/\MpI w' BH 0 (fun _=>0)/\MpI w' BL 0 (fun _=>0)/\w.heap.size<=T/\w.heap.size<=BS/\w.heap.size<=BH/\w.heap.size<=BL/\Below w.heap.size w w':=by
 have cC:=@run_makeMap Tryz.prog;have mixed:Tryz.prog.follows .mixedOrders=true:=by kernel_rfl
 have HH:=lhd (aiq h (aiq hok hA));have tok:Hid True:=trivial;clear h hok hA;go_enter Tryz.func151,Tryz.ntmps151;go_upto_region 1 with fail;obtain⟨W0,ig⟩ : ∃ W0,W0=w.alloc (.cells #[.slice a len cap] 26):=⟨_,rfl⟩
 have c0:W0.cell? ⟨w.heap.size,0,none⟩=some (.slice a len cap):=by rw[ig];exact qd w #[.slice a len cap] 26 (0,0) 0
 have hB:Below w.heap.size w W0:=by rw[ig];exact(Below.refl _ w).alloc (nlr _) _
 have bL:w.heap.size < W0.heap.size:=by rw[ig];simp
 rw[<-ig];clear ig;have aX:∀ W,Below W0.heap.size W0 W->SlC W (.slice a len cap) l:=fun W hW=>q41 (q41 HH.out.1 hB) hW
 have rQ:Below W0.heap.size W0 W0.drew:=qb (Below.refl _ _) 1;have bZ:∀ o,Below W0.heap.size W0 (W0.alloc o).drew:=fun o=>qb ((Below.refl _ W0).alloc (nlr _) o) 1
 have bQ:∀ o o',Below W0.heap.size W0 ((W0.alloc o).alloc o').drew:=fun o o'=>qb (((Below.refl _ W0).alloc (nlr _) o).alloc (by simp) o') 1
 go_region_held3 (fun w'=>w'.cell? ⟨w.heap.size,0,none⟩=some (.slice a len cap))
  (first | assumption | exact qk (by assumption) _ | exact qk (qk (by assumption) _) _ | exact qk (qk (qk (by assumption) _) _) _ | fail)
  (first | (go_at_call 180;have _t:=tok;refine(qlb _ l _ (aX _ (by first | exact rQ | exact bZ _ | exact bQ _ _)) HH.out.2.1 HH.out.2.2).mono ?_;rintro e w1 ⟨BS,nb,rfl,h1,h2,h3,ai⟩;have al:Below W0.heap.size W0 w1:=(by first | exact rQ.trans (ai.mono rQ.size) | exact(bZ _).trans (ai.mono (bZ _).size) | exact(bQ _ _).trans (ai.mono (bQ _ _).size));have c1:w1.cell? ⟨w.heap.size,0,none⟩=some (.slice a len cap):=Cx.q8 al c0;clear _t tok))
 all_goals
  go_wp2;go_ret;have aL:=hB.trans (al.mono (Nat.le_of_lt bL));have bT:=al.size;have Sv:BS < w1.heap.size:=h3.top.lt;have uy:∀ x∈l,nb x.id < w1.heap.size:=fun x hx=>(h3.each x.cl (gE hx)).lt
 ·have g1:W0.heap.size<=BS:=h1;have hk:=((Below.refl w1.heap.size w1).alloc (nlr _) (.map #[] 0)).alloc (by simp) (.map #[] 0);have m2:=MpI.made (w1.alloc (.map #[] 0));rw[World.size_alloc] at m2;exact⟨w1.heap.size+1+1,BS,w1.heap.size,w1.heap.size+1,nb,rfl,q2t HH.out.1 (aL.trans (hk.mono aL.size)) (Sds.q8 h3 hk) (MpI.alloc (MpI.made w1) _) m2 (by omega) (by omega) (by omega) (by omega) (by omega) (by omega) (fun x hx=>by have:=uy x hx;omega) _ _ (by simp) _ rfl⟩
 ·have g1:W0.heap.size<=BS:=h1;have hk:=((Below.refl w1.heap.size w1).alloc (nlr _) (.map #[] 0)).alloc (by simp) (.map #[] 0);have m2:=MpI.made (w1.alloc (.map #[] 0));rw[World.size_alloc] at m2;exact⟨w1.heap.size+1+1,BS,w1.heap.size+1,w1.heap.size,nb,rfl,q2t HH.out.1 (aL.trans (hk.mono aL.size)) (Sds.q8 h3 hk) m2 (MpI.alloc (MpI.made w1) _) (by omega) (by omega) (by omega) (by omega) (by omega) (by omega) (fun x hx=>by have:=uy x hx;omega) _ _ (by simp) _ rfl⟩
 ·have g1:(W0.alloc (.map #[] 0)).heap.size<=BS:=h1;have g2:∀ x∈l,(W0.alloc (.map #[] 0)).heap.size<=nb x.id/\nb x.id≠BS:=h2;simp only [World.size_alloc] at g1 g2;have hk:=(Below.refl w1.heap.size w1).alloc (nlr _) (.map #[] 0);have m1:MpI (W0.alloc (.map #[] 0)).drew W0.heap.size 0 (fun _=>0):=MpI.made W0;exact⟨w1.heap.size+1,BS,W0.heap.size,w1.heap.size,nb,rfl,q2t HH.out.1 (aL.trans (hk.mono aL.size)) (Sds.q8 h3 hk) (MpI.alloc (m1.q8 ai) _) (MpI.made w1) (by omega) (by omega) (by omega) (by omega) (by omega) (by have:=(m1.q8 ai).lt;omega) (fun x hx=>by have:=uy x hx;have:=(g2 x hx).1;omega) _ _ (by simp) _ rfl⟩
 ·have g1:((W0.alloc (.map #[] 0)).alloc (.map #[] 0)).heap.size<=BS:=h1;have g2:∀ x∈l,((W0.alloc (.map #[] 0)).alloc (.map #[] 0)).heap.size<=nb x.id/\nb x.id≠BS:=h2;simp only [World.size_alloc] at g1 g2;have m1:MpI ((W0.alloc (.map #[] 0)).alloc (.map #[] 0)).drew W0.heap.size 0 (fun _=>0):=MpI.alloc (MpI.made W0) _;have m2:=MpI.made (w:=W0.alloc (.map #[] 0));rw[World.size_alloc] at m2;have oG:MpI ((W0.alloc (.map #[] 0)).alloc (.map #[] 0)).drew (W0.heap.size+1) 0 (fun _=>0):=m2;exact⟨w1.heap.size,BS,W0.heap.size,W0.heap.size+1,nb,rfl,q2t HH.out.1 aL h3 (m1.q8 ai) (oG.q8 ai) (by omega) (by omega) (by omega) (by omega) (by omega) (by omega) (fun x hx=>by have:=(g2 x hx).1;omega) _ _ rfl _ rfl⟩
 ·have g1:(W0.alloc (.map #[] 0)).heap.size<=BS:=h1;have g2:∀ x∈l,(W0.alloc (.map #[] 0)).heap.size<=nb x.id/\nb x.id≠BS:=h2;simp only [World.size_alloc] at g1 g2;have hk:=(Below.refl w1.heap.size w1).alloc (nlr _) (.map #[] 0);have m1:MpI (W0.alloc (.map #[] 0)).drew W0.heap.size 0 (fun _=>0):=MpI.made W0;exact⟨w1.heap.size+1,BS,w1.heap.size,W0.heap.size,nb,rfl,q2t HH.out.1 (aL.trans (hk.mono aL.size)) (Sds.q8 h3 hk) (MpI.made w1) (MpI.alloc (m1.q8 ai) _) (by omega) (by omega) (by omega) (by omega) (by omega) (by have:=(m1.q8 ai).lt;omega) (fun x hx=>by have:=uy x hx;have:=(g2 x hx).1;omega) _ _ (by simp) _ rfl⟩
 ·have g1:((W0.alloc (.map #[] 0)).alloc (.map #[] 0)).heap.size<=BS:=h1;have g2:∀ x∈l,((W0.alloc (.map #[] 0)).alloc (.map #[] 0)).heap.size<=nb x.id/\nb x.id≠BS:=h2;simp only [World.size_alloc] at g1 g2;have m1:MpI ((W0.alloc (.map #[] 0)).alloc (.map #[] 0)).drew W0.heap.size 0 (fun _=>0):=MpI.alloc (MpI.made W0) _;have m2:=MpI.made (w:=W0.alloc (.map #[] 0));rw[World.size_alloc] at m2;have oG:MpI ((W0.alloc (.map #[] 0)).alloc (.map #[] 0)).drew (W0.heap.size+1) 0 (fun _=>0):=m2;exact⟨w1.heap.size,BS,W0.heap.size+1,W0.heap.size,nb,rfl,q2t HH.out.1 aL h3 (oG.q8 ai) (m1.q8 ai) (by omega) (by omega) (by omega) (by omega) (by omega) (by omega) (fun x hx=>by have:=(g2 x hx).1;omega) _ _ rfl _ rfl⟩
end Go.Proofs.YtlhicnfeajejhaaGreatDoor
namespace Go.Cx
open Go.RowKit
section
variable {w:World} {base e st g n cap:Nat} {xs:List Value}
theorem q93 (h:w.ownsRow base e st (.slice (some ⟨g,0,none⟩) n cap) n xs) {i:Nat} (hi:i<=n):w.ownsRow base e st (.slice (some ⟨g,0,none⟩) i cap) i (xs.take (i*st)):=by
 obtain⟨h1,h2⟩:=h;refine⟨by rw[gh,h1];exact bB (bw _ hi),?_⟩;rcases h2 with ⟨h0,_⟩ | ⟨g',bE,cur,hv,hg,hb,k1,k2,k3,k4⟩
 ·cases h0
 ·cases hv
  refine .inr ⟨g,cap,cur,rfl,hg,hb,by omega,k2,k3,?_⟩;rw[<-k4,List.take_take,bB (bw _ hi)]
theorem ku:∀ (vs:List Value) (o:Nat) {w:World} {xs:List Value},w.ownsRow base e st (.slice (some ⟨g,0,none⟩) n cap) n xs->(∃ ys,(w.setCells g o vs).ownsRow base e st (.slice (some ⟨g,0,none⟩) n cap) n ys/\ys.take o=xs.take o)/\Gs (fun b=>b=g) w (w.setCells g o vs)
 | [],o,w,xs,h=>⟨⟨xs,h,rfl⟩,Gs.refl _ _⟩
 | v :: vs,o,w,xs,h=>by
  obtain⟨h1,h2⟩:=h.stored o v;obtain⟨⟨ys,h3,h4⟩,h5⟩:=ku vs (o+1) h1;refine⟨⟨ys,h3,?_⟩,(Gs.q6i h2 (fun k e=>by cases e;exact .inr rfl)).trans h5⟩;have h6:=congrArg (List.take o) h4;rw[List.take_take,List.take_take,bB (by omega)] at h6;rw[h6,List.take_set_of_le (nlr _)]
end
theorem qo2 (X:List Tm) (i:Nat) (t:Tm) (h:i < X.length):(((tv X).set (i*3) (.int .i64 t.c)).set (i*3+1) (.bool t.n)).set (i*3+2) (.string t.m)=tv (X.set i t):=by
 induction X generalizing i with
 | nil=>simp at h
 | cons u X ih =>
  cases i with
  | zero=>simp[ko]
  | succ i =>
   have:=ih i (by simpa using h);rw[ko,List.set_cons_succ,ko,<-this];rw[show (i+1)*3=i*3+1+1+1 by omega,show i*3+1+1+1+1=(i*3+1)+1+1+1 by omega,show i*3+1+1+1+2=(i*3+2)+1+1+1 by omega];simp
structure Sft {α:Type} (f:α->Bool) (L X:List α) (i j:Nat):Prop where
 len:X.length=L.length
 lt:i < j
 low:X.take i=(L.take j).filter fun t=>!f t
 high:X.drop j=L.drop j
theorem Sft.start {α:Type} {f:α->Bool} {L:List α} {k:Nat} {t:α} (hk:L[k]? = some t) (ht:f t=true) (hb:∀ u∈L.take k,f u=false):Sft f L L k (k+1) where
 len:=rfl
 lt:=Nat.lt_succ_self k
 low:=by
  rw[gq,hk,bm,List.filter_eq_self.2 (fun u hu=>by rw[hb u hu];rfl)];simp[ht]
 high:=rfl
theorem Sft.get {α:Type} {f:α->Bool} {L X:List α} {i j:Nat} (h:Sft f L X i j):X[j]? = L[j]?:=by
 have:=congrArg (fun l=>l[0]?) h.high;simpa using this
theorem Sft.skip {α:Type} {f:α->Bool} {L X:List α} {i j:Nat} {t:α} (h:Sft f L X i j) (hj:L[j]? = some t) (ht:f t=true):Sft f L X i (j+1) where
 len:=h.len
 lt:=Nat.lt_succ_of_lt h.lt
 low:=by rw[gq,hj,bm,h.low];simp[ht]
 high:=by rw[<-List.drop_drop,<-List.drop_drop,h.high]
theorem Sft.put {α:Type} {f:α->Bool} {L X:List α} {i j:Nat} {t:α} (h:Sft f L X i j) (hj:L[j]? = some t) (ht:f t=false):Sft f L (X.set i t) (i+1) (j+1) where
 len:=by rw[List.length_set];exact h.len
 lt:=Nat.succ_lt_succ h.lt
 low:=by
  have hl:=h.lt;have dP:=(gc.1 hj).1;have fO:i < X.length:=by rw[h.len];omega
  rw[gq,List.getElem?_set_self fO,List.take_set_of_le (nlr _),h.low,gq,hj,bm];simp[ht]
 high:=by
  have hl:=h.lt;rw[List.drop_set_of_lt (by omega),<-List.drop_drop,<-List.drop_drop,h.high]
end Go.Cx
namespace Go.Proofs.YtlhicnfeajejhaaGreatDoor
open Go.RowKit Go.Cx
attribute [local go_sem ↓] Go.wp_at_zero Go.wp_at_succ
theorem q6k (l:List Int) (k:Nat):(ints l).take k=ints (l.take k):=by simp[ints,List.map_take]
theorem qik (w:World):(zeroValue 71).run Tryz.prog w = .ok (.agg #[.int .i64 0,.bool false,.string ⟨#[]⟩]) w:=Tryz.zeroValue71 w
theorem qe9 (W:World) (g i n c:Nat) (hn:0 < n) (hc:∀ j,j < n->(W.cell? ⟨g,i+j,none⟩).isSome=true) (hf:∀ j,j < n->W.frozen? ⟨g,i+j,none⟩=false) :
  ∃ zs,∀ ty,(Builtin.clear_ #[22] ty #[.slice (some ⟨g,i,none⟩) n c]).run Tryz.prog W = .ok (.tuple #[]) (W.setCells g i zs) :=
 ⟨_,fun ty=>Lib.run_clear_slice W _ _ ty _ Tryz.underlying22 (fun w=>q40 w) rfl rfl g i n c hn hc hf⟩
theorem qlc (W:World) (g i n c:Nat) (hn:0 < n) (hc:∀ j,j < n*3->(W.cell? ⟨g,i+j,none⟩).isSome=true) (hf:∀ j,j < n*3->W.frozen? ⟨g,i+j,none⟩=false) :
  ∃ zs,∀ ty,(Builtin.clear_ #[32] ty #[.slice (some ⟨g,i,none⟩) n c]).run Tryz.prog W = .ok (.tuple #[]) (W.setCells g i zs):=by
 obtain⟨m,rfl⟩ : ∃ m,n=m+1:=⟨n - 1,by omega⟩
 have hl:(Builtin.zeroCells #[.int .i64 0,.bool false,.string ⟨#[]⟩] (m+1)).toList.length=(m+1)*3:=by simp[Builtin.zeroCells]
 have h1:∀ v∈(Builtin.zeroCells #[.int .i64 0,.bool false,.string ⟨#[]⟩] (m+1)).toList,v.oneCell'=true:=fun v hv=>by
  obtain⟨i,hi,rfl⟩:=List.getElem_of_mem hv;have h3:i % 3=0\/i % 3=1\/i % 3=2:=by omega
  rcases h3 with h | h | h <;> simp[Builtin.zeroCells,h] <;> rfl
 have aS:=run_storeCells_cells (P:=Tryz.prog) g i (Builtin.zeroCells #[.int .i64 0,.bool false,.string ⟨#[]⟩] (m+1)).toList 0 W (by rw[hl];simpa using hc) (by rw[hl];simpa using hf) h1;simp only [Nat.add_zero] at aS;have hz:=qik W;refine⟨(Builtin.zeroCells #[.int .i64 0,.bool false,.string ⟨#[]⟩] (m+1)).toList,fun ty=>?_⟩;have wi:(Value.agg #[.int .i64 0,.bool false,.string ⟨#[]⟩]).cells=#[.int .i64 0,.bool false,.string ⟨#[]⟩]:=by simp[Value.cells]
 simp[Builtin.clear_,run_underlying Tryz.underlying32,hz,wi,aS,Result.andThen]
theorem qq3 (base:Nat) (v:Value) (L:List Int) (g:Nat) (cb:Array Value) (f:Int->Bool) (w:World) (h:w.ownsRow base 3 1 v L.length (ints L)) (hlen:L.length<=1099511627776)
  (eg:∀ args w,(callFunc g args).run Tryz.prog w = .ok (.enter g args) w) (hf:∀ W,Gs (fun b=>v.ownBlock=some b) w W->∀ t∈L,Calls Tryz.prog g (#[.int .i64 t]++cb) W fun e w'=>e = .returned (.bool (f t))/\Below W.heap.size W w') :
  Calls Tryz.prog 160 #[v,.func (.func g) #[] cb] w fun e w'=>∃ r,e = .returned r/\w'.ownsRow base 3 1 r (L.filter fun t=>!f t).length (ints (L.filter fun t=>!f t))/\Gs (fun b=>v.ownBlock=some b) w w':=by
 have fu:=qo0 v L g cb f w (Sl.qc h) eg (fun W hW t ht=>hf W (Gs.xh hW) t ht);have HI:=lhd fu;have HF:=lhd hf;have HR:=lhd h;obtain⟨a,cap,rfl⟩:=qj h;obtain⟨len,hl⟩ : ∃ len,len=L.length:=⟨_,rfl⟩
 rw[<-hl] at HI HF HR hlen ⊢;have HL:=lhd hl;clear fu hf h hl;go_enter Tryz.func160,Tryz.ntmps160;go_wp2_with fail;refine HI.out.mono ?_;rintro e w1 ⟨i0,rfl,hi0,ai⟩;have aN:=lhd ai;rcases hi0 with ⟨rfl,aH⟩ | ⟨k,t0,rfl,hk,ht,fw⟩
 ·have HA:=lhd aH;clear aH ai;go_wp2_with fail;go_ret;have he:(L.filter fun t=>!f t)=L:=List.filter_eq_self.2 fun u hu=>by rw[HA.out u hu];rfl
  rw[he,<-HL.out];exact⟨_,rfl,qa HR.out aN.out,Gs.xh aN.out⟩
 ·have aR:k < len:=by rw[HL.out];exact(gc.1 hk).1
  obtain⟨b,cy⟩ : ∃ b,a=some ⟨b,0,none⟩:=by
   rcases HR.out.2 with ⟨h0,_⟩ | ⟨b,c',cur,he,_⟩
   ·cases h0;omega
   ·exact⟨b,by cases he;rfl⟩
  subst cy;have dR:=Sft.start (f:=f) hk ht fw;have oz:((k:Int) == -1)=false:=by simp
  have CD:=lhd dR;have dD:len<=cap/\cap<=maxLen:=by
   obtain⟨h1,h2,_⟩:=(Sl.qc HR.out).open;exact⟨h1,h2⟩
  obtain⟨uD,jR⟩:=dD;unfold maxLen at jR;have fj:=qa HR.out aN.out;have bV:=lhd fj;clear hk ht fw ai dR fj;go_wp2_with fail;go_loopw [5,6] (fun x5 x6 wr=>∃ (i j:Nat) (X:List Int),x5 = .int .i64 i/\x6 = .int .i64 j/\j<=len/\i < j/\Hid (Sft f L X i j)/\Hid (wr.ownsRow base 3 1 (.slice (some ⟨b,0,none⟩) len cap) len (ints X))/\Gs (fun c=>c=b) w wr) (fun _ x6 _=>len - (vI x6).toNat)
  case atStart=>exact⟨k,k+1,L,rfl,qh (by omega),by omega,by omega,CD.out,bV.out,Gs.xh aN.out⟩
  case round =>
   obtain⟨i,j,X,rfl,rfl,hj,dS,HS,HX,hG⟩:=hrel;have my:Gs (fun c=>(Value.slice (some ⟨b,0,none⟩) len cap).ownBlock=some c) w wr:=hG.mono fun c _ hc=>by rw[hc];rfl
   by_cases hlt:j < len
   ·obtain⟨t,ht⟩ : ∃ t,L[j]? = some t:=⟨_,g8 (by rw[<-HL.out];exact hlt)⟩
    have uE:X[j]? = some t:=HS.out.get.trans ht;obtain⟨u,hu⟩ : ∃ u,X[i]? = some u:=⟨_,g8 (by rw[HS.out.len,<-HL.out];omega)⟩
    have aA:=fun q=>(HX.out.cellAt q)
    have cu:=HX.out.frozenAt;have e0:(ints X)[j]? = some (.int .i64 t):=by simp[ints,uE]
    have d0:wr.cell? ⟨b,j,none⟩=some (.int .i64 t):=by rw[aA _ (by omega),e0]
    have o0:(ints X)[i]? = some (.int .i64 u):=by simp[ints,hu]
    have p0:wr.cell? ⟨b,i,none⟩=some (.int .i64 u):=by rw[aA _ (by omega),o0]
    clear e0 o0;have ae:=HF.out wr my t (gd ht);have HC:=lhd ae;have HT:=lhd ht;have Ni:=lhd my;clear ae ht uE hu aA cu my;cases hft:f t with
    | true =>
     have dL:=lhd hft;rw[hft] at HC;clear hft;go_wp2_with fail;refine HC.out.mono ?_;rintro e w2 ⟨rfl,ag⟩;have cm:Below wr.heap.size wr w2:=ag;have cJ:Gs (fun c=>c=b) w w2:=hG.then (S':=fun _=>False) (Gs.xh cm) (fun _ h=>h.elim);have dU:Hid (w2.ownsRow base 3 1 (.slice (some ⟨b,0,none⟩) len cap) len (ints X)):=qa HX.out cm;clear ag cm;go_wp2_with fail;go_roundw
     case measure=>simp[vI];omega
     case rel=>exact⟨i,j+1,X,rfl,qh (by omega),by omega,by omega,HS.out.skip HT.out dL.out,dU,cJ⟩
    | false =>
     have dL:=lhd hft;rw[hft] at HC;clear hft;go_wp2_with fail;refine HC.out.mono ?_;rintro e w2 ⟨rfl,ag⟩;have cm:Below wr.heap.size wr w2:=ag;have cJ:Gs (fun c=>c=b) w w2:=hG.then (S':=fun _=>False) (Gs.xh cm) (fun _ h=>h.elim);have dU:Hid (w2.ownsRow base 3 1 (.slice (some ⟨b,0,none⟩) len cap) len (ints X)):=qa HX.out cm;have f0:=dU.out.frozenAt i
     replace p0:=Cx.q8 cm p0
     clear ag cm;go_wp2_with fail;go_roundw
     case measure=>simp[vI];omega
     case rel=>exact⟨i+1,j+1,X.set i t,qh (by omega),qh (by omega),by omega,by omega,HS.out.put HT.out dL.out,by have:=(dU.out.stored i (.int .i64 t)).1;rw[show (ints X).set i (.int .i64 t)=ints (X.set i t) from by simp[ints,List.map_set]] at this;exact this,cJ.grown (dU.out.stored i (.int .i64 t)).2 (fun k e=>by cases e;exact .inr rfl)⟩
   ·have cX:j=len:=by omega
    have aA:=fun q=>(HX.out.cellAt q)
    have cu:=HX.out.frozenAt;have dx:=HX.out.1;obtain⟨zs,na⟩:=qe9 wr b (i) (len - i) (cap - i) (by omega) (fun q hq=>by rw[aA _ (by omega),g8 (by rw[dx];omega)];rfl) (fun q hq=>cu _);have ak:¬ cap=i:=by omega
    have HJ:=lhd cX;have HZ:=lhd (ku zs (i) HX.out);have fO:(i:Int)<=(len:Int):=by omega
    have hi0:(0:Int)<=(i:Int):=by omega
    clear aA cu dx cX my;go_wp2_with fail;go_ret;obtain⟨⟨ys,hy,pL⟩,lf⟩:=HZ.out;have fx:=HS.out.low;rw[HJ.out,HL.out,List.take_length] at fx;have oT:(L.filter fun t=>!f t).length=i:=by rw[<-fx,gh,HS.out.len,<-HL.out];omega
    refine⟨_,rfl,?_,(hG.trans lf).mono fun c _ hc=>by rw[hc];rfl⟩;have au:=q93 hy (i:=i) (by omega);rw[gK,pL,q6k,fx] at au;rw[oT];exact au
theorem qil (base:Nat) (v:Value) (L:List Tm) (g:Nat) (cb:Array Value) (f:Tm->Bool) (w:World) (h:w.ownsRow base 71 3 v L.length (tv L)) (hlen:L.length<=1099511627776)
  (eg:∀ args w,(callFunc g args).run Tryz.prog w = .ok (.enter g args) w) (hf:∀ W,Gs (fun b=>v.ownBlock=some b) w W->∀ t∈L,Calls Tryz.prog g (#[Tm.v t]++cb) W fun e w'=>e = .returned (.bool (f t))/\Below W.heap.size W w') :
  Calls Tryz.prog 163 #[v,.func (.func g) #[] cb] w fun e w'=>∃ r,e = .returned r/\w'.ownsRow base 71 3 r (L.filter fun t=>!f t).length (tv (L.filter fun t=>!f t))/\Gs (fun b=>v.ownBlock=some b) w w':=by
 have fu:=qii v L g cb f w (Sl.qc h) eg (fun W hW t ht=>hf W (Gs.xh hW) t ht);have HI:=lhd fu;have HF:=lhd hf;have HR:=lhd h;obtain⟨a,cap,rfl⟩:=qj h;obtain⟨len,hl⟩ : ∃ len,len=L.length:=⟨_,rfl⟩
 rw[<-hl] at HI HF HR hlen ⊢;have HL:=lhd hl;clear fu hf h hl;go_enter Tryz.func163,Tryz.ntmps163;go_wp2_with fail;refine HI.out.mono ?_;rintro e w1 ⟨i0,rfl,hi0,ai⟩;have aN:=lhd ai;rcases hi0 with ⟨rfl,aH⟩ | ⟨k,t0,rfl,hk,ht,fw⟩
 ·have HA:=lhd aH;clear aH ai;go_wp2_with fail;go_ret;have he:(L.filter fun t=>!f t)=L:=List.filter_eq_self.2 fun u hu=>by rw[HA.out u hu];rfl
  rw[he,<-HL.out];exact⟨_,rfl,qa HR.out aN.out,Gs.xh aN.out⟩
 ·have aR:k < len:=by rw[HL.out];exact(gc.1 hk).1
  obtain⟨b,cy⟩ : ∃ b,a=some ⟨b,0,none⟩:=by
   rcases HR.out.2 with ⟨h0,_⟩ | ⟨b,c',cur,he,_⟩
   ·cases h0;omega
   ·exact⟨b,by cases he;rfl⟩
  subst cy;have dR:=Sft.start (f:=f) hk ht fw;have oz:((k:Int) == -1)=false:=by simp
  have CD:=lhd dR;have dD:len<=cap/\cap<=maxLen:=by
   obtain⟨h1,h2,_⟩:=(Sl.qc HR.out).open;exact⟨h1,h2⟩
  obtain⟨uD,jR⟩:=dD;unfold maxLen at jR;have fj:=qa HR.out aN.out;have bV:=lhd fj;clear hk ht fw ai dR fj;go_wp2_with fail;go_loopw [5,6] (fun x5 x6 wr=>∃ (i j:Nat) (X:List Tm),x5 = .int .i64 i/\x6 = .int .i64 j/\j<=len/\i < j/\Hid (Sft f L X i j)/\Hid (wr.ownsRow base 71 3 (.slice (some ⟨b,0,none⟩) len cap) len (tv X))/\Gs (fun c=>c=b) w wr) (fun _ x6 _=>len - (vI x6).toNat)
  case atStart=>exact⟨k,k+1,L,rfl,qh (by omega),by omega,by omega,CD.out,bV.out,Gs.xh aN.out⟩
  case round =>
   obtain⟨i,j,X,rfl,rfl,hj,dS,HS,HX,hG⟩:=hrel;have my:Gs (fun c=>(Value.slice (some ⟨b,0,none⟩) len cap).ownBlock=some c) w wr:=hG.mono fun c _ hc=>by rw[hc];rfl
   by_cases hlt:j < len
   ·obtain⟨t,ht⟩ : ∃ t,L[j]? = some t:=⟨_,g8 (by rw[<-HL.out];exact hlt)⟩
    have uE:X[j]? = some t:=HS.out.get.trans ht;obtain⟨u,hu⟩ : ∃ u,X[i]? = some u:=⟨_,g8 (by rw[HS.out.len,<-HL.out];omega)⟩
    have aA:=fun q=>(HX.out.cellAt q)
    have cu:=HX.out.frozenAt;obtain⟨e0,e1,e2⟩:=jd X j _ uE;have d0:wr.cell? ⟨b,j*3,none⟩=some (.int .i64 t.c):=by rw[aA _ (by omega),e0]
    have d1:wr.cell? ⟨b,j*3+1,none⟩=some (.bool t.n):=by rw[aA _ (by omega),e1]
    have d2:wr.cell? ⟨b,j*3+2,none⟩=some (.string t.m):=by rw[aA _ (by omega),e2]
    obtain⟨o0,o1,o2⟩:=jd X i _ hu;have p0:wr.cell? ⟨b,i*3,none⟩=some (.int .i64 u.c):=by rw[aA _ (by omega),o0]
    have p1:wr.cell? ⟨b,i*3+1,none⟩=some (.bool u.n):=by rw[aA _ (by omega),o1]
    have p2:wr.cell? ⟨b,i*3+2,none⟩=some (.string u.m):=by rw[aA _ (by omega),o2]
    clear e0 e1 e2 o0 o1 o2;obtain⟨U,hU⟩ : ∃ U,U=wr.alloc (.cells #[.int .i64 t.c,.bool t.n,.string t.m] 71):=⟨_,rfl⟩
    have cW:Below wr.heap.size wr U:=by rw[hU];exact(Below.refl _ wr).alloc (nlr _) _
    have Nj:Gs (fun c=>(Value.slice (some ⟨b,0,none⟩) len cap).ownBlock=some c) w U:=my.then (S':=fun _=>False) (Gs.xh cW) (fun _ h=>h.elim);have u0:U.cell? ⟨wr.heap.size,0,none⟩=some (.int .i64 t.c):=by rw[hU];exact qd wr #[.int .i64 t.c,.bool t.n,.string t.m] 71 (0,0) 0
    have u1:U.cell? ⟨wr.heap.size,1,none⟩=some (.bool t.n):=by rw[hU];exact qd wr #[.int .i64 t.c,.bool t.n,.string t.m] 71 (0,0) 1
    have u2:U.cell? ⟨wr.heap.size,2,none⟩=some (.string t.m):=by rw[hU];exact qd wr #[.int .i64 t.c,.bool t.n,.string t.m] 71 (0,0) 2
    have HU:=lhd (aiq cW (aiq u0 (aiq u1 u2)));have ae:=HF.out U Nj t (gd ht);unfold Tm.v at ae;rw[hU] at ae;have Jb:=lhd hU;clear cW Nj u0 u1 u2 hU;have HC:=lhd ae;have HT:=lhd ht;have Ni:=lhd my;clear ae ht uE hu aA cu my;cases hft:f t with
    | true =>
     have dL:=lhd hft;rw[hft] at HC;clear hft;go_wp2_with fail;refine HC.out.mono ?_;rintro e w2 ⟨rfl,ag⟩;have cm:Below wr.heap.size wr w2:=by rw[<-Jb.out] at ag;exact HU.out.1.trans (ag.mono HU.out.1.size)
     have cJ:Gs (fun c=>c=b) w w2:=hG.then (S':=fun _=>False) (Gs.xh cm) (fun _ h=>h.elim);have dU:Hid (w2.ownsRow base 71 3 (.slice (some ⟨b,0,none⟩) len cap) len (tv X)):=qa HX.out cm;clear ag cm;go_wp2_with fail;go_roundw
     case measure=>simp[vI];omega
     case rel=>exact⟨i,j+1,X,rfl,qh (by omega),by omega,by omega,HS.out.skip HT.out dL.out,dU,cJ⟩
    | false =>
     have dL:=lhd hft;rw[hft] at HC;clear hft;go_wp2_with fail;refine HC.out.mono ?_;rintro e w2 ⟨rfl,ag⟩;have cm:Below wr.heap.size wr w2:=by rw[<-Jb.out] at ag;exact HU.out.1.trans (ag.mono HU.out.1.size)
     have cJ:Gs (fun c=>c=b) w w2:=hG.then (S':=fun _=>False) (Gs.xh cm) (fun _ h=>h.elim);have dU:Hid (w2.ownsRow base 71 3 (.slice (some ⟨b,0,none⟩) len cap) len (tv X)):=qa HX.out cm;have f0:=dU.out.frozenAt (i*3);have f1:=dU.out.frozenAt (i*3+1);have f2:=dU.out.frozenAt (i*3+2)
     replace p0:=Cx.q8 cm p0
     replace p1:=Cx.q8 cm p1
     replace p2:=Cx.q8 cm p2
     rw[<-Jb.out] at ag;have b0:=Cx.q8 ag HU.out.2.1;have b1:=Cx.q8 ag HU.out.2.2.1;have b2:=Cx.q8 ag HU.out.2.2.2;clear ag cm;go_wp2_with fail;go_roundw
     case measure=>simp[vI];omega
     case rel=>exact⟨i+1,j+1,X.set i t,qh (by omega),qh (by omega),by omega,by omega,HS.out.put HT.out dL.out,by have:=(((dU.out.stored (i*3) (.int .i64 t.c)).1.stored (i*3+1) (.bool t.n)).1.stored (i*3+2) (.string t.m)).1;rw[qo2 X i t (by rw[HS.out.len,<-HL.out];omega)] at this;exact this,((cJ.grown (dU.out.stored (i*3) (.int .i64 t.c)).2 (fun k e=>by cases e;exact .inr rfl)).grown ((dU.out.stored (i*3) (.int .i64 t.c)).1.stored (i*3+1) (.bool t.n)).2 (fun k e=>by cases e;exact .inr rfl)).grown (((dU.out.stored (i*3) (.int .i64 t.c)).1.stored (i*3+1) (.bool t.n)).1.stored (i*3+2) (.string t.m)).2 (fun k e=>by cases e;exact .inr rfl)⟩
   ·have cX:j=len:=by omega
    have aA:=fun q=>(HX.out.cellAt q)
    have cu:=HX.out.frozenAt;have dx:=HX.out.1;obtain⟨zs,na⟩:=qlc wr b (i*3) (len - i) (cap - i) (by omega) (fun q hq=>by rw[aA _ (by omega),g8 (by rw[dx];omega)];rfl) (fun q hq=>cu _);have ak:¬ cap=i:=by omega
    have HJ:=lhd cX;have HZ:=lhd (ku zs (i*3) HX.out);have fO:(i:Int)<=(len:Int):=by omega
    have hi0:(0:Int)<=(i:Int):=by omega
    clear aA cu dx cX my;go_wp2_with fail;go_ret;obtain⟨⟨ys,hy,pL⟩,lf⟩:=HZ.out;have fx:=HS.out.low;rw[HJ.out,HL.out,List.take_length] at fx;have oT:(L.filter fun t=>!f t).length=i:=by rw[<-fx,gh,HS.out.len,<-HL.out];omega
    refine⟨_,rfl,?_,(hG.trans lf).mono fun c _ hc=>by rw[hc];rfl⟩;have au:=q93 hy (i:=i) (by omega);rw[pL,q3r,fx] at au;rw[oT];exact au
end Go.Proofs.YtlhicnfeajejhaaGreatDoor
