/- Steps towards MorseChecks. Conditions: none. -/
import Derived.Test.YtlhicnfeajejhaaGreatDoorFQa
set_option maxRecDepth 1000000
set_option maxHeartbeats 16000000
namespace Go.Cx
open Go.RowKit Go.Maps
structure Gs (S:Nat->Prop) (w w':World):Prop where
 os:w'.os=w.os
 tape:w'.tape=w.tape
 output:w'.output=w.output
 size:w.heap.size<=w'.heap.size
 blk:∀ b,b < w.heap.size->¬ S b->w'.heap[b]? = w.heap[b]?
section
variable {S S':Nat->Prop} {w w' w'':World}
theorem Gs.refl (S:Nat->Prop) (w:World):Gs S w w:=⟨rfl,rfl,rfl,nlr _,fun _ _ _=>rfl⟩
theorem Gs.trans (h:Gs S w w') (k:Gs S w' w''):Gs S w w'' :=
 ⟨k.os.trans h.os,k.tape.trans h.tape,k.output.trans h.output,gn h.size k.size,fun b hb hs=>(k.blk b (gZ hb h.size) hs).trans (h.blk b hb hs)⟩
theorem Gs.xh (h:Below w.heap.size w w'):Gs S w w':=⟨h.os,h.tape,h.output,h.size,fun b hb _=>h.block b hb⟩
theorem Gs.q6i {row:Option Nat} (h:w.grownBy w' row) (hr:∀ k,row=some k->w.heap.size<=k\/S k):Gs S w w' :=
 ⟨h.os,h.tape,h.output,h.size,fun b hb hs=>h.block b hb fun e=>(hr b e.symm).elim (fun h=>by omega) hs⟩
theorem Gs.mono (h:Gs S w w') (hs:∀ b,b < w.heap.size->S b->S' b):Gs S' w w':=⟨h.os,h.tape,h.output,h.size,fun b hb hn=>h.blk b hb fun x=>hn (hs b hb x)⟩
theorem Gs.below {B:Nat} (h:Gs S w w') (hB:B<=w.heap.size) (hs:∀ b,S b->B<=b):Below B w w' :=
 ⟨h.os,h.tape,h.output,h.size,fun b hb=>h.blk b (by omega) fun x=>by have:=hs b x;omega⟩
theorem Gs.cell (h:Gs S w w') {p:Addr} {u:Value} (hs:¬ S p.block) (hu:w.cell? p=some u):w'.cell? p=some u:=by
 rw[World.cell?_of_block (h.blk p.block (World.block_lt_of_cell? w _ hu) hs)];exact hu
theorem Gs.frozen (h:Gs S w w') {p:Addr} (hl:p.block < w.heap.size) (hs:¬ S p.block) (hf:w.frozen? p=false):w'.frozen? p=false:=by
 rw[World.frozen?_of_block (h.blk p.block hl hs)];exact hf
theorem Gs.mp (h:Gs S w w') {P:Program} {k:TypeId} {b n:Nat} {g:Int->Option Value} (hm:Mp P k w b n g) (hs:¬ S b):Mp P k w' b n g:=by
 have hl:=hm.lt;obtain⟨D,⟨es,clock,hh,r⟩,h2⟩:=hm;exact⟨D,⟨es,clock,by rw[h.blk b hl hs];exact hh,r⟩,h2⟩
theorem Gs.sl (h:Gs S w w') {st:Nat} {v:Value} {xs:List Value} (hv:Sl w st v xs) (hs:∀ ad n c,v = .slice (some ad) n c->xs≠[]->¬ S ad.block):Sl w' st v xs:=by
 obtain⟨a,n,cap,h1,h2,h3,h4,h5,h6⟩:=hv;refine⟨a,n,cap,h1,h2,h3,h4,h5,fun ad ha j u hj=>h.cell ?_ (h6 ad ha j u hj)⟩;have:(ad.add j).block=ad.block:=by unfold Addr.add;split <;> rfl
 rw[this];exact hs ad n cap (by rw[h1,ha]) (fun e=>by rw[e] at hj;simp at hj)
theorem qe6 {st:Nat} {v:Value} {xs:List Value} (hv:Sl w st v xs) {ad:Addr} {n c:Nat} (he:v = .slice (some ad) n c) (ak:xs≠[]):ad.block < w.heap.size:=by
 obtain⟨a,n',cap,h1,h2,h3,h4,h5,h6⟩:=hv;rw[he] at h1;injection h1 with e1 _ _
 obtain⟨u,us,rfl⟩:=List.exists_cons_of_ne_nil ak;have:=World.block_lt_of_cell? w _ (h6 ad e1.symm 0 u rfl);have hb:(ad.add 0).block=ad.block:=by unfold Addr.add;split <;> rfl
 rwa [hb] at this
theorem Gs.row (h:Gs S w w') {base st n:Nat} {e:TypeId} {v:Value} {xs:List Value} (hr:w.ownsRow base e st v n xs) (hs:∀ b,v.ownBlock=some b->¬ S b):w'.ownsRow base e st v n xs:=by
 obtain⟨h1,h2⟩:=hr;refine⟨h1,?_⟩;rcases h2 with h2 | ⟨g,cap,cur,rfl,hb,hh,h3⟩
 ·exact .inl h2
 ·exact .inr ⟨g,cap,cur,rfl,hb,by rw[h.blk g (gw.1 hh).1 (hs g rfl)];exact hh,h3⟩
end
end Go.Cx
namespace Go.Proofs.YtlhicnfeajejhaaGreatDoor
open Go.RowKit Go.Cx
theorem q40 (w:World):(zeroValue 3).run Tryz.prog w = .ok (.int .i64 0) w:=Tryz.zeroValue3 w
theorem qau (w:World):(zeroValue 122).run Tryz.prog w = .ok (.map none) w:=Tryz.zeroValue122 w
theorem yx {c:Int} (h:I64 c):keyOf Tryz.prog 3 (.int .i64 c)=some (.int .i64 c):=q0k (P:=Tryz.prog) (k:=3) Tryz.underlying3 h.1 h.2
def MpI (w:World) (b n:Nat) (h:Int->Int):Prop:=∃ g,Mp Tryz.prog 3 w b n g/\∀ c,(g c).getD (.int .i64 0) = .int .i64 (h c)
def MpB (w:World) (b n:Nat) (s:Int->Bool):Prop:=∃ g,Mp Tryz.prog 3 w b n g/\∀ c,(g c).getD (.bool false) = .bool (s c)
section
variable {w w':World} {b n:Nat} {h:Int->Int} {s:Int->Bool} {S:Nat->Prop}
theorem MpI.gs (m:MpI w b n h) (k:Gs S w w') (hs:¬ S b):MpI w' b n h:=by obtain⟨g,h1,h2⟩:=m;exact⟨g,k.mp h1 hs,h2⟩
theorem MpB.gs (m:MpB w b n s) (k:Gs S w w') (hs:¬ S b):MpB w' b n s:=by obtain⟨g,h1,h2⟩:=m;exact⟨g,k.mp h1 hs,h2⟩
theorem MpI.q8 (m:MpI w b n h) (k:Below w.heap.size w w'):MpI w' b n h:=m.gs (S:=fun _=>False) (Gs.xh k) (fun x=>x)
theorem MpB.q8 (m:MpB w b n s) (k:Below w.heap.size w w'):MpB w' b n s:=m.gs (S:=fun _=>False) (Gs.xh k) (fun x=>x)
theorem MpI.lt (m:MpI w b n h):b < w.heap.size:=by obtain⟨g,h1,_⟩:=m;exact h1.lt
theorem MpB.lt (m:MpB w b n s):b < w.heap.size:=by obtain⟨g,h1,_⟩:=m;exact h1.lt
theorem MpI.look (m:MpI w b n h) {c:Int} (hc:I64 c):(Instr.lookup 122 (.map (some b)) (.int .i64 c) false).run Tryz.prog w = .ok (.int .i64 (h c)) w:=by
 obtain⟨g,h1,h2⟩:=m;have:=h1.look Tryz.underlying3 Tryz.underlying122 (q40 w) (yx hc)
 rwa [h2 c] at this
theorem MpB.look (m:MpB w b n s) {c:Int} (hc:I64 c):(Instr.lookup 65 (.map (some b)) (.int .i64 c) false).run Tryz.prog w = .ok (.bool (s c)) w:=by
 obtain⟨g,h1,h2⟩:=m;have:=h1.look Tryz.underlying3 Tryz.underlying65 (q21 w) (yx hc)
 rwa [h2 c] at this
theorem MpI.q6j {g:Int->Option Value} {c v:Int} (h2:∀ c,(g c).getD (.int .i64 0) = .int .i64 (h c)) (hm:Mp Tryz.prog 3 w b n (zg g c (.int .i64 v))):MpI w b n (pu h c v):=by
 refine⟨_,hm,fun d=>?_⟩;unfold zg pu;by_cases hd:d=c
 ·rw[if_pos hd,if_pos hd];rfl
 ·rw[if_neg hd,if_neg hd];exact h2 d
theorem MpB.q6j {g:Int->Option Value} {c:Int} {v:Bool} (h2:∀ c,(g c).getD (.bool false) = .bool (s c)) (hm:Mp Tryz.prog 3 w b n (zg g c (.bool v))):MpB w b n (fun d=>if d=c then v else s d):=by
 refine⟨_,hm,fun d=>?_⟩;unfold zg;by_cases hd:d=c
 ·simp[hd]
 ·simp[hd,h2 d]
theorem MpI.made (w:World):MpI (w.alloc (.map #[] 0)) w.heap.size 0 (fun _=>0):=⟨_,Mp.made w _ _,fun _=>rfl⟩
theorem MpB.made (w:World):MpB (w.alloc (.map #[] 0)) w.heap.size 0 (fun _=>false):=⟨_,Mp.made w _ _,fun _=>rfl⟩
end
def sgG (l:List Sd):Int->Option Value:=fun c=>(sgO l c).map (Value.int .i64)
theorem qig (l:List Sd) (s:Sd):sgG (l++[s])=zg (sgG l) s.c (.int .i64 s.g):=by
 funext c
 unfold sgG zg;rw[qie];by_cases h:c=s.c
 ·rw[if_pos h,if_pos h];rfl
 ·rw[if_neg h,if_neg h]
structure Sds (w:World) (B:Nat) (nb:Int->Nat) (K:List Cl):Prop where
 top:Mp Tryz.prog 3 w B K.length (fun c=>if jv K c then some (.map (some (nb c))) else none)
 each:∀ x∈K,Mp Tryz.prog 3 w (nb x.id) x.s.length (sgG x.s)
structure Fld (w:World) (T BS BH BL:Nat) (nb:Int->Nat) (a:Option Addr) (n c:Nat) (m:List Ce):Prop where
 ne:T≠BH/\T≠BL/\BS≠BH/\BS≠BL/\BH≠BL
 t0:w.cell? ⟨T,0,none⟩=some (.slice a n c)
 t1:w.cell? ⟨T,1,none⟩=some (.map (some BS))
 t2:w.cell? ⟨T,2,none⟩=some (.map (some BH))
 t3:w.cell? ⟨T,3,none⟩=some (.map (some BL))
 row:SlC w (.slice a n c) m
 far:(∀ ad,a=some ad->cat Ce.enc m≠[]->ad.block≠BH/\ad.block≠BL)/\∀ x∈m,∀ ad,x.a=some ad->cat Sd.enc x.s≠[]->ad.block≠BH/\ad.block≠BL
 sid:Sds w BS nb (m.map Ce.cl)
 nbf:∀ x∈m,nb x.id≠BH/\nb x.id≠BL
def HL (BH BL:Nat):Nat->Prop:=fun b=>b=BH\/b=BL
section
variable {w w':World} {T BS BH BL n c:Nat} {nb:Int->Nat} {a:Option Addr} {m:List Ce}
theorem Fld.gs (h:Fld w T BS BH BL nb a n c m) (k:Gs (HL BH BL) w w'):Fld w' T BS BH BL nb a n c m:=by
 have hT:¬ HL BH BL T:=fun e=>e.elim h.ne.1 h.ne.2.1
 have hS:¬ HL BH BL BS:=fun e=>e.elim h.ne.2.2.1 h.ne.2.2.2.1
 refine⟨h.ne,k.cell hT h.t0,k.cell hT h.t1,k.cell hT h.t2,k.cell hT h.t3,⟨k.sl h.row.1 fun ad n' c' e ak=>?_,fun x hx=>k.sl (h.row.2 x hx) fun ad n' c' e ak=>?_⟩,h.far,⟨k.mp h.sid.top hS,fun x hx=>k.mp (h.sid.each x hx) ?_⟩,h.nbf⟩
 ·injection e with e1 _ _
  exact fun hh=>hh.elim (h.far.1 ad e1 ak).1 (h.far.1 ad e1 ak).2
 ·have e1:x.a=some ad:=by unfold Ce.sl at e;injection e
  exact fun hh=>hh.elim (h.far.2 x hx ad e1 ak).1 (h.far.2 x hx ad e1 ak).2
 ·obtain⟨y,hy,rfl⟩:=go.1 hx;exact fun hh=>hh.elim (h.nbf y hy).1 (h.nbf y hy).2
theorem Fld.q8 (h:Fld w T BS BH BL nb a n c m) (k:Below w.heap.size w w'):Fld w' T BS BH BL nb a n c m:=h.gs (Gs.xh k)
end
theorem q29 {BS:Nat} {nb:Int->Nat} {K:List Cl} (W:World) (hW:Mp Tryz.prog 3 W BS K.length (fun c=>if jv K c then some (.map (some (nb c))) else none)) {x:Int} (hx:I64 x) :
  (Instr.lookup 121 (.map (some BS)) (.int .i64 x) false).run Tryz.prog W = .ok (.map (if jv K x then some (nb x) else none)) W:=by
 have:=hW.look Tryz.underlying3 Tryz.underlying121 (qau W) (yx hx);rw[this];cases jv K x <;> rfl
theorem q7x {w:World} {K:List Cl} {nb:Int->Nat} (hK:Asc K) (h:∀ x∈K,Mp Tryz.prog 3 w (nb x.id) x.s.length (sgG x.s)) (hi:Int) {lo:Int} (hl:I64 lo) :
  (Instr.lookup 122 (.map (if jv K hi then some (nb hi) else none)) (.int .i64 lo) false).run Tryz.prog w = .ok (.int .i64 (sgn K hi lo)) w:=by
 by_cases hh:jv K hi=true
 ·rw[hh,if_pos rfl];obtain⟨x,hx,he⟩:=List.any_eq_true.1 hh;have he:x.id=hi:=by simpa using he
  subst he;have:=(h x hx).look Tryz.underlying3 Tryz.underlying122 (q40 w) (yx hl);rw[this];unfold sgn sgL sgG;rw[q0b hK hx];cases sgO x.s lo <;> rfl
 ·have hh:jv K hi=false:=by simpa using hh
  rw[hh,if_neg (by simp)];have:=Maps.look_nil (w:=w) false (Maps.int_keyed (P:=Tryz.prog) (k:=3) Tryz.underlying3) Tryz.underlying122 (q40 w) (yx hl);unfold sgn;rw[q0n hh];exact this
end Go.Proofs.YtlhicnfeajejhaaGreatDoor
namespace Go.Proofs.YtlhicnfeajejhaaGreatDoor
open Go.RowKit Go.Cx
attribute [local go_sem ↓] Go.wp_at_zero Go.wp_at_succ
theorem q2a (T BH BL n1 n2:Nat) (hi lo:Int->Int) (id:Int) (w:World) (q2:w.cell? ⟨T,2,none⟩=some (.map (some BH))) (q3:w.cell? ⟨T,3,none⟩=some (.map (some BL))) (hh:MpI w BH n1 hi) (hl:MpI w BL n2 lo) (hid:I64 id) :
  Calls Tryz.prog 110 #[.pointer (some ⟨T,0,none⟩),.int .i64 id] w fun e w'=>e = .returned (.bool (pdB hi lo id))/\w'=w:=by
 have h1:=hh.look hid;have h2:=hl.look hid;clear hh hl hid;unfold pdB;obtain⟨x,hx⟩ : ∃ x,x=hi id:=⟨_,rfl⟩
 obtain⟨y,hy⟩ : ∃ y,y=lo id:=⟨_,rfl⟩
 rw[<-hx] at h1 ⊢;rw[<-hy] at h2 ⊢;clear hx hy;by_cases h0:x=0
 ·subst h0;go_enter Tryz.func110,Tryz.ntmps110;go_wp2;go_ret;exact⟨by simp,rfl⟩
 ·have hb:(x == 0)=false:=by simpa using h0
  go_enter Tryz.func110,Tryz.ntmps110;go_wp2;go_ret;exact⟨by simp[h0],rfl⟩
theorem qih {w:World} {T BS BH BL n c n1 n2:Nat} {nb:Int->Nat} {a:Option Addr} {m:List Ce} {hi lo:Int->Int} (hF:Fld w T BS BH BL nb a n c m) (hA:Asc (m.map Ce.cl)) (hh:MpI w BH n1 hi) (hl:MpI w BL n2 lo) (p q:Int) (hp:I64 p) (hq:I64 q) :
  Calls Tryz.prog 100 #[.pointer (some ⟨T,0,none⟩),.int .i64 p,.int .i64 q] w fun e w'=>e = .returned (.bool (kc (m.map Ce.cl) hi lo p q))/\w'=w:=by
 have q1:=hF.t1;have c1:=q2a T BH BL n1 n2 hi lo p w hF.t2 hF.t3 hh hl hp;have c2:=q2a T BH BL n1 n2 hi lo q w hF.t2 hF.t3 hh hl hq;have h1:=q29 w hF.sid.top hq;have h2:=q7x hA hF.sid.each q hp;have C1:=lhd c1;have C2:=lhd c2;unfold kc;generalize (if jv (m.map Ce.cl) q=true then some (nb q) else none)=o at h1 h2;obtain⟨x,hx⟩ : ∃ x,x=sgn (m.map Ce.cl) q p:=⟨_,rfl⟩
 rw[<-hx] at h2 ⊢;obtain⟨y,hy⟩ : ∃ y,y=pdB hi lo p:=⟨_,rfl⟩
 rw[<-hy] at C1 ⊢;clear c1 c2 hF hA hh hl hp hq hx hy;by_cases h0:x=0
 ·subst h0;go_enter Tryz.func100,Tryz.ntmps100;go_wp2_with fail;go_ret;exact⟨by simp,rfl⟩
 ·have hb:(x == 0)=false:=by simpa using h0
  cases y with
  | true =>
   go_enter Tryz.func100,Tryz.ntmps100;go_wp2_with fail;refine C1.out.mono ?_;rintro e w1 ⟨rfl,rfl⟩;go_wp2_with fail;go_ret;exact⟨by simp,rfl⟩
  | false =>
   go_enter Tryz.func100,Tryz.ntmps100;go_wp2_with fail;refine C1.out.mono ?_;rintro e w1 ⟨rfl,rfl⟩;go_wp2_with fail;refine C2.out.mono ?_;rintro e w1 ⟨rfl,rfl⟩;go_wp2_with fail;go_ret;exact⟨by simp,rfl⟩
end Go.Proofs.YtlhicnfeajejhaaGreatDoor
namespace Go.Cx
open Go.RowKit Go.Maps
theorem Gs.grown {S:Nat->Prop} {w w' w'':World} {row:Option Nat} (h:Gs S w w') (g:w'.grownBy w'' row) (hr:∀ k,row=some k->w.heap.size<=k\/S k):Gs S w w'' :=
 ⟨g.os.trans h.os,g.tape.trans h.tape,g.output.trans h.output,gn h.size g.size,fun b hb hs=>(g.block b (gZ hb h.size) fun e=>(hr b e.symm).elim (fun h=>by omega) hs).trans (h.blk b hb hs)⟩
theorem Gs.then {S S':Nat->Prop} {w w' w'':World} (h:Gs S w w') (g:Gs S' w' w'') (hr:∀ k,S' k->w.heap.size<=k\/S k):Gs S w w'' :=
 ⟨g.os.trans h.os,g.tape.trans h.tape,g.output.trans h.output,gn h.size g.size,fun b hb hs=>(g.blk b (gZ hb h.size) fun e=>(hr b e).elim (fun h=>by omega) hs).trans (h.blk b hb hs)⟩
theorem Gs.drew {S:Nat->Prop} {w w':World} (h:Gs S w w'):Gs S w w'.drew:=⟨h.os,h.tape,h.output,h.size,h.blk⟩
def mu (U:List Int) (s:Int->Bool):Nat:=(U.filter fun c=>!s c).length
theorem qe7 {U:List Int} {s:Int->Bool} {c:Int} (hc:c∈U) (hs:s c=false):mu U (fun d=>if d=c then true else s d) < mu U s:=by
 unfold mu;have h1:(U.filter fun d=>!(if d=c then true else s d))=(U.filter fun d=>!s d).filter fun d=>!(d == c):=by
  rw[List.filter_filter];refine List.filter_congr fun d _=>?_
  by_cases h:d=c
  ·simp[h]
  ·simp[h]
 rw[h1];exact List.length_filter_lt_length_iff_exists.2 ⟨c,gH.2 ⟨hc,by rw[hs];rfl⟩,by simp⟩
theorem qe8 {U:List Int} {s s':Int->Bool} (h:∀ c,s c=true->s' c=true):mu U s'<=mu U s:=by
 induction U with
 | nil=>exact nlr _
 | cons a U ih =>
  unfold mu at ih ⊢;rw[List.filter_cons,List.filter_cons];cases h1:s a with
  | true=>rw[h a h1];exact ih
  | false =>
   cases s' a with
   | true=>show _<=_+1;exact Nat.le_succ_of_le ih
   | false=>exact Nat.succ_le_succ ih
end Go.Cx
namespace Go.Proofs.YtlhicnfeajejhaaGreatDoor
open Go.RowKit Go.Cx Go.Maps
attribute [local go_sem ↓] Go.wp_at_zero Go.wp_at_succ
theorem MpB.kept {w w':World} {b n:Nat} {s:Int->Bool} {row:Option Nat} (m:MpB w b n s) (hg:w.grownBy w' row) (ak:some b≠row):MpB w' b n s:=by obtain⟨g,h1,h2⟩:=m;exact⟨g,h1.kept hg ak,h2⟩
theorem qav {b:Nat} {w w':World} (h:Gs (fun k=>k=b) w w'):w.grownBy w' (some b):=⟨h.os,h.tape,h.output,h.size,fun k hk ak=>h.blk k hk fun e=>ak (by rw[e])⟩
def j6 (K:List Cl):List Int:=K.flatMap fun x=>x.s.map Sd.c
theorem qaw {K:List Cl} {c h:Int} (hh:∃ s∈zq K h,s.c=c):c∈j6 K:=by
 obtain⟨s,hs,rfl⟩:=hh;unfold zq at hs;cases hf:K.find? (fun x=>x.id == h) with
 | none=>rw[hf] at hs;cases hs
 | some x =>
  rw[hf] at hs;exact List.mem_flatMap.2 ⟨x,gT hf,gE hs⟩
structure Vis (w0 w:World) (T SE p1 p2 p3 p4:Nat) (low:Int):Prop where
 below:Below w0.heap.size w0 w
 se:w0.heap.size<=SE
 ne:p1≠SE/\p2≠SE/\p3≠SE/\p4≠SE
 c1:w.cell? ⟨p1,0,none⟩=some (.pointer (some ⟨T,0,none⟩))
 c2:w.cell? ⟨p2,0,none⟩=some (.map (some SE))
 c3:w.cell? ⟨p3,0,none⟩=some (.int .i64 low)
 c4:w.cell? ⟨p4,0,none⟩=some (.func (.func 155) #[] #[.pointer (some ⟨p1,0,none⟩),.pointer (some ⟨p2,0,none⟩),.pointer (some ⟨p3,0,none⟩),.pointer (some ⟨p4,0,none⟩)])
theorem Vis.gs {w0 w w':World} {T SE p1 p2 p3 p4:Nat} {low:Int} (h:Vis w0 w T SE p1 p2 p3 p4 low) (k:Gs (fun b=>b=SE) w w'):Vis w0 w' T SE p1 p2 p3 p4 low where
 below:=⟨k.os.trans h.below.os,k.tape.trans h.below.tape,k.output.trans h.below.output,gn h.below.size k.size,fun b hb=>(k.blk b (gZ hb h.below.size) (by have:=h.se;omega)).trans (h.below.block b hb)⟩
 se:=h.se
 ne:=h.ne
 c1:=k.cell h.ne.1 h.c1
 c2:=k.cell h.ne.2.1 h.c2
 c3:=k.cell h.ne.2.2.1 h.c3
 c4:=k.cell h.ne.2.2.2 h.c4
theorem ql8 {w0:World} {T BS BH BL n c n1:Nat} {nb:Int->Nat} {a:Option Addr} {m:List Ce} {hi:Int->Int} (hF:Fld w0 T BS BH BL nb a n c m) (hA:Asc (m.map Ce.cl)) (ew:COk m) (hh:MpI w0 BH n1 hi) (fG:∀ d,hi d≠0->jv (m.map Ce.cl) (hi d)=true)
  (SE p1 p2 p3 p4:Nat) (low:Int):∀ (N:Nat) (x:Int) (k:Nat) (seen:Int->Bool) (w:World),mu (j6 (m.map Ce.cl)) seen<=N->Vis w0 w T SE p1 p2 p3 p4 low->MpB w SE k seen->hi x≠0->I64 x->k+mu (j6 (m.map Ce.cl)) seen<=1000000000 →
  Calls Tryz.prog 155 #[.int .i64 x,.pointer (some ⟨p1,0,none⟩),.pointer (some ⟨p2,0,none⟩),.pointer (some ⟨p3,0,none⟩),.pointer (some ⟨p4,0,none⟩)] w fun e w'=>Gs (fun b=>b=SE) w w' ∧
   ((e = .returned (.bool true)/\Relation.TransGen (Wy (m.map Ce.cl) hi) x low)\/(e = .returned (.bool false)/\∃ k' cQ,MpB w' SE k' cQ/\ka (Wy (m.map Ce.cl) hi) low (fun d=>seen d=true) (fun d=>cQ d=true)/\(∀ d,Wy (m.map Ce.cl) hi x d->cQ d=true)/\k'+mu (j6 (m.map Ce.cl)) cQ<=k+mu (j6 (m.map Ce.cl)) seen)):=by
 intro N;induction N using Nat.strongRecOn with
 | _ N ih =>
 intro x k seen w hN hV hS cG rE hk;obtain⟨K,hK⟩ : ∃ K,K=m.map Ce.cl:=⟨_,rfl⟩
 rw[<-hK] at ih hN hk fG hA ⊢;have get:∀ u,Gs (fun b=>b=SE) w u->u.cell? ⟨p1,0,none⟩=some (.pointer (some ⟨T,0,none⟩))/\u.cell? ⟨p2,0,none⟩=some (.map (some SE))/\u.cell? ⟨p3,0,none⟩=some (.int .i64 low) ∧
   u.cell? ⟨p4,0,none⟩=some (.func (.func 155) #[] #[.pointer (some ⟨p1,0,none⟩),.pointer (some ⟨p2,0,none⟩),.pointer (some ⟨p3,0,none⟩),.pointer (some ⟨p4,0,none⟩)])/\u.cell? ⟨T,1,none⟩=some (.map (some BS))/\u.cell? ⟨T,2,none⟩=some (.map (some BH)) ∧
   (∀ d,I64 d->(Instr.lookup 122 (.map (some BH)) (.int .i64 d) false).run Tryz.prog u = .ok (.int .i64 (hi d)) u):=fun u hu=>by
  have v:=hV.gs hu;have f:=hF.q8 v.below;exact⟨v.c1,v.c2,v.c3,v.c4,f.t1,f.t2,fun d hd=>(hh.q8 v.below).look hd⟩
 have Cv:=lhd get;obtain⟨y,hy,nD⟩ : ∃ y∈K,y.id=hi x:=by
  obtain⟨y,hy,he⟩:=List.any_eq_true.1 (fG x cG);exact⟨y,hy,by simpa using he⟩
 have dW:zq K (hi x)=y.s:=by rw[<-nD];exact q0b hA hy
 have dt:Mp Tryz.prog 3 w (nb (hi x)) y.s.length (sgG y.s):=by
  have:=(hF.q8 hV.below).sid.each y (by rw[<-hK];exact hy)
  rwa [nD] at this
 have E5:y.s.length<=1099511627776:=by
  rw[hK] at hy;obtain⟨z,hz,rfl⟩:=go.1 hy;exact gn (ew z hz).2.1 (by decide)
 have MW:I64 (hi x):=by
  rw[<-nD];rw[hK] at hy;obtain⟨z,hz,rfl⟩:=go.1 hy;exact(ew z hz).1.1
 have dd:(Instr.lookup 121 (.map (some BS)) (.int .i64 (hi x)) false).run Tryz.prog w.drew = .ok (.map (some (nb (hi x)))) w.drew:=by
  have:=q29 w.drew (hF.q8 (hV.gs (Gs.refl _ w).drew).below).sid.top MW;rw[<-hK,fG x cG,if_pos rfl] at this;exact this
 have xD:SE≠nb (hi x):=by
  have h1:=(hF.sid.each y (by rw[<-hK];exact hy)).lt;rw[nD] at h1;have:=hV.se;omega
 obtain⟨q1,q2,q3,q4,t1,t2,hl⟩:=get w (Gs.refl _ _);have dO:(Instr.lookup 122 (.map (some BH)) (.int .i64 x) false).run Tryz.prog w.drew = .ok (.int .i64 (hi x)) w.drew:=(get w.drew (Gs.refl _ w).drew).2.2.2.2.2.2 x rE;obtain⟨b,hb⟩ : ∃ b,b=nb (hi x):=⟨_,rfl⟩
 obtain⟨h,IS⟩ : ∃ h,h=hi x:=⟨_,rfl⟩
 rw[<-hb] at dd dt xD;rw[<-IS] at dd dO dW;have ft:=lhd (aiq hV (aiq fG (aiq hA (aiq IS (aiq cG hk)))));have HY:=lhd (aiq dW (aiq E5 hN));have HS:=lhd hS;have HI:=lhd ih;clear ih hV fG hA IS cG hk dW E5 hN hS get hl hK hb MW nD hy hF hh ew;obtain⟨D,ah,hD⟩:=dt;have xE:=int_keyed (P:=Tryz.prog) (k:=3) Tryz.underlying3;go_enter Tryz.func155,Tryz.ntmps155;go_upto_region 1 with fail
 go_still_tail 11,(by kernel_rfl)
 change wpList _ _ _ _ _ w.drew;have bX:w.drew.ownsMap Tryz.prog 3 hld b y.s.length D:=ah.drew;have xF:Gs (fun b=>b=SE) w w.drew:=(Gs.refl _ w).drew;have bT:w.drew.heap.size=w.heap.size:=rfl;have Sh:SE < w.heap.size:=HS.out.lt;have rT:MpB w.drew SE k seen:=HS.out.q8 (qb (Below.refl _ w) 1);obtain⟨w1,pC⟩ : ∃ z,z=w.drew:=⟨_,rfl⟩
 rw[<-pC] at bX xF bT rT ⊢;clear pC ah;obtain⟨len,hlen⟩ : ∃ len,len=y.s.length:=⟨_,rfl⟩
 rw[<-hlen] at bX;have wg:=lhd hlen;clear hlen;have ou:=bX.lt;go_wp2_with (first
  |(at_range;refine wpList_range_own _ rfl _ 122 rfl 3 3 xE Tryz.underlying122 hld b len D rfl bX ?_;intro wq lD rF l5)
  | go_in)
 go_frame
 obtain⟨r,hr⟩ : ∃ r,r=w1.heap.size:=⟨_,rfl⟩
 rw[<-hr] at lD ⊢;have uA:w.heap.size<=r:=by omega
 have Si:SE < r:=by omega
 have xA:b < r:=by omega
 clear bT;have Wc:=lhd hr;clear hr;have MX:Gs (fun b=>b=SE) w wq:=xF.grown rF (fun k e=>by cases e);have dR:MpB wq SE k seen:=rT.kept rF (by simp);have MY:Hid (Hg D (sgG y.s)):=hD;clear q1 q2 q3 q4 t1 t2 dd dO hD xF bX rT rF l5;go_loopw [7] (fun _ wr=>∃ (left:Lit->Bool) (kK kk:Nat) (sk:Int->Bool),wr.ranges Tryz.prog 3 hld b r len D left kK/\Gs (fun b=>b=SE) w wr/\Hid (MpB wr SE kk sk/\ka (Wy K hi) low (fun d=>seen d=true) (fun d=>sk d=true)/\(∀ d,(∃ s∈zq K h,s.c=d)->left (.int .i64 d)=false->d≠x->hi d≠0->sk d=true)/\kk+mu (j6 K) sk<=k+mu (j6 K) seen)) (fun _ wr=>wr.rangeLeft b r)
 case atStart=>exact⟨_,_,k,seen,lD,MX,⟨dR,ka.refl _ _ _,(fun d hs hl _ _=>by
  exfalso
  obtain⟨s,hs,rfl⟩:=hs;have h1:=(MY.out s.c).1;rw[hl] at h1;rw[HY.out.1] at hs;have h2:(sgG y.s s.c).isSome=true:=by unfold sgG;rw[Option.isSome_map];exact q6h.2 ⟨s,hs,rfl⟩
  rw[h2] at h1;cases h1),nlr _⟩⟩
 case round =>
  clear MX dR lD;obtain⟨left,kK,kk,sk,fH,hG,HF⟩:=hrel;have Ao:=lhd fH;go_wp2_with (first
   |(at_next;refine wpList_next_ranges _ rfl _ rfl 3 xE hld (Value.int .i64) (fun v:Value=>v) (fun key kl aq=>by obtain⟨x,rfl,_⟩:=Maps.keyOf_int_inv Tryz.underlying3 aq;exact⟨x,rfl⟩) (fun v y _=>⟨v,rfl⟩) b r len D left kK rfl fH ?_ ?_)
   | go_in)
  ·intro eZ dO;go_wp2;go_ret;refine⟨hG,.inr ⟨rfl,kk,sk,HF.out.1,HF.out.2.1,fun d hd=>?_,HF.out.2.2.2⟩⟩;obtain⟨h1,h2,h3⟩:=hd;rw[<-ft.out.2.2.2.1] at h1;exact HF.out.2.2.1 d h1 (dO _) h2 h3
  ·intro nx cv kl y1 y2 w2 sI aq dd hv bK jP hlt cA ep kM;obtain⟨x',oB,rfl,Ap⟩:=Maps.keyOf_int_inv Tryz.underlying3 aq;have Cy:nx=x':=by injection oB
   subst Cy;have hv2:y1 = .held cv:=by
    have:hld cv=some (.held cv,[]):=rfl;rw[this] at hv;injection hv with hv;injection hv with hv _;exact hv.symm
   subst hv2;have jQ:=MY.out.qh3 bK;have uB:∃ s∈zq K h,s.c=nx:=by
    rw[HY.out.1];refine q6h.1 ?_;unfold sgG at jQ;cases hs:sgO y.s nx with
    | none=>rw[hs] at jQ;cases jQ
    | some _=>rfl
   have xG:I64 nx:=by
    simp[Lit.wf,IntKind.min,IntKind.max,IntKind.bits,IntKind.signed] at Ap;unfold I64;omega
   have Cz:(Instr.entry (.pointer (some ⟨r,0,none⟩))).run Tryz.prog w2 = .ok (.tuple #[.int .i64 nx,cv]) w2:=kM;have cJ:Gs (fun b=>b=SE) w w2:=hG.grown cA (fun k e=>by cases e;exact .inl (by omega));obtain⟨q1,q2,q3,q4,t1,t2,hl⟩:=Cv.out w2 cJ;have fS:=hl nx xG;have tG:MpB w2 SE kk sk:=HF.out.1.kept cA (fun e=>by cases e;omega);have hls:=tG.look xG;have fin:∀ ET:Int->Bool,(∀ d,sk d=true->ET d=true)->(nx≠x->hi nx≠0->ET nx=true)->∀ d,(∃ s∈zq K h,s.c=d)->(left (.int .i64 d) && !(Lit.int .i64 d).sameKey (.int .i64 nx))=false->d≠x->hi d≠0->ET d=true:=by
    intro ET hm hn d hs hl hx hh;by_cases hd:d=nx
    ·subst hd;exact hn hx hh
    ·have:(Lit.int .i64 d).sameKey (.int .i64 nx)=false:=by simp[Lit.sameKey,hd]
     rw[this] at hl;exact hm d (HF.out.2.2.1 d hs (by simpa using hl) hx hh)
   have aP:=lhd fin;have bV:=lhd (aiq jP (aiq hlt (aiq uB xG)));have rA:=lhd tG;clear aq dd hv bK jP hlt jQ oB Ap kM fin hl uB hG ep tG xG fH;by_cases c1:nx=x
   ·have C1:=lhd c1;have ai:(nx == x)=true:=by simpa using c1
    clear c1;go_wp2_with fail;go_roundw
    case measure=>rw[bV.out.1.left_eq,Ao.out.left_eq];exact bV.out.2.1
    case rel=>exact⟨_,_,kk,sk,bV.out.1,cJ,⟨rA.out,HF.out.2.1,aP.out sk (fun _ h=>h) (fun h _=>absurd C1.out h),HF.out.2.2.2⟩⟩
   ·have C1:=lhd c1;have ai:(nx == x)=false:=by simpa using c1
    clear c1;obtain⟨hv,sJ⟩ : ∃ hv,hv=hi nx:=⟨_,rfl⟩
    rw[<-sJ] at fS;by_cases c2:hv=0
    ·have C2:=lhd (sJ.symm.trans c2);clear sJ;subst c2;go_wp2_with fail;go_roundw
     case measure=>rw[bV.out.1.left_eq,Ao.out.left_eq];exact bV.out.2.1
     case rel=>exact⟨_,_,kk,sk,bV.out.1,cJ,⟨rA.out,HF.out.2.1,aP.out sk (fun _ h=>h) (fun _ h=>absurd C2.out h),HF.out.2.2.2⟩⟩
    ·have ag:(hv == 0)=false:=by simpa using c2
     have C2:Hid (hi nx≠0):=fun e=>c2 (sJ.trans e)
     clear sJ c2;by_cases c3:sk nx=true
     ·have C3:=lhd c3;rw[c3] at hls;clear c3;go_wp2_with fail;go_roundw
      case measure=>rw[bV.out.1.left_eq,Ao.out.left_eq];exact bV.out.2.1
      case rel=>exact⟨_,_,kk,sk,bV.out.1,cJ,⟨rA.out,HF.out.2.1,aP.out sk (fun _ h=>h) (fun _ _=>C3.out),HF.out.2.2.2⟩⟩
     ·have IT:sk nx=false:=by simpa using c3
      have C3:=lhd IT;rw[IT] at hls;clear c3 IT;obtain⟨gS,xH,sK⟩:=rA.out;have oC:=yx bV.out.2.2.2;have C0:=ft.out.2.2.2.2.2;have hle:=HF.out.2.2.2;have hmul:=qe7 (qaw bV.out.2.2.1) C3.out;have HM:=lhd (aiq C0 (aiq hle hmul));have rU:kk < maxLen:=by unfold maxLen;omega
      have EU:=lhd sK;clear C0 hle hmul sK;go_wp2_with (first
       |(at_mapUpdate;refine q1z rfl _ _ _ 65 rfl xH Tryz.underlying3 Tryz.underlying65 rU nx _ rfl rfl rfl oC ?_)
       | fail)
      intro w3 iW eJ;have MZ:MpB w3 SE (kk+1) (fun d=>if d=nx then true else sk d):=MpB.q6j EU.out iW;have pK:Gs (fun b=>b=SE) w w3:=cJ.grown eJ (fun k e=>by cases e;exact .inr rfl);have cY:w3.ranges Tryz.prog 3 hld b r len D (fun z=>left z && !z.sameKey (.int .i64 nx)) sI:=bV.out.1.kept eJ (fun e=>by cases e;exact xD rfl) (fun e=>by cases e;omega);obtain⟨z1,z2,z3,z4,_,_,_⟩:=Cv.out w3 pK;have iy:∀ d,(if d=nx then true else sk d)=true↔d=nx\/sk d=true:=fun d=>by by_cases h:d=nx <;> simp[h]
      have EV:=lhd iy;have Ik:=lhd MZ;have IU:=lhd cY;have C5:Wy K hi x nx:=⟨by rw[<-ft.out.2.2.2.1];exact bV.out.2.2.1,C1.out,C2.out⟩
      have C6:=lhd C5;clear iW eJ xH iy MZ cY C5 q1 q2 q3 q4 t1 t2 fS hls;by_cases c4:nx=low
      ·have C4:=lhd c4;have cP:(nx == low)=true:=by simpa using c4
       clear c4;go_wp2_with fail;go_ret;exact⟨pK,.inl ⟨rfl,by rw[<-C4.out];exact .single C6.out⟩⟩
      ·have C4:=lhd c4;have cP:(nx == low)=false:=by simpa using c4
       clear c4;have ae:=HI.out (mu (j6 K) (fun d=>if d=nx then true else sk d)) (by have:=HM.out;have:=HY.out;have:=qe8 (U:=j6 K) HF.out.2.1.1;omega) nx (kk+1) (fun d=>if d=nx then true else sk d) w3 (nlr _) (ft.out.1.gs pK) Ik.out C2.out bV.out.2.2.2 (by have:=HM.out;omega);have HC:=lhd ae;clear ae;go_wp2_with fail;refine HC.out.mono ?_;rintro e w4 ⟨rG,⟨rfl,ht⟩ | ⟨rfl,k4,s4,h1,h2,h3,h4⟩⟩
       ·have HT:=lhd ht;clear ht;go_wp2_with fail;go_ret;exact⟨pK.trans rG,.inl ⟨rfl,(Relation.TransGen.single C6.out).trans HT.out⟩⟩
       ·have H4:=lhd (aiq h1 (aiq h2 (aiq h3 h4)));have Aq:=pK.trans rG;have eo:w4.ranges Tryz.prog 3 hld b r len D (fun z=>left z && !z.sameKey (.int .i64 nx)) sI:=IU.out.kept (qav rG) (fun e=>by cases e;exact xD rfl) (fun e=>by cases e;omega);have Na:=lhd eo;clear h1 h2 h3 h4 eo;go_wp2_with fail;go_roundw
        case measure=>rw[Na.out.left_eq,Ao.out.left_eq];exact bV.out.2.1
        case rel =>
         have nk:∀ d,sk d=true->s4 d=true:=fun d hd=>H4.out.2.1.1 d ((EV.out d).2 (.inr hd))
         have mV:s4 nx=true:=H4.out.2.1.1 nx ((EV.out nx).2 (.inl rfl));refine⟨_,_,k4,s4,Na.out,Aq,⟨H4.out.1,?_,aP.out s4 nk (fun _ _=>mV),?_⟩⟩
         ·exact ka.visit HF.out.2.1 EV.out C4.out H4.out.2.1 H4.out.2.2.1
         ·have:=HM.out;have:=H4.out.2.2.2;omega
theorem qax {w:World} {T BS BH BL n c n1:Nat} {nb:Int->Nat} {a:Option Addr} {m:List Ce} {hi:Int->Int} (hF:Fld w T BS BH BL nb a n c m) (hA:Asc (m.map Ce.cl)) (ew:COk m) (hh:MpI w BH n1 hi) (fG:∀ d,hi d≠0->jv (m.map Ce.cl) (hi d)=true)
  (low:Int) (dO:hi low≠0) (C7:I64 low) (ao:(j6 (m.map Ce.cl)).length<=1000000000) :
  Calls Tryz.prog 101 #[.pointer (some ⟨T,0,none⟩),.int .i64 low] w fun e w'=>∃ q:Bool,e = .returned (.bool q)/\(q=true↔yp (m.map Ce.cl) hi low)/\Below w.heap.size w w':=by
 have cC:=@run_makeMap Tryz.prog;have iI:=lhd (aiq hF (aiq hA (aiq ew (aiq hh (aiq fG (aiq dO (aiq C7 ao)))))));clear hF hA ew hh fG dO C7 ao;go_enter Tryz.func101,Tryz.ntmps101;go_wp2_with fail;obtain⟨W,hW⟩ : ∃ W,W=(((((w.alloc (.cells #[.pointer (some ⟨T,0,none⟩)] 118)).alloc (.cells #[.int .i64 low] 3)).alloc (.map #[] 0)).alloc (.cells #[.map (some (w.heap.size+1+1))] 65)).alloc (.cells #[.nilFunc] 126)):=⟨_,rfl⟩
 rw[<-hW];have k1:W.cell? ⟨w.heap.size,0,none⟩=some (.pointer (some ⟨T,0,none⟩)):=by
  rw[hW];exact qk (qk (qk (qk (qd w #[.pointer (some ⟨T,0,none⟩)] 118 (0,0) 0) _) _) _) _
 have k3:W.cell? ⟨w.heap.size+1,0,none⟩=some (.int .i64 low):=by
  rw[hW];have:=qd (w.alloc (.cells #[.pointer (some ⟨T,0,none⟩)] 118)) #[.int .i64 low] 3 (0,0) 0;rw[World.size_alloc] at this;exact qk (qk (qk this _) _) _
 have k2:W.cell? ⟨w.heap.size+1+1+1,0,none⟩=some (.map (some (w.heap.size+1+1))):=by
  rw[hW];have:=qd (((w.alloc (.cells #[.pointer (some ⟨T,0,none⟩)] 118)).alloc (.cells #[.int .i64 low] 3)).alloc (.map #[] 0)) #[.map (some (w.heap.size+1+1))] 65 (0,0) 0;simp only [World.size_alloc] at this;exact qk this _
 have k4:W.cell? ⟨w.heap.size+1+1+1+1,0,none⟩=some .nilFunc:=by
  rw[hW];have:=qd ((((w.alloc (.cells #[.pointer (some ⟨T,0,none⟩)] 118)).alloc (.cells #[.int .i64 low] 3)).alloc (.map #[] 0)).alloc (.cells #[.map (some (w.heap.size+1+1))] 65)) #[.nilFunc] 126 (0,0) 0;simp only [World.size_alloc] at this;exact this
 have f4:W.frozen? ⟨w.heap.size+1+1+1+1,0,none⟩=false:=by
  rw[hW];have:=jz (heap_alloc_new ((((w.alloc (.cells #[.pointer (some ⟨T,0,none⟩)] 118)).alloc (.cells #[.int .i64 low] 3)).alloc (.map #[] 0)).alloc (.cells #[.map (some (w.heap.size+1+1))] 65)) (.cells #[.nilFunc] 126)) 0;simp only [World.size_alloc] at this;exact this
 have kS:MpB W (w.heap.size+1+1) 0 (fun _=>false):=by
  rw[hW];have:=MpB.made ((w.alloc (.cells #[.pointer (some ⟨T,0,none⟩)] 118)).alloc (.cells #[.int .i64 low] 3));simp only [World.size_alloc] at this;refine MpB.q8 (MpB.q8 this ((Below.refl _ _).alloc (by simp) _)) ((Below.refl _ _).alloc (by simp) _)
 have aK:Below w.heap.size w W:=by
  rw[hW];exact(((((Below.refl _ w).alloc (nlr _) _).alloc (by simp) _).alloc (by simp;omega) _).alloc (by simp;omega) _).alloc (by simp;omega) _
 have tH:W.heap.size=w.heap.size+5:=by rw[hW];simp
 obtain⟨p1,mP⟩ : ∃ p,p=w.heap.size:=⟨_,rfl⟩
 obtain⟨p3,C8⟩ : ∃ p,p=w.heap.size+1:=⟨_,rfl⟩
 obtain⟨SE,C9⟩ : ∃ p,p=w.heap.size+1+1:=⟨_,rfl⟩
 obtain⟨p2,oS⟩ : ∃ p,p=w.heap.size+1+1+1:=⟨_,rfl⟩
 obtain⟨p4,Nb⟩ : ∃ p,p=w.heap.size+1+1+1+1:=⟨_,rfl⟩
 rw[<-Nb] at k4 f4 ⊢;rw[<-oS] at k2 ⊢;rw[<-C9] at k2 kS ⊢;rw[<-C8] at k3 ⊢;rw[<-mP] at k1 ⊢;have ak:p1 < p3/\p3 < SE/\SE < p2/\p2 < p4/\w.heap.size<=p1/\w.heap.size<=SE:=by omega
 obtain⟨fv,xJ⟩ : ∃ fv,fv=Value.func (.func 155) #[] #[.pointer (some ⟨p1,0,none⟩),.pointer (some ⟨p2,0,none⟩),.pointer (some ⟨p3,0,none⟩),.pointer (some ⟨p4,0,none⟩)]:=⟨_,rfl⟩
 have aS:(store ⟨p4,0,none⟩ (Value.func (.func 155) #[] #[.pointer (some ⟨p1,0,none⟩),.pointer (some ⟨p2,0,none⟩),.pointer (some ⟨p3,0,none⟩),.pointer (some ⟨p4,0,none⟩)])).run Tryz.prog W = .ok () (W.setCell ⟨p4,0,none⟩ fv):=by
  rw[xJ,run_store _ _ _ _ _ rfl,k4,f4];rfl
 obtain⟨V,hV⟩ : ∃ V,V=W.setCell ⟨p4,0,none⟩ fv:=⟨_,rfl⟩
 rw[<-hV] at aS;have v1:V.cell? ⟨p1,0,none⟩=some (.pointer (some ⟨T,0,none⟩)):=by rw[hV];exact xe k1 (by show p1≠p4;omega)
 have v2:V.cell? ⟨p2,0,none⟩=some (.map (some SE)):=by rw[hV];exact xe k2 (by show p2≠p4;omega)
 have v3:V.cell? ⟨p3,0,none⟩=some (.int .i64 low):=by rw[hV];exact xe k3 (by show p3≠p4;omega)
 have v4:V.cell? ⟨p4,0,none⟩=some (Value.func (.func 155) #[] #[.pointer (some ⟨p1,0,none⟩),.pointer (some ⟨p2,0,none⟩),.pointer (some ⟨p3,0,none⟩),.pointer (some ⟨p4,0,none⟩)]):=by
  rw[hV,xJ];exact World.cell?_setCell_same' _ _ _ (by rw[k4];rfl)
 have aD:Below w.heap.size w V:=by rw[hV];exact aK.setCell (show w.heap.size<=p4 by omega) _
 have CA:MpB V SE 0 (fun _=>false):=by
  rw[hV];obtain⟨g,h1,h2⟩:=kS;exact⟨g,h1.setCell (by show SE≠p4;omega) _,h2⟩
 have iJ:Vis w V T SE p1 p2 p3 p4 low:=⟨aD,by omega,⟨by omega,by omega,by omega,by omega⟩,v1,v2,v3,v4⟩
 obtain⟨hF,hA,ew,hh,fG,dO,C7,ao⟩:=iI.out;have ae:=ql8 hF hA ew hh fG SE p1 p2 p3 p4 low _ low 0 (fun _=>false) V (nlr _) iJ CA dO C7 (by
  have:mu (j6 (m.map Ce.cl)) (fun _=>false)<=(j6 (m.map Ce.cl)).length:=bg _ _;omega)
 have HC:=lhd ae;have HV:=lhd (aiq aD (aiq (show V.heap.size=W.heap.size by rw[hV];simp[World.setCell]) ak));clear hW mP oS C8 Nb C9 aK kS tH ae iJ CA aD hV xJ hF hA ew hh fG dO C7 ao k1 k2 k3;rw[aS];go_wp2_with fail;refine HC.out.mono ?_;rintro e w2 ⟨hG,hq⟩;have aw:Below w.heap.size w w2:=HV.out.1.trans (hG.below HV.out.1.size (fun b hb=>by rw[hb];have:=HV.out.2.2;omega));have aF:=lhd aw;rcases hq with ⟨rfl,ht⟩ | ⟨rfl,k',s',h1,h2,h3,h4⟩
 ·have HT:=lhd ht;clear ht hG;go_wp2_with fail;go_ret;exact⟨true,rfl,⟨fun _=>HT.out,fun _=>rfl⟩,aF.out⟩
 ·have HT:=lhd (ka.none (fun _ h=>by cases h) h2 h3);clear h1 h2 h3 h4 hG;go_wp2_with fail;go_ret;exact⟨false,rfl,⟨(fun h=>by cases h),fun h=>absurd h HT.out⟩,aF.out⟩
end Go.Proofs.YtlhicnfeajejhaaGreatDoor
