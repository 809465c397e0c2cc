/- cells.Canon. Look-ups and stores of a map inside regions that draw their order. No program. cells.of. -/
import Derived.Test.YtlhicnfeajejhaaGreatDoorJNl
set_option maxRecDepth 1000000
set_option maxHeartbeats 16000000
namespace Go.Cx
open Go.RowKit
def Bv (w:World) (b:Nat) (v:Value):Prop:=w.cell? ⟨b,0,none⟩=some v/\w.frozen? ⟨b,0,none⟩=false
theorem Bv.new (w:World) (v:Value) (t:TypeId):Bv (w.alloc (.cells #[v] t)) w.heap.size v:=⟨qd _ _ _ _ _,jz (heap_alloc_new w _) _⟩
theorem qv {B:Nat} {w w':World} (h:Below B w w') {p:Addr} (hp:p.block < B) (hf:w.frozen? p=false):w'.frozen? p=false:=by
 have:=h.block p.block hp;unfold World.frozen? at *;rw[this];exact hf
theorem Bv.below {B:Nat} {w w':World} {b:Nat} {v:Value} (h:Bv w b v) (hb:Below B w w') (hB:b < B):Bv w' b v:=by
 refine⟨(hb.cell (by exact hB)).trans h.1,qv hb hB h.2⟩
theorem Bv.alloc {w:World} {b:Nat} {v:Value} (h:Bv w b v) (o:Obj):Bv (w.alloc o) b v :=
 h.below ((Below.refl _ w).alloc (nlr _) o) (World.block_lt_of_cell? w _ h.1)
theorem Bv.q8 {w w':World} {b:Nat} {v:Value} (h:Bv w b v) (hb:Below w.heap.size w w'):Bv w' b v:=h.below hb (World.block_lt_of_cell? w _ h.1)
theorem Bv.put {w:World} {b:Nat} {v:Value} (h:Bv w b v) (u:Value):Bv (w.setCell ⟨b,0,none⟩ u) b u :=
 ⟨World.cell?_setCell_same' _ _ _ (by rw[h.1];rfl),by rw[World.frozen?_setCell];exact h.2⟩
theorem Bv.other {w:World} {b:Nat} {v:Value} (h:Bv w b v) {a:Addr} (ha:b≠a.block) (u:Value):Bv (w.setCell a u) b v :=
 ⟨xe h.1 ha,by rw[World.frozen?_setCell];exact h.2⟩
theorem SlC.mono {w w':World} {v:Value} {l:List Ce} (h:SlC w v l) (hk:∀ p u,w.cell? p=some u->w'.cell? p=some u):SlC w' v l:=⟨h.1.mono hk,fun x hx=>(h.2 x hx).mono hk⟩
theorem SlC.q8 {w w':World} {v:Value} {l:List Ce} (h:SlC w v l) (hb:Below w.heap.size w w'):SlC w' v l:=h.mono fun _ _ hc=>Cx.q8 hb hc
theorem SlC.alloc {w:World} {v:Value} {l:List Ce} (h:SlC w v l) (o:Obj):SlC (w.alloc o) v l:=h.q8 ((Below.refl _ w).alloc (nlr _) o)
theorem qk5 (m rest:List Ce) (x:Ce) (a:Option Addr) (n c:Nat) (s:List Sd):(cat Ce.enc (m++x :: rest)).set (m.length*3+2) (.slice a n c)=cat Ce.enc (m++⟨x.id,x.dim,a,n,c,s⟩ :: rest):=by
 rw[x9,x9,List.set_append_right _ _ (by rw[qt Ce.qp];omega),qt Ce.qp,show m.length*3+2 - m.length*3=2 by omega];rfl
theorem zh (l:List Ce) (i:Nat) (x:Ce) (h:l[i]? = some x):(cat Ce.enc l)[i*3]? = some (.int .i64 x.id)/\(cat Ce.enc l)[i*3+1]? = some (.int .i64 x.dim)/\(cat Ce.enc l)[i*3+2]? = some (.slice x.a x.n x.c) :=
 ⟨q2l Ce.qp l i 0 x h (by omega),q2l Ce.qp l i 1 x h (by omega),q2l Ce.qp l i 2 x h (by omega)⟩
theorem zw (l:List Sd) (i:Nat) (x:Sd) (h:l[i]? = some x):(cat Sd.enc l)[i*2]? = some (.int .i64 x.c)/\(cat Sd.enc l)[i*2+1]? = some (.int .i64 x.g) :=
 ⟨q2l Sd.qp l i 0 x h (by omega),q2l Sd.qp l i 1 x h (by omega)⟩
end Go.Cx
namespace Go.Proofs.YtlhicnfeajejhaaGreatDoor
open Go.RowKit Go.Cx
attribute [local go_sem ↓] Go.wp_at_zero Go.wp_at_succ
theorem q8l (v:Value) (l:List Ce) (w:World) (h:SlC w v l) (hl:l.length<=1099511627776) (hsl:∀ x∈l,x.s.length<=19) :
  Calls Tryz.prog 152 #[.agg #[v]] w fun e w'=>∃ r m,e = .returned (.agg #[r])/\m.map Ce.cl=canon (l.map Ce.cl)/\w'.ownsRow w.heap.size 75 3 r m.length (cat Ce.enc m) ∧
   (∀ x∈m,w'.ownsRow w.heap.size 108 2 x.sl x.s.length (cat Sd.enc x.s))/\Below w.heap.size w w':=by
 obtain⟨a,n,cap,rfl⟩:=qg h.1;have HH:=lhd h;clear h;have HSL:=lhd hsl;clear hsl;go_enter Tryz.func152,Tryz.ntmps152;go_wp2_with fail;refine(qc0 _ l _ ((HH.out.1.alloc _).alloc _) hl).mono ?_;rintro e w1 ⟨r,l',rfl,k1,k2,hr,hb1⟩;simp only [World.size_alloc] at hr hb1;have hz1:w.heap.size+2<=w1.heap.size:=by have:=hb1.size;simpa using this
 have hB1:Below w.heap.size w w1:=(((Below.refl _ w).alloc (nlr _) _).alloc (by simp) _).trans (hb1.mono (by omega));have b1:Bv w1 (w.heap.size+1) (.slice none 0 0):=by
  have:=Bv.new (w.alloc (.cells #[.slice a n cap] 26)) (.slice none 0 0) 26;rw[World.size_alloc] at this;exact this.below hb1 (by omega)
 have hcl:stb Cl.id (l.map Ce.cl)=l'.map Ce.cl:=by
  rw[qke (key:=Ce.id) Ce.cl (fun _=>rfl),q8s k1 k2]
 have HCL:=lhd hcl;have hmem:∀ x∈l',x∈l:=fun x hx=>(k1.mem x).2 hx
 have HM:=lhd hmem;have hln:l'.length<=1099511627776:=by rw[<-k1.len];exact hl
 have HK1:=lhd k1;clear hcl hmem k1 k2 hb1;obtain⟨a',cap',rfl⟩:=qj hr;obtain⟨len,hlen⟩ : ∃ len,len=l'.length:=⟨_,rfl⟩
 rw[<-hlen] at hr hln ⊢;have HL:=lhd hlen;clear hlen;have HR:=lhd hr;clear hr;go_wp2;go_loopw [4,10] (fun _ i wr=>∃ (k:Nat) (m:List Ce),i = .int .i64 k/\k<=len/\m.length=k/\wr.ownsRow (w.heap.size+2) 75 3 (.slice a' len cap') len (cat Ce.enc (m++l'.drop k)) ∧
  Hid (∀ x∈m,wr.ownsRow w1.heap.size 108 2 x.sl x.s.length (cat Sd.enc x.s))/\Hid (m.map Ce.cl=(l'.take k).map (fun x=>x.cl.canon))/\Bv wr (w.heap.size+1) (.slice none 0 0)/\Below w.heap.size w wr/\w1.heap.size<=wr.heap.size) (fun _ i _=>len - (vI i).toNat)
 case atStart=>exact⟨0,[],rfl,Nat.zero_le _,rfl,HR.out,(show Hid _ from fun x hx=>by simp at hx),(show Hid _ from rfl),b1,hB1,nlr _⟩
 case round =>
  obtain⟨k,m,rfl,hk,hmk,hrow,HF,HE,hbx,hB,hzr⟩:=hrel;obtain⟨p0,p1⟩:=hbx;by_cases hlt:k < len
  ·obtain⟨g,rfl⟩ : ∃ g,a'=some ⟨g,0,none⟩:=by
    rcases hrow.2 with ⟨hv,_⟩ | ⟨g,cg,cur,hv,_⟩
    ·injection hv with _ hn _;omega
    ·injection hv with ha _ _;exact⟨g,ha⟩
   obtain⟨x,hx⟩ : ∃ x,l'[k]? = some x:=⟨_,List.getElem?_eq_getElem (by rw[<-HL.out];exact hlt)⟩
   have hxm:x∈l':=List.mem_of_getElem? hx;have hdk:l'.drop k=x :: l'.drop (k+1):=by
    have hkl:k < l'.length:=by rw[<-HL.out];exact hlt
    rw[List.drop_eq_getElem_cons hkl]
    congr 1
    have:=List.getElem?_eq_getElem hkl;rw[this] at hx;exact osi hx
   have htk:l'.take (k+1)=l'.take k++[x]:=by rw[List.take_add_one,hx];rfl
   have hgl:=(HR.out.lt g rfl)
   have hgs:g < w1.heap.size:=hgl.2;have hgb:w.heap.size+2<=g:=hgl.1;have hnb:k*3+2 < len*3:=by omega
   have c2:wr.cell? ⟨g,k*3+2,none⟩=some (.slice x.a x.n x.c):=by
    have h1:=hrow.cellAt (k*3+2) hnb;rw[h1];refine(zh (m++l'.drop k) k x ?_).2.2;rw[List.getElem?_append_right (by omega),hmk,Nat.sub_self,hdk];rfl
   have f2:wr.frozen? ⟨g,k*3+2,none⟩=false:=hrow.frozenAt _;have hsx:Sl wr 2 (.slice x.a x.n x.c) (cat Sd.enc x.s):=(HH.out.2 x (HM.out x hxm)).q8 hB;have hcall:=qc1 (.slice x.a x.n x.c) x.s wr hsx (HSL.out x (HM.out x hxm));have HC:=lhd hcall;have HRow:=lhd hrow;have HX:=lhd (aiq hdk htk);clear hsx hcall hrow hx hxm hdk htk hgl;go_wp2_with fail;refine HC.out.mono ?_;rintro e w2 ⟨r2,s',rfl,q1,q2,hr2,hb2⟩;obtain⟨a2,cap2,rfl⟩:=qj hr2;have c3:w2.cell? ⟨g,k*3+2,none⟩=some (.slice x.a x.n x.c):=q8 hb2 c2;have f3:w2.frozen? ⟨g,k*3+2,none⟩=false:=qv hb2 (by show g < _;omega) f2;have HQ:=lhd (aiq q1 q2);clear q1 q2;have HR2:=lhd hr2;clear hr2;have HB2:=lhd hb2;clear hb2;go_wp2;go_roundw
   case measure=>simp[vI];omega
   case rel =>
    have hrow2:=(qa HRow.out HB2.out).stored (k*3+2) (.slice a2 s'.length cap2);refine⟨k+1,m++[⟨x.id,x.dim,a2,s'.length,cap2,s'⟩],qh (by omega),by omega,by simp[hmk],?_,(show Hid _ from fun y hy=>?_),(show Hid _ from ?_),?_,?_,?_⟩
    ·have:=hrow2.1;rw[HX.out.1,<-hmk,qk5 m (l'.drop (m.length+1)) x a2 s'.length cap2 s'] at this;rw[List.append_assoc];rw[<-hmk];exact this
    ·rcases List.mem_append.1 hy with hy | hy
     ·exact ownsRow_setCell_below (qa (HF.out y hy) HB2.out) hgs _
     ·simp at hy;subst hy;exact ownsRow_setCell_below (qf HR2.out hzr) hgs _
    ·show _=_;rw[List.map_append,HE.out,HX.out.2,List.map_append]
     congr 1
     simp only [List.map_cons,List.map_nil,Cl.canon,Ce.cl];rw[q8s HQ.out.1 HQ.out.2]
    ·exact(Bv.q8 ⟨p0,p1⟩ HB2.out).other (show w.heap.size+1≠g by omega) _
    ·exact(hB.trans (HB2.out.mono hB.size)).setCell (show w.heap.size<=g by omega) _
    ·have:=HB2.out.size;simp[World.setCell];omega
  ·have hkl:k=len:=by omega
   have HKL:=lhd hkl;clear hkl;have HRow:=lhd hrow;clear hrow;go_wp2_with fail;refine bodyPost_ret (v:=.agg #[.slice a' len cap']) (by simp[results,Tryz.results152,go_sem,(Bv.put (w:=wr) (b:=w.heap.size+1) ⟨p0,p1⟩ (.slice a' len cap')).1]) rfl ⟨_,m,rfl,?_,?_,fun y hy=>?_,?_⟩
   ·rw[HE.out,HKL.out,List.take_of_length_le (by rw[<-HL.out];exact nlr _)];unfold canon;rw[HCL.out,List.map_map];rfl
   ·have:=HRow.out;rw[HKL.out,List.drop_of_length_le (by rw[<-HL.out];exact nlr _),List.append_nil] at this;rw[hmk,HKL.out];exact qf (ownsRow_setCell_below this (by show w.heap.size+1 < _;omega) _) (by omega)
   ·exact qf (ownsRow_setCell_below (HF.out y hy) (by show w.heap.size+1 < _;omega) _) (by omega)
   ·exact hB.setCell (show w.heap.size<=w.heap.size+1 by omega) _
end Go.Proofs.YtlhicnfeajejhaaGreatDoor
namespace Go.Cx
open Go.RowKit Go.Maps
variable {P:Program} {k t e:TypeId} {w:World} {b n:Nat} {g:Int->Option Value}
variable {ops:Array Oper} {o:Oper} {a:Act} {Q:Exit->Act->World->Prop} {K:Act->World->Prop} {E:Prop}
end Go.Cx
namespace Go.Cx
open Go.RowKit
def Ce.v (x:Ce):Value:=.agg #[.int .i64 x.id,.int .i64 x.dim,.slice x.a x.n x.c]
def gOf (L:List Ce):Int->Option Value:=fun c=>(L.find? (fun x=>x.id == c)).map Ce.v
theorem qa6 (L:List Ce) (c:Int):(gOf L c).isSome=true↔∃ y∈L,y.id=c:=by
 simp[gOf]
theorem qk6 (L:List Ce) (x:Ce) (h:∃ y∈L,y.id=x.id):gOf (L++[x])=gOf L:=by
 funext c
 unfold gOf;rw[List.find?_append];cases hf:L.find? (fun x=>x.id == c) with
 | some y=>rfl
 | none =>
  have hc:x.id≠c:=by
   intro e;obtain⟨y,hy,he⟩:=h;have:=List.find?_eq_none.1 hf y hy;simp at this;omega
  simp[hc]
theorem qk7 (L:List Ce) (x:Ce) (h:¬ ∃ y∈L,y.id=x.id):gOf (L++[x])=zg (gOf L) x.id x.v:=by
 funext c
 unfold gOf zg;rw[List.find?_append];by_cases hc:c=x.id
 ·subst hc;have:L.find? (fun y=>y.id == x.id)=none:=List.find?_eq_none.2 fun y hy e=>h ⟨y,hy,by simpa using e⟩
  rw[this];simp
 ·rw[if_neg hc];have:([x].find? fun y=>y.id == c)=none:=by simp;exact fun e=>hc e.symm
  rw[this];simp
theorem Sl.frame {w w':World} {st:Nat} {v:Value} {xs:List Value} (h:Sl w st v xs) (T:Nat) (hb:∀ ad n c,v = .slice (some ad) n c->T < ad.block) (hk:∀ p:Addr,T < p.block->∀ u,w.cell? p=some u->w'.cell? p=some u):Sl w' st v xs:=by
 obtain⟨a,n,cap,h1,h2,h3,h4,h5,h6⟩:=h;refine⟨a,n,cap,h1,h2,h3,h4,h5,fun ad ha j u hj=>hk _ ?_ _ (h6 ad ha j u hj)⟩;have:(ad.add j).block=ad.block:=by unfold Addr.add;split <;> rfl
 rw[this];exact hb ad n cap (by rw[h1,ha])
end Go.Cx
namespace Go.Proofs.YtlhicnfeajejhaaGreatDoor
open Go.RowKit Go.Cx
attribute [local go_sem ↓] Go.wp_at_zero Go.wp_at_succ
def COk (l:List Ce):Prop:=∀ x∈l,(I64 x.id/\I64 x.dim)/\x.s.length<=19/\∀ s∈x.s,I64 s.c/\I64 s.g
def Tab (w:World) (base T:Nat) (L:List Cl):Prop :=
 ∃ (B n:Nat) (v:Value) (m:List Ce),base<=T/\base<=B/\w.cell? ⟨T,0,none⟩=some (.map (some B))/\w.cell? ⟨T,1,none⟩=some v/\Mp Tryz.prog 3 w B n (gOf m) ∧
  Sl w 1 v (ints ((xi Ce.id m).map Ce.id))/\m.map Ce.cl=canon L/\(∀ x∈m,Sl w 2 x.sl (cat Sd.enc x.s))
theorem q5v (c:Int):∀ u∈[Value.int .i64 c],u.oneCell'=true:=by intro u hu;simp at hu;subst hu;rfl
theorem zeroCell (w:World):(zeroValue 75).run Tryz.prog w = .ok (.agg #[.int .i64 0,.int .i64 0,.slice none 0 0]) w:=Tryz.zeroValue75 w
theorem q3b (a:Option Addr) (n c:Nat):∀ w:World,(Instr.field 26 (.agg #[.slice a n c]) 0).run Tryz.prog w = .ok (.slice a n c) w:=fun w=>by kernel_rfl
theorem qnb (v:Value) (l:List Ce) (w:World) (h:SlC w v l) (hl:l.length<=1099511627776) (hok:COk l) :
  Calls Tryz.prog 132 #[.agg #[v]] w fun e w'=>∃ T,e = .returned (.pointer (some ⟨T,0,none⟩))/\Tab w' w.heap.size T (l.map Ce.cl)/\Below w.heap.size w w':=by
 have mixed:Tryz.prog.follows .mixedOrders=true:=by kernel_rfl
 obtain⟨a,n,cap,rfl⟩:=qg h.1;have HH:=lhd h;clear h;have HOK:=lhd hok;clear hok;have hmm:=@run_makeMap Tryz.prog;go_enter Tryz.func132,Tryz.ntmps132;go_wp2_with fail;have hc:=q8l (.slice a n cap) l (((w.alloc (.cells #[.slice a n cap] 26)).alloc (.map #[] 0)).alloc (.cells #[.map (some (w.heap.size+1)),.slice none 0 0] 183)) (((HH.out.alloc _).alloc _).alloc _) hl (fun x hx=>(HOK.out x hx).2.1);refine hc.mono ?_;rintro e w1 ⟨r,m,rfl,hm,hr,hs,hb1⟩;clear hc;simp only [World.size_alloc] at hr hs hb1;have hz1:w.heap.size+3<=w1.heap.size:=by have:=hb1.size;simpa using this
 obtain⟨W0,hW0⟩ : ∃ W0,W0=((w.alloc (.cells #[.slice a n cap] 26)).alloc (.map #[] 0)).alloc (.cells #[.map (some (w.heap.size+1)),.slice none 0 0] 183):=⟨_,rfl⟩
 have hB0:Below w.heap.size w W0:=by rw[hW0];exact(((Below.refl _ w).alloc (nlr _) _).alloc (by simp) _).alloc (by simp;omega) _
 have t0:W0.cell? ⟨w.heap.size+2,0,none⟩=some (.map (some (w.heap.size+1))):=by rw[hW0];have:=qd ((w.alloc (.cells #[.slice a n cap] 26)).alloc (.map #[] 0)) #[.map (some (w.heap.size+1)),.slice none 0 0] 183 (0,0) 0;simpa using this
 have t1:W0.cell? ⟨w.heap.size+2,1,none⟩=some (.slice none 0 0):=by rw[hW0];have:=qd ((w.alloc (.cells #[.slice a n cap] 26)).alloc (.map #[] 0)) #[.map (some (w.heap.size+1)),.slice none 0 0] 183 (0,0) 1;simpa using this
 have t2:W0.frozen? ⟨w.heap.size+2,1,none⟩=false:=by
  rw[hW0];have:=jz (heap_alloc_new ((w.alloc (.cells #[.slice a n cap] 26)).alloc (.map #[] 0)) (.cells #[.map (some (w.heap.size+1)),.slice none 0 0] 183)) 1;simpa using this
 have tm:Mp Tryz.prog 3 W0 (w.heap.size+1) 0 (gOf []):=by
  rw[hW0];rw[show gOf []=fun _=>none from rfl];have:=(Mp.made (w.alloc (.cells #[.slice a n cap] 26)) Tryz.prog 3).alloc (.cells #[.map (some (w.heap.size+1)),.slice none 0 0] 183);simpa using this
 rw[<-hW0] at hb1;have hz0:W0.heap.size=w.heap.size+3:=by rw[hW0];simp
 clear hW0;have hB1:Below w.heap.size w w1:=hB0.trans (hb1.mono (by omega));have u0:=q1n hb1 (by omega) t0;have u1:=q1n hb1 (by omega) t1;have u2:=qv hb1 (by show w.heap.size+2 < _;omega) t2;have um:=tm.below hb1 (by omega);obtain⟨T,hT⟩ : ∃ T,T=w.heap.size+2:=⟨_,rfl⟩
 obtain⟨B,hB⟩ : ∃ B,B=w.heap.size+1:=⟨_,rfl⟩
 rw[<-hT] at u0 u1 u2 ⊢;rw[<-hB] at u0 um;have hTT:w.heap.size < T/\T < w.heap.size+3/\w.heap.size<=B/\B < T:=by omega
 have HTB:=lhd (aiq hT hB);clear t0 t1 t2 tm hB0 hz0 hT hB hb1;have hml:m.length=l.length:=by
  have:=congrArg List.length hm;rw[q0z,List.length_map,List.length_map] at this;exact this
 have hmi:∀ x∈m,I64 x.id:=fun x hx=>by
  have h1:x.cl∈canon (l.map Ce.cl):=by rw[<-hm];exact List.mem_map_of_mem hx
  obtain⟨y,hy,he⟩:=List.mem_map.1 h1;obtain⟨z,hz,rfl⟩:=List.mem_map.1 ((q2m _ y).1 hy);have h2:=congrArg Cl.id he;have h3:z.id=x.id:=h2;rw[<-h3];exact(HOK.out z hz).1.1
 have HMI:=lhd hmi;clear hmi;have HM:=lhd hm;clear hm;have HS:=lhd hs;clear hs;obtain⟨a',cap',rfl⟩:=qj hr;have hsr:=Sl.qc hr;have hblk:∀ ad,a'=some ad->w.heap.size+3<=ad.block:=fun ad e=>by
  have:=(hr.lt ad.block (by rw[e];rfl)).1;simpa using this
 have HBL:=lhd hblk;clear hblk;have HSR:=lhd hsr;clear hsr hr;obtain⟨len,hlen⟩ : ∃ len,len=m.length:=⟨_,rfl⟩
 rw[<-hlen] at HSR ⊢;have hll:len<=1099511627776:=by omega
 have HL:=lhd hlen;clear hlen hml hl;have hfd:=q3b a' len cap';go_wp2;go_loopw [5,6,7,15] (fun _ _ _ i wr=>∃ (k:Nat) (v:Value),i = .int .i64 k/\k<=len/\Mp Tryz.prog 3 wr B k (gOf (m.take k))/\wr.cell? ⟨T,0,none⟩=some (.map (some B))/\wr.cell? ⟨T,1,none⟩=some v/\wr.frozen? ⟨T,1,none⟩=false ∧
  wr.ownsRow w1.heap.size 3 1 v (xi Ce.id (m.take k)).length (ints ((xi Ce.id (m.take k)).map Ce.id))/\Below w.heap.size w wr/\(∀ p:Addr,T < p.block->∀ u,w1.cell? p=some u->wr.cell? p=some u)/\w1.heap.size<=wr.heap.size) (fun _ _ _ i _=>len - (vI i).toNat)
 case atStart=>exact⟨0,_,rfl,Nat.zero_le _,um,u0,u1,u2,World.ownsRow_nil _ _ _ _,hB1,fun _ _ _ h=>h,nlr _⟩
 case round =>
  obtain⟨k,v,rfl,hk,hmp,q0,q1,q2,hrow,hBw,hfr,hzr⟩:=hrel;have HFR:=lhd hfr;clear hfr;have HRow:=lhd hrow;clear hrow;clear u0 u1 u2 um;by_cases hlt:k < len
  ·obtain⟨x,hx⟩ : ∃ x,m[k]? = some x:=⟨_,List.getElem?_eq_getElem (by rw[<-HL.out];exact hlt)⟩
   obtain⟨h2,h3,h4,h5,h6⟩:=HSR.out.open;obtain⟨ad,rfl⟩ : ∃ ad,a'=some ad:=by
    cases a' with
    | none=>have:=h5 rfl;omega
    | some ad=>exact⟨ad,rfl⟩
   have hab:T < ad.block:=by have:=HBL.out ad rfl;omega
   have hadd:∀ j,(ad.add j).block=ad.block:=fun j=>by unfold Addr.add;split <;> rfl
   obtain⟨e0,e1,e2⟩:=zh m k x hx;have d0:wr.cell? (ad.add (k*3))=some (.int .i64 x.id):=HFR.out _ (by rw[hadd];exact hab) _ (h6 ad rfl _ _ e0);have d1:wr.cell? ⟨(ad.add (k*3)).block,(ad.add (k*3)).off+1,none⟩=some (.int .i64 x.dim):=by rw[qi _ _ _ (by omega)];exact HFR.out _ (by rw[hadd];exact hab) _ (h6 ad rfl _ _ e1)
   have d2:wr.cell? ⟨(ad.add (k*3)).block,(ad.add (k*3)).off+2,none⟩=some (.slice x.a x.n x.c):=by rw[qi _ _ _ (by omega)];exact HFR.out _ (by rw[hadd];exact hab) _ (h6 ad rfl _ _ e2)
   have hmx:=List.mem_of_getElem? hx;have hxi:=HMI.out x hmx;have hkey:=q0k (P:=Tryz.prog) (k:=3) Tryz.underlying3 hxi.1 hxi.2;have htk:m.take (k+1)=m.take k++[x]:=by rw[List.take_add_one,hx];rfl
   have HTK:=lhd htk;clear h2 h3 h4 h5 h6 e0 e1 e2 hadd hx htk hmx hxi;have a0:(wr.alloc (.cells #[.int .i64 x.id,.int .i64 x.dim,.slice x.a x.n x.c] 75)).cell? ⟨T,0,none⟩=some (.map (some B)):=qk q0 _;have a1:(wr.alloc (.cells #[.int .i64 x.id,.int .i64 x.dim,.slice x.a x.n x.c] 75)).cell? ⟨wr.heap.size,0,none⟩=some (.int .i64 x.id):=qd wr #[.int .i64 x.id,.int .i64 x.dim,.slice x.a x.n x.c] 75 (0,0) 0;have am:=hmp.alloc (.cells #[.int .i64 x.id,.int .i64 x.dim,.slice x.a x.n x.c] 75);obtain⟨zi,zd,za,zn,zc,F,hz,hF⟩ : ∃ (zi zd:Int) (za:Option Addr) (zn zc:Nat) (F:Bool),(gOf (m.take k) x.id).getD (.agg #[.int .i64 0,.int .i64 0,.slice none 0 0]) = .agg #[.int .i64 zi,.int .i64 zd,.slice za zn zc]/\(gOf (m.take k) x.id).isSome=F:=by
    unfold gOf;cases (m.take k).find? (fun y=>y.id == x.id) with
    | none=>exact⟨_,_,_,_,_,_,rfl,rfl⟩
    | some y=>exact⟨_,_,_,_,_,_,rfl,rfl⟩
   have hlk:∀ W:World,Mp Tryz.prog 3 W B k (gOf (m.take k))->(Instr.lookup 181 (.map (some B)) (.int .i64 x.id) true).run Tryz.prog W = .ok (.tuple #[.agg #[.int .i64 zi,.int .i64 zd,.slice za zn zc],.bool F]) W:=fun W hW=>by
    have:=hW.qgy Tryz.underlying3 Tryz.underlying181 (zeroCell _) hkey
    rwa [hz,hF] at this
   have HLK:=lhd hlk;have HFF:=lhd hF;clear hz hF hlk;go_wp2_with fail
   go_region_held3 (fun w'=>w'.cell? ⟨T,0,none⟩=some (.map (some B))/\w'.cell? ⟨wr.heap.size,0,none⟩=some (.int .i64 x.id)/\Mp Tryz.prog 3 w' B k (gOf (m.take k))/\(Instr.lookup 181 (.map (some B)) (.int .i64 x.id) true).run Tryz.prog w' = .ok (.tuple #[.agg #[.int .i64 zi,.int .i64 zd,.slice za zn zc],.bool F]) w')
    (first
     | exact⟨by assumption,by assumption,by assumption,HLK.out _ (by assumption)⟩
     | exact⟨qk (by assumption) _,qk (by assumption) _,Mp.alloc (by assumption) _,HLK.out _ (Mp.alloc (by assumption) _)⟩)
    (fail)
   all_goals
    obtain⟨W3,hW3⟩ : ∃ W3,W3=((wr.alloc (.cells #[.int .i64 x.id,.int .i64 x.dim,.slice x.a x.n x.c] 75)).alloc (.cells #[.int .i64 zi,.int .i64 zd,.slice za zn zc] 75)).drew:=⟨_,rfl⟩
    rw[<-hW3];have hB3:Below wr.heap.size wr W3:=by rw[hW3];exact qb (((Below.refl _ wr).alloc (nlr _) _).alloc (by simp) _) 1
    have x0:W3.cell? ⟨wr.heap.size,0,none⟩=some (.int .i64 x.id):=by rw[hW3];exact qk (qd wr #[.int .i64 x.id,.int .i64 x.dim,.slice x.a x.n x.c] 75 (0,0) 0) _
    have x1:W3.cell? ⟨wr.heap.size,1,none⟩=some (.int .i64 x.dim):=by rw[hW3];exact qk (qd wr #[.int .i64 x.id,.int .i64 x.dim,.slice x.a x.n x.c] 75 (0,0) 1) _
    have x2:W3.cell? ⟨wr.heap.size,2,none⟩=some (.slice x.a x.n x.c):=by rw[hW3];exact qk (qd wr #[.int .i64 x.id,.int .i64 x.dim,.slice x.a x.n x.c] 75 (0,0) 2) _
    have hz3:wr.heap.size+2=W3.heap.size:=by rw[hW3];simp
    clear hW3 a0 a1 am;have y0:=Cx.q8 hB3 q0;have y1:=Cx.q8 hB3 q1;have y2:W3.frozen? ⟨T,1,none⟩=false:=qv hB3 (World.block_lt_of_cell? wr _ q1) q2;have ym:=hmp.q8 hB3;have yr:=qa HRow.out hB3;have YR:=lhd yr;clear yr;have HB3:=lhd hB3;clear hB3;by_cases hFt:F=true
    ·subst hFt;go_wp2;go_roundw
     case measure=>simp[vI];omega
     case rel =>
      have hex:=(qa6 _ _).1 HFF.out;refine⟨k+1,v,qh (by omega),by omega,?_,y0,y1,y2,?_,hBw.trans (HB3.out.mono hBw.size),fun p hp u hu=>Cx.q8 HB3.out (HFR.out p hp u hu),by omega⟩
      ·rw[HTK.out,qk6 _ _ hex];exact ym.mono (Nat.le_succ _)
      ·rw[HTK.out,q4z _ _ hex];exact YR.out
    ·have hFf:F=false:=by simpa using hFt
     subst hFf;have hnex:¬ ∃ y∈m.take k,y.id=x.id:=fun h=>by have:=(qa6 _ _).2 h;rw[HFF.out] at this;cases this
     have HNX:=lhd hnex;clear hnex hFt;have hTl:T < wr.heap.size:=World.block_lt_of_cell? wr _ q0;obtain⟨w5,hset,hm5,hg5⟩:=Mp.set (w:=W3.drew) (P:=Tryz.prog) (k:=3) (t:=181) (e:=75) (g:=gOf (m.take k)) (n:=k) (b:=B) ym Tryz.underlying3 Tryz.underlying181 (by unfold maxLen;omega) hkey x.v;have z0:w5.cell? ⟨T,0,none⟩=some (.map (some B)):=ql hg5 y0 (fun k e=>by cases e;show T≠B;omega);have z1:w5.cell? ⟨T,1,none⟩=some v:=ql hg5 y1 (fun k e=>by cases e;show T≠B;omega);have zx0:w5.cell? ⟨wr.heap.size,0,none⟩=some (.int .i64 x.id):=ql hg5 x0 (fun k e=>by cases e;show wr.heap.size≠B;omega);have zx1:w5.cell? ⟨wr.heap.size,1,none⟩=some (.int .i64 x.dim):=ql hg5 x1 (fun k e=>by cases e;show wr.heap.size≠B;omega);have zx2:w5.cell? ⟨wr.heap.size,2,none⟩=some (.slice x.a x.n x.c):=ql hg5 x2 (fun k e=>by cases e;show wr.heap.size≠B;omega);have z2:w5.frozen? ⟨T,1,none⟩=false:=by
      have:=hg5.frozen_far ⟨T,1,none⟩ (World.block_lt_of_cell? W3 _ y1) (by simp;omega);rw[this];exact y2
     have hown5:w5.ownsRow w1.heap.size 3 1 v (xi Ce.id (m.take k)).length (ints ((xi Ce.id (m.take k)).map Ce.id)):=(World.ownsRow.drew YR.out).kept hg5 (.inr (fun e=>by have:=((YR.out).lt B e).1;omega));have hz5:W3.heap.size<=w5.heap.size:=hg5.size;have hset2:(Instr.mapUpdate 181 (.map (some B)) (.int .i64 x.id) (.agg #[.int .i64 x.id,.int .i64 x.dim,.slice x.a x.n x.c])).run Tryz.prog W3.drew = .ok () w5:=hset;have HM5:=lhd hm5;clear hm5;have HG5:=lhd hg5;clear hg5;have HO5:=lhd hown5;clear hown5 hset;have rne:∀ k,v.ownBlock=some k->wr.heap.size≠k:=fun k e=>by have:=(HRow.out.lt k e).2;omega
     have RNE:=lhd rne;clear rne;have hfl:=q3c (key:=Ce.id) (m.take k);rw[List.length_take] at hfl;have fr5:(w5.drew.alloc (.cells #[.int .i64 x.id] 3)).frozen? ⟨T,1,none⟩=false:=qv ((Below.refl _ w5.drew).alloc (nlr _) _) (World.block_lt_of_cell? w5 _ z1) z2;have FR5:=lhd fr5;clear fr5;go_wp2_with fail
     go_region_held3 (fun w'=>w'.cell? ⟨T,0,none⟩=some (.map (some B))/\w'.cell? ⟨wr.heap.size,0,none⟩=some (.int .i64 x.id)/\w'.cell? ⟨wr.heap.size,1,none⟩=some (.int .i64 x.dim)/\w'.cell? ⟨wr.heap.size,2,none⟩=some (.slice x.a x.n x.c))
      (first
       | exact⟨by assumption,by assumption,by assumption,by assumption⟩)
      (fail)
     all_goals
      obtain⟨i0,hi,hz0,hz1,hz2⟩:=info_parts Tryz.xg;go_wp2_with fail;have za1:(w5.alloc (.cells #[.int .i64 x.id] 3)).cell? ⟨T,1,none⟩=some v:=qk z1 _
      go_region_law (first
        |(refine step_append_lies _ rfl _ _ 22 rfl w1.heap.size 3 i0 _ 1 8 Tryz.underlying22 hi hz0 hz1 hz2 rfl (by decide) _ _ _ rfl ((World.ownsRow.drew HO5.out).alloc _) ⟨w5.heap.size,0,none⟩ 1 1 [.int .i64 x.id] rfl rfl (q7l w5.drew _ _) (q5v _) (by decide) (by unfold maxLen;omega) (by omega) (by simp;omega) _ rfl ?_;intro g cg w6 hown6 hgrow6 hat6 hlt6;have hgrow7:((w5.alloc (.cells #[.int .i64 x.id] 3)).drew).grownBy w6 v.ownBlock:=hgrow6;clear hgrow6 hat6;have b1:w6.cell? ⟨T,1,none⟩=some v:=ql hgrow7 (qk z1 _) (fun k e=>by have:=(HO5.out.lt k e).1;show T≠k;omega);have b0:w6.cell? ⟨T,0,none⟩=some (.map (some B)):=ql hgrow7 (qk z0 _) (fun k e=>by have:=(HO5.out.lt k e).1;show T≠k;omega);have b2:w6.frozen? ⟨T,1,none⟩=false:=(hgrow7.frozen_far ⟨T,1,none⟩ (by simp;omega) (fun e=>by have:=(HO5.out.lt T e.symm).1;omega)).trans (FR5.out);have F6:=lhd (aiq hown6 hgrow7);clear hown6 hgrow7))
      all_goals
       go_wp2;go_roundw
       case measure=>simp[vI];omega
       case rel =>
        obtain⟨hown6,hgrow7⟩:=F6.out;have hg6z:(w5.alloc (.cells #[.int .i64 x.id] 3)).heap.size<=w6.heap.size:=hgrow7.size;rw[World.size_alloc] at hg6z;have hBa:Below w5.heap.size w5 ((w5.alloc (.cells #[.int .i64 x.id] 3)).drew):=qb ((Below.refl _ w5).alloc (nlr _) _) 1;have hrb:∀ k,v.ownBlock=some k->w1.heap.size<=k:=fun k e=>(HO5.out.lt k e).1
        have hm6:Mp Tryz.prog 3 w6 B (k+1) (zg (gOf (m.take k)) x.id x.v):=(HM5.out.q8 hBa).kept hgrow7 (fun e=>by have:=hrb B e.symm;omega);have hB35:Below w.heap.size w w5:=(qb (hBw.trans (HB3.out.mono hBw.size)) 1).grown HG5.out (by have:=hBw.size;show w.heap.size<=W3.heap.size;omega) (fun k e=>by cases e;omega);have hB6:Below w.heap.size w w6:=(hB35.trans (hBa.mono hB35.size)).grown hgrow7 (by simp;omega) (fun k e=>by have:=hrb k e;omega);refine⟨k+1,_,qh (by omega),by omega,?_,?_,World.cell?_setCell_same' _ _ _ (by rw[b1];rfl),by rw[World.frozen?_setCell];exact b2,?_,hB6.setCell (show w.heap.size<=T by omega) _,fun p hp u hu=>?_,by simp[World.setCell];omega⟩
        ·rw[HTK.out,qk7 _ _ HNX.out];exact hm6.setCell (show B≠T by omega) _
        ·rw[World.cell?_setCell_other _ ⟨T,1,none⟩ ⟨T,0,none⟩ _ (by simp)];exact b0
        ·rw[HTK.out,q50 _ _ HNX.out,List.map_append,j3,List.length_append];exact ownsRow_setCell_below hown6 (show T < w1.heap.size by omega) _
        ·have hp1:=World.block_lt_of_cell? w1 _ hu;refine xe (ql hgrow7 (qk (ql HG5.out (Cx.q8 HB3.out (HFR.out p hp u hu)) (fun k e=>by cases e;omega)) _) (fun k e=>by have:=hrb k e;omega)) (by show p.block≠T;omega)
  ·have hkl:k=len:=by omega
   have hmt:m.take k=m:=List.take_of_length_le (by rw[<-HL.out];omega);have HMT:=lhd hmt;clear hmt hkl;go_wp2;go_ret;refine⟨T,rfl,⟨B,k,v,m,by omega,by omega,q0,q1,?_,?_,HM.out,fun x hx=>?_⟩,hBw⟩
   ·rw[HMT.out] at hmp;exact hmp
   ·have:=Sl.qc HRow.out;rw[HMT.out] at this;exact this
   ·have h1:=HS.out x hx;refine Sl.frame (Sl.qc h1) T (fun ad n c e=>?_) HFR.out;have:=(h1.lt ad.block (by rw[e];rfl)).1;omega
end Go.Proofs.YtlhicnfeajejhaaGreatDoor
