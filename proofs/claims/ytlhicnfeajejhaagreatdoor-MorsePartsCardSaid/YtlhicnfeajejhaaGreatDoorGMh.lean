/- Steps towards MorseParts. Conditions: none. -/
import Derived.Test.YtlhicnfeajejhaaGreatDoorGNl
set_option maxRecDepth 1000000
set_option maxHeartbeats 16000000
namespace Go.Cx
open Go.RowKit
def Bv (w:World) (b:Nat) (v:Value):Prop:=w.cell? ⟨b,0,none⟩=some v/\w.frozen? ⟨b,0,none⟩=false
theorem Bv.new (w:World) (v:Value) (t:TypeId):Bv (w.alloc (.cells #[v] t)) w.heap.size v:=⟨qd _ _ _ _ _,jz (heap_alloc_new w _) _⟩
theorem qv {B:Nat} {w w':World} (h:Below B w w') {p:Addr} (hp:p.block < B) (hf:w.frozen? p=false):w'.frozen? p=false:=by have:=h.block p.block hp;unfold World.frozen? at *;rw[this];exact hf
theorem Bv.below {B:Nat} {w w':World} {b:Nat} {v:Value} (h:Bv w b v) (hb:Below B w w') (hB:b < B):Bv w' b v:=by refine⟨(hb.cell (by exact hB)).trans h.1,qv hb hB h.2⟩
theorem Bv.alloc {w:World} {b:Nat} {v:Value} (h:Bv w b v) (o:Obj):Bv (w.alloc o) b v :=
 h.below (bal w o) (World.block_lt_of_cell? w _ h.1)
theorem Bv.q8 {w w':World} {b:Nat} {v:Value} (h:Bv w b v) (hb:BwQ w w'):Bv w' b v:=h.below hb (World.block_lt_of_cell? w _ h.1)
theorem Bv.put {w:World} {b:Nat} {v:Value} (h:Bv w b v) (u:Value):Bv (w.setCell ⟨b,0,none⟩ u) b u :=
 ⟨World.cell?_setCell_same' _ _ _ (by rw[h.1];rfl),by rw[World.frozen?_setCell];exact h.2⟩
theorem Bv.other {w:World} {b:Nat} {v:Value} (h:Bv w b v) {a:Addr} (ha:b≠a.block) (u:Value):Bv (w.setCell a u) b v :=
 ⟨xe h.1 ha,by rw[World.frozen?_setCell];exact h.2⟩
theorem SlC.mono {w w':World} {v:Value} {l:List Ce} (h:SlC w v l) (hk:∀ p u,w.cell? p=some u->w'.cell? p=some u):SlC w' v l:=⟨h.1.mono hk,fun x hx=>(h.2 x hx).mono hk⟩
theorem SlC.q8 {w w':World} {v:Value} {l:List Ce} (h:SlC w v l) (hb:BwQ w w'):SlC w' v l:=h.mono fun _ _ hc=>Cx.q8 hb hc
theorem SlC.alloc {w:World} {v:Value} {l:List Ce} (h:SlC w v l) (o:Obj):SlC (w.alloc o) v l:=h.q8 (bal w o)
theorem qk5 (m rest:List Ce) (x:Ce) (a:Option Addr) (n c:Nat) (s:List Sd):(cat Ce.enc (m++x :: rest)).set (m.length*3+2) (.slice a n c)=cat Ce.enc (m++⟨x.id,x.dim,a,n,c,s⟩ :: rest):=by rw[x9,x9,List.set_append_right _ _ (by rw[qt Ce.qp];omega),qt Ce.qp,show m.length*3+2 - m.length*3=2 by omega];rfl
theorem zh (l:List Ce) (i:Nat) (x:Ce) (h:l[i]? = some x):(cat Ce.enc l)[i*3]? = some (.int .i64 x.id)/\(cat Ce.enc l)[i*3+1]? = some (.int .i64 x.dim)/\(cat Ce.enc l)[i*3+2]? = some (.slice x.a x.n x.c) :=
 ⟨q2l Ce.qp l i 0 x h (by omega),q2l Ce.qp l i 1 x h (by omega),q2l Ce.qp l i 2 x h (by omega)⟩
theorem zw (l:List Sd) (i:Nat) (x:Sd) (h:l[i]? = some x):(cat Sd.enc l)[i*2]? = some (.int .i64 x.c)/\(cat Sd.enc l)[i*2+1]? = some (.int .i64 x.g) :=
 ⟨q2l Sd.qp l i 0 x h (by omega),q2l Sd.qp l i 1 x h (by omega)⟩
end Go.Cx
namespace Go.Proofs.YtlhicnfeajejhaaGreatDoor
open Go.RowKit Go.Cx
attribute [local go_sem ↓] Go.wp_at_zero Go.wp_at_succ
theorem q8l (v:Value) (l:List Ce) (w:World) (h:SlC w v l) (hl:l.length<=1099511627776) (aK:∀ x∈l,x.s.length<=19) :
  Calls Tryz.prog 152 #[.agg #[v]] w fun e w'=>∃ r m,e = .returned (.agg #[r])/\m.map Ce.cl=canon (l.map Ce.cl)/\w'.ownsRow w.heap.size 75 3 r m.length (cat Ce.enc m) ∧
   (∀ x∈m,w'.ownsRow w.heap.size 108 2 x.sl x.s.length (cat Sd.enc x.s))/\BwQ w w':=by
 obtain⟨a,n,cap,rfl⟩:=qg h.1;have HH:=lhd h;clear h;have iS:=lhd aK;clear aK;go_enter Tryz.func152,Tryz.ntmps152;go_wp2_with fail;refine(qc0 _ l _ ((HH.out.1.alloc _).alloc _) hl).mono ?_;rintro e w1 ⟨r,l',rfl,k1,k2,hr,ai⟩;(try simp only[BwQ]at hr ai);simp only [World.size_alloc] at hr ai;have bR:w.heap.size+2<=w1.heap.size:=by have:=ai.size;simpa using this
 have ak:BwQ w w1:=((bal w _).alloc (by simp) _).trans (ai.mono (by omega));have b1:Bv w1 (w.heap.size+1) (.slice none 0 0):=by have:=Bv.new (w.alloc (.cells #[.slice a n cap] 26)) (.slice none 0 0) 26;(try simp only[BwQ] at this);rw[World.size_alloc] at this;exact this.below ai (by omega)
 have iD:stb Cl.id (l.map Ce.cl)=l'.map Ce.cl:=by rw[qke (key:=Ce.id) Ce.cl (fun _=>rfl),q8s k1 k2]
 have pF:=lhd iD;have cG:∀ x∈l',x∈l:=fun x hx=>(k1.mem x).2 hx
 have HM:=lhd cG;have mn:l'.length<=1099511627776:=by rw[<-k1.len];exact hl
 have XX:=lhd k1;clear iD cG k1 k2 ai;obtain⟨a',bU,rfl⟩:=qj hr;obtain⟨len,hlen⟩ : ∃ len,len=l'.length:=⟨_,rfl⟩
 rw[<-hlen] at hr mn ⊢;have HL:=lhd hlen;clear hlen;have HR:=lhd hr;clear hr;go_wp2;go_loopw [4,10] (fun _ i wr=>∃ (k:Nat) (m:List Ce),i = .int .i64 k/\k<=len/\m.length=k/\wr.ownsRow (w.heap.size+2) 75 3 (.slice a' len bU) len (cat Ce.enc (m++l'.drop k)) ∧
  Hid (∀ x∈m,wr.ownsRow w1.heap.size 108 2 x.sl x.s.length (cat Sd.enc x.s))/\Hid (m.map Ce.cl=(l'.take k).map (fun x=>x.cl.canon))/\Bv wr (w.heap.size+1) (.slice none 0 0)/\BwQ w wr/\w1.heap.size<=wr.heap.size) (fun _ i _=>len - (vI i).toNat)
 case atStart=>exact⟨0,[],rfl,go _,rfl,HR.out,(show Hid _ from fun x hx=>by simp at hx),(show Hid _ from rfl),b1,ak,nlr _⟩
 case round =>
  obtain⟨k,m,rfl,hk,kQ,aA,HF,HE,im,hB,kB⟩:=hrel;obtain⟨p0,p1⟩:=im;by_cases hlt:k < len
  ·obtain⟨g,rfl⟩ : ∃ g,a'=some ⟨g,0,none⟩:=by
    rcases aA.2 with ⟨hv,_⟩ | ⟨g,cg,cur,hv,_⟩
    ·injection hv with _ hn _;omega
    ·injection hv with ha _ _;exact⟨g,ha⟩
   obtain⟨x,hx⟩ : ∃ x,l'[k]? = some x:=⟨_,g8 (by rw[<-HL.out];exact hlt)⟩
   have fK:x∈l':=gh hx;have kR:l'.drop k=x :: l'.drop (k+1):=by
    have bF:k < l'.length:=by rw[<-HL.out];exact hlt
    rw[bf bF]
    congr 1
    have:=g8 bF;rw[this] at hx;exact osi hx
   have bZ:l'.take (k+1)=l'.take k++[x]:=by rw[gq,hx];rfl
   have Ac:=(HR.out.lt g rfl)
   have o7:g < w1.heap.size:=Ac.2;have Cu:w.heap.size+2<=g:=Ac.1;have dT:k*3+2 < len*3:=by omega
   have c2:wr.cell? ⟨g,k*3+2,none⟩=some (.slice x.a x.n x.c):=by have h1:=aA.cellAt (k*3+2) dT;rw[h1];refine(zh (m++l'.drop k) k x ?_).2.2;rw[gU (by omega),kQ,Nat.sub_self,kR];rfl
   have f2:wr.frozen? ⟨g,k*3+2,none⟩=false:=aA.frozenAt _;have kC:Sl wr 2 (.slice x.a x.n x.c) (cat Sd.enc x.s):=(HH.out.2 x (HM.out x fK)).q8 hB;have af:=qc1 (.slice x.a x.n x.c) x.s wr kC (iS.out x (HM.out x fK));have HC:=lhd af;have o8:=lhd aA;have HX:=lhd (aiq kR bZ);clear kC af aA hx fK kR bZ Ac;go_wp2_with fail;refine HC.out.mono ?_;rintro e w2 ⟨r2,s',rfl,q1,q2,cC,aj⟩;obtain⟨a2,dN,rfl⟩:=qj cC;have c3:w2.cell? ⟨g,k*3+2,none⟩=some (.slice x.a x.n x.c):=q8 aj c2;have f3:w2.frozen? ⟨g,k*3+2,none⟩=false:=qv aj (by show g < _;omega) f2;have HQ:=lhd (aiq q1 q2);clear q1 q2;have e9:=lhd cC;clear cC;have bG:=lhd aj;clear aj;go_wp2;go_roundw
   case measure=>simp[vI];omega
   case rel =>
    have cZ:=(qa o8.out bG.out).stored (k*3+2) (.slice a2 s'.length dN);refine⟨k+1,m++[⟨x.id,x.dim,a2,s'.length,dN,s'⟩],qh (by omega),by omega,by simp[kQ],?_,(show Hid _ from fun y hy=>?_),(show Hid _ from ?_),?_,?_,?_⟩
    ·have:=cZ.1;rw[HX.out.1,<-kQ,qk5 m (l'.drop (m.length+1)) x a2 s'.length dN s'] at this;rw[gC];rw[<-kQ];exact this
    ·rcases gF.1 hy with hy | hy
     ·exact ownsRow_setCell_below (qa (HF.out y hy) bG.out) o7 _
     ·simp at hy;subst hy;exact ownsRow_setCell_below (qf e9.out kB) o7 _
    ·show _=_;rw[br,HE.out,HX.out.2,br]
     congr 1
     simp only [List.map_cons,List.map_nil,Cl.canon,Ce.cl];rw[q8s HQ.out.1 HQ.out.2]
    ·exact(Bv.q8 ⟨p0,p1⟩ bG.out).other (show w.heap.size+1≠g by omega) _
    ·exact((btr hB bG.out)).setCell (show w.heap.size<=g by omega) _
    ·have:=bG.out.size;simp[World.setCell];omega
  ·have bF:k=len:=by omega
   have su:=lhd bF;clear bF;have o8:=lhd aA;clear aA;go_wp2_with fail;refine bodyPost_ret (v:=.agg #[.slice a' len bU]) (by simp[results,Tryz.results152,go_sem,(Bv.put (w:=wr) (b:=w.heap.size+1) ⟨p0,p1⟩ (.slice a' len bU)).1]) rfl ⟨_,m,rfl,?_,?_,fun y hy=>?_,?_⟩
   ·rw[HE.out,su.out,gm (by rw[<-HL.out];exact nlr _)];unfold canon;rw[pF.out,List.map_map];rfl
   ·have:=o8.out;rw[su.out,gY (by rw[<-HL.out];exact nlr _),gH] at this;rw[kQ,su.out];exact qf (ownsRow_setCell_below this (by show w.heap.size+1 < _;omega) _) (by omega)
   ·exact qf (ownsRow_setCell_below (HF.out y hy) (by show w.heap.size+1 < _;omega) _) (by omega)
   ·exact hB.setCell (show w.heap.size<=w.heap.size+1 by omega) _
end Go.Proofs.YtlhicnfeajejhaaGreatDoor
namespace Go.Cx
open Go.RowKit
def Ce.v (x:Ce):Value:=.agg #[.int .i64 x.id,.int .i64 x.dim,.slice x.a x.n x.c]
def gOf (L:List Ce):Int->Option Value:=fun c=>(L.find? (fun x=>x.id == c)).map Ce.v
theorem qa6 (L:List Ce) (c:Int):(gOf L c).isSome=true↔∃ y∈L,y.id=c:=by simp[gOf]
theorem qk6 (L:List Ce) (x:Ce) (h:∃ y∈L,y.id=x.id):gOf (L++[x])=gOf L:=by
 funext c
 unfold gOf;rw[List.find?_append];cases hf:L.find? (fun x=>x.id == c) with
 | some y=>rfl
 | none =>
  have hc:x.id≠c:=by intro e;obtain⟨y,hy,he⟩:=h;have:=List.find?_eq_none.1 hf y hy;simp at this;omega
  simp[hc]
theorem qk7 (L:List Ce) (x:Ce) (h:¬ ∃ y∈L,y.id=x.id):gOf (L++[x])=zg (gOf L) x.id x.v:=by
 funext c
 unfold gOf zg;rw[List.find?_append];by_cases hc:c=x.id
 ·subst hc;have:L.find? (fun y=>y.id == x.id)=none:=List.find?_eq_none.2 fun y hy e=>h ⟨y,hy,by simpa using e⟩
  rw[this];simp
 ·rw[if_neg hc];have:([x].find? fun y=>y.id == c)=none:=by simp;exact fun e=>hc e.symm
  rw[this];simp
theorem Sl.frame {w w':World} {st:Nat} {v:Value} {xs:List Value} (h:Sl w st v xs) (T:Nat) (hb:∀ ad n c,v = .slice (some ad) n c->T < ad.block) (hk:∀ p:Addr,T < p.block->∀ u,w.cell? p=some u->w'.cell? p=some u):Sl w' st v xs:=by
 obtain⟨a,n,cap,h1,h2,h3,h4,h5,h6⟩:=h;refine⟨a,n,cap,h1,h2,h3,h4,h5,fun ad ha j u hj=>hk _ ?_ _ (h6 ad ha j u hj)⟩;have:(ad.add j).block=ad.block:=by unfold Addr.add;split <;> rfl
 rw[this];exact hb ad n cap (by rw[h1,ha])
end Go.Cx
namespace Go.Proofs.YtlhicnfeajejhaaGreatDoor
open Go.RowKit Go.Cx
attribute [local go_sem ↓] Go.wp_at_zero Go.wp_at_succ
def COk (l:List Ce):Prop:=∀ x∈l,(I64 x.id/\I64 x.dim)/\x.s.length<=19/\∀ s∈x.s,I64 s.c/\I64 s.g
def Tab (w:World) (base T:Nat) (L:List Cl):Prop :=
 ∃ (B n:Nat) (v:Value) (m:List Ce),base<=T/\base<=B/\w.cell? ⟨T,0,none⟩=some (.map (some B))/\w.cell? ⟨T,1,none⟩=some v/\Mp Tryz.prog 3 w B n (gOf m) ∧
  Sl w 1 v (ints ((xb Ce.id m).map Ce.id))/\m.map Ce.cl=canon L/\(∀ x∈m,Sl w 2 x.sl (cat Sd.enc x.s))
theorem q5v (c:Int):∀ u∈[Value.int .i64 c],u.oneCell'=true:=by intro u hu;simp at hu;subst hu;rfl
theorem zeroCell (w:World):(zeroValue 75).run Tryz.prog w = .ok (.agg #[.int .i64 0,.int .i64 0,.slice none 0 0]) w:=Tryz.zeroValue75 w
theorem q3b (a:Option Addr) (n c:Nat):∀ w:World,(Instr.field 26 (.agg #[.slice a n c]) 0).run Tryz.prog w = .ok (.slice a n c) w:=fun w=>by kernel_rfl
theorem qnb (v:Value) (l:List Ce) (w:World) (h:SlC w v l) (hl:l.length<=1099511627776) (hok:COk l) :
  Calls Tryz.prog 132 #[.agg #[v]] w fun e w'=>∃ T,e = .returned (.pointer (some ⟨T,0,none⟩))/\Tab w' w.heap.size T (l.map Ce.cl)/\BwQ w w':=by
 have mixed:Tryz.prog.follows .mixedOrders=true:=by kernel_rfl
 obtain⟨a,n,cap,rfl⟩:=qg h.1;have HH:=lhd h;clear h;have kU:=lhd hok;clear hok;have dL:=@run_makeMap Tryz.prog;go_enter Tryz.func132,Tryz.ntmps132;go_wp2_with fail;have hc:=q8l (.slice a n cap) l (((w.alloc (.cells #[.slice a n cap] 26)).alloc (.map #[] 0)).alloc (.cells #[.map (some (w.heap.size+1)),.slice none 0 0] 183)) (((HH.out.alloc _).alloc _).alloc _) hl (fun x hx=>(kU.out x hx).2.1);refine hc.mono ?_;rintro e w1 ⟨r,m,rfl,hm,hr,hs,ai⟩;clear hc;(try simp only[BwQ]at hr hs ai);simp only [World.size_alloc] at hr hs ai;have bR:w.heap.size+3<=w1.heap.size:=by have:=ai.size;simpa using this
 obtain⟨W0,l9⟩ : ∃ W0,W0=((w.alloc (.cells #[.slice a n cap] 26)).alloc (.map #[] 0)).alloc (.cells #[.map (some (w.heap.size+1)),.slice none 0 0] 183):=⟨_,rfl⟩
 have bT:BwQ w W0:=by rw[l9];exact((bal w _).alloc (by simp) _).alloc (by simp;omega) _
 have t0:W0.cell? ⟨w.heap.size+2,0,none⟩=some (.map (some (w.heap.size+1))):=by rw[l9];have:=qd ((w.alloc (.cells #[.slice a n cap] 26)).alloc (.map #[] 0)) #[.map (some (w.heap.size+1)),.slice none 0 0] 183 (0,0) 0;simpa using this
 have t1:W0.cell? ⟨w.heap.size+2,1,none⟩=some (.slice none 0 0):=by rw[l9];have:=qd ((w.alloc (.cells #[.slice a n cap] 26)).alloc (.map #[] 0)) #[.map (some (w.heap.size+1)),.slice none 0 0] 183 (0,0) 1;simpa using this
 have t2:W0.frozen? ⟨w.heap.size+2,1,none⟩=false:=by rw[l9];have:=jz (heap_alloc_new ((w.alloc (.cells #[.slice a n cap] 26)).alloc (.map #[] 0)) (.cells #[.map (some (w.heap.size+1)),.slice none 0 0] 183)) 1;simpa using this
 have tm:Mp Tryz.prog 3 W0 (w.heap.size+1) 0 (gOf []):=by rw[l9];rw[show gOf []=fun _=>none from rfl];have:=(Mp.made (w.alloc (.cells #[.slice a n cap] 26)) Tryz.prog 3).alloc (.cells #[.map (some (w.heap.size+1)),.slice none 0 0] 183);simpa using this
 rw[<-l9] at ai;have aF:W0.heap.size=w.heap.size+3:=by rw[l9];simp
 clear l9;have ak:BwQ w w1:=bT.trans (ai.mono (by omega));have u0:=q1n ai (by omega) t0;have u1:=q1n ai (by omega) t1;have u2:=qv ai (by show w.heap.size+2 < _;omega) t2;have um:=tm.below ai (by omega);obtain⟨T,hT⟩ : ∃ T,T=w.heap.size+2:=⟨_,rfl⟩
 obtain⟨B,hB⟩ : ∃ B,B=w.heap.size+1:=⟨_,rfl⟩
 rw[<-hT] at u0 u1 u2 ⊢;rw[<-hB] at u0 um;have J8:w.heap.size < T/\T < w.heap.size+3/\w.heap.size<=B/\B < T:=by omega
 have XY:=lhd (aiq hT hB);clear t0 t1 t2 tm bT aF hT hB ai;have dx:m.length=l.length:=by have:=congrArg List.length hm;rw[q0z,gn,gn] at this;exact this
 have iI:∀ x∈m,I64 x.id:=fun x hx=>by
  have h1:x.cl∈canon (l.map Ce.cl):=by rw[<-hm];exact gG hx
  obtain⟨y,hy,he⟩:=gr.1 h1;obtain⟨z,hz,rfl⟩:=gr.1 ((q2m _ y).1 hy);have h2:=congrArg Cl.id he;have h3:z.id=x.id:=h2;rw[<-h3];exact(kU.out z hz).1.1
 have J9:=lhd iI;clear iI;have HM:=lhd hm;clear hm;have HS:=lhd hs;clear hs;obtain⟨a',bU,rfl⟩:=qj hr;have Cv:=Sl.qc hr;have hblk:∀ ad,a'=some ad->w.heap.size+3<=ad.block:=fun ad e=>by have:=(hr.lt ad.block (by rw[e];rfl)).1;simpa using this
 have Tg:=lhd hblk;clear hblk;have Oc:=lhd Cv;clear Cv hr;obtain⟨len,hlen⟩ : ∃ len,len=m.length:=⟨_,rfl⟩
 rw[<-hlen] at Oc ⊢;have bL:len<=1099511627776:=by omega
 have HL:=lhd hlen;clear hlen dx hl;have pG:=q3b a' len bU;go_wp2;go_loopw [5,6,7,15] (fun _ _ _ i wr=>∃ (k:Nat) (v:Value),i = .int .i64 k/\k<=len/\Mp Tryz.prog 3 wr B k (gOf (m.take k))/\wr.cell? ⟨T,0,none⟩=some (.map (some B))/\wr.cell? ⟨T,1,none⟩=some v/\wr.frozen? ⟨T,1,none⟩=false ∧
  wr.ownsRow w1.heap.size 3 1 v (xb Ce.id (m.take k)).length (ints ((xb Ce.id (m.take k)).map Ce.id))/\BwQ w wr/\(∀ p:Addr,T < p.block->∀ u,w1.cell? p=some u->wr.cell? p=some u)/\w1.heap.size<=wr.heap.size) (fun _ _ _ i _=>len - (vI i).toNat)
 case atStart=>exact⟨0,_,rfl,go _,um,u0,u1,u2,World.ownsRow_nil _ _ _ _,ak,fun _ _ _ h=>h,nlr _⟩
 case round =>
  obtain⟨k,v,rfl,hk,eG,q0,q1,q2,aA,aP,Od,kB⟩:=hrel;have Cy:=lhd Od;clear Od;have o8:=lhd aA;clear aA;clear u0 u1 u2 um;by_cases hlt:k < len
  ·obtain⟨x,hx⟩ : ∃ x,m[k]? = some x:=⟨_,g8 (by rw[<-HL.out];exact hlt)⟩
   obtain⟨h2,h3,h4,h5,h6⟩:=Oc.out.open;obtain⟨ad,rfl⟩:=sadq h5 (by omega)
   have dr:T < ad.block:=by have:=Tg.out ad rfl;omega
   have ee:∀ j,(ad.add j).block=ad.block:=fun j=>by unfold Addr.add;split <;> rfl
   obtain⟨e0,e1,e2⟩:=zh m k x hx;have d0:wr.cell? (ad.add (k*3))=some (.int .i64 x.id):=Cy.out _ (by rw[ee];exact dr) _ (h6 ad rfl _ _ e0);have d1:wr.cell? ⟨(ad.add (k*3)).block,(ad.add (k*3)).off+1,none⟩=some (.int .i64 x.dim):=by rw[qi _ _ _ (by omega)];exact Cy.out _ (by rw[ee];exact dr) _ (h6 ad rfl _ _ e1)
   have d2:wr.cell? ⟨(ad.add (k*3)).block,(ad.add (k*3)).off+2,none⟩=some (.slice x.a x.n x.c):=by rw[qi _ _ _ (by omega)];exact Cy.out _ (by rw[ee];exact dr) _ (h6 ad rfl _ _ e2)
   have qF:=gh hx;have qG:=J9.out x qF;have aq:=q0k (P:=Tryz.prog) (k:=3) Tryz.underlying3 qG.1 qG.2;have bZ:m.take (k+1)=m.take k++[x]:=by rw[gq,hx];rfl
   have cr:=lhd bZ;clear h2 h3 h4 h5 h6 e0 e1 e2 ee hx bZ qF qG;have a0:(wr.alloc (.cells #[.int .i64 x.id,.int .i64 x.dim,.slice x.a x.n x.c] 75)).cell? ⟨T,0,none⟩=some (.map (some B)):=qk q0 _;have a1:(wr.alloc (.cells #[.int .i64 x.id,.int .i64 x.dim,.slice x.a x.n x.c] 75)).cell? ⟨wr.heap.size,0,none⟩=some (.int .i64 x.id):=qd wr #[.int .i64 x.id,.int .i64 x.dim,.slice x.a x.n x.c] 75 (0,0) 0;have am:=eG.alloc (.cells #[.int .i64 x.id,.int .i64 x.dim,.slice x.a x.n x.c] 75);obtain⟨zi,zd,za,zn,zc,F,hz,hF⟩ : ∃ (zi zd:Int) (za:Option Addr) (zn zc:Nat) (F:Bool),(gOf (m.take k) x.id).getD (.agg #[.int .i64 0,.int .i64 0,.slice none 0 0]) = .agg #[.int .i64 zi,.int .i64 zd,.slice za zn zc]/\(gOf (m.take k) x.id).isSome=F:=by
    unfold gOf;cases (m.take k).find? (fun y=>y.id == x.id) with
    | none=>exact⟨_,_,_,_,_,_,rfl,rfl⟩
    | some y=>exact⟨_,_,_,_,_,_,rfl,rfl⟩
   have db:∀ W:World,Mp Tryz.prog 3 W B k (gOf (m.take k))->(Instr.lookup 181 (.map (some B)) (.int .i64 x.id) true).run Tryz.prog W = .ok (.tuple #[.agg #[.int .i64 zi,.int .i64 zd,.slice za zn zc],.bool F]) W:=fun W hW=>by
    have:=hW.qgy Tryz.underlying3 Tryz.underlying181 (zeroCell _) aq
    rwa [hz,hF] at this
   have sw:=lhd db;have Oe:=lhd hF;clear hz hF db;go_wp2_with fail
   go_region_held3 (fun w'=>w'.cell? ⟨T,0,none⟩=some (.map (some B))/\w'.cell? ⟨wr.heap.size,0,none⟩=some (.int .i64 x.id)/\Mp Tryz.prog 3 w' B k (gOf (m.take k))/\(Instr.lookup 181 (.map (some B)) (.int .i64 x.id) true).run Tryz.prog w' = .ok (.tuple #[.agg #[.int .i64 zi,.int .i64 zd,.slice za zn zc],.bool F]) w')
    (first
     | exact⟨by assumption,by assumption,by assumption,sw.out _ (by assumption)⟩
     | exact⟨qk (by assumption) _,qk (by assumption) _,Mp.alloc (by assumption) _,sw.out _ (Mp.alloc (by assumption) _)⟩)
    (fail)
   all_goals
    obtain⟨W3,lC⟩ : ∃ W3,W3=((wr.alloc (.cells #[.int .i64 x.id,.int .i64 x.dim,.slice x.a x.n x.c] 75)).alloc (.cells #[.int .i64 zi,.int .i64 zd,.slice za zn zc] 75)).drew:=⟨_,rfl⟩
    rw[<-lC];have ar:BwQ wr W3:=by rw[lC];exact qb ((bal wr _).alloc (by simp) _) 1
    have x0:W3.cell? ⟨wr.heap.size,0,none⟩=some (.int .i64 x.id):=by rw[lC];exact qk (qd wr #[.int .i64 x.id,.int .i64 x.dim,.slice x.a x.n x.c] 75 (0,0) 0) _
    have x1:W3.cell? ⟨wr.heap.size,1,none⟩=some (.int .i64 x.dim):=by rw[lC];exact qk (qd wr #[.int .i64 x.id,.int .i64 x.dim,.slice x.a x.n x.c] 75 (0,0) 1) _
    have x2:W3.cell? ⟨wr.heap.size,2,none⟩=some (.slice x.a x.n x.c):=by rw[lC];exact qk (qd wr #[.int .i64 x.id,.int .i64 x.dim,.slice x.a x.n x.c] 75 (0,0) 2) _
    have kK:wr.heap.size+2=W3.heap.size:=by rw[lC];simp
    clear lC a0 a1 am;have y0:=Cx.q8 ar q0;have y1:=Cx.q8 ar q1;have y2:W3.frozen? ⟨T,1,none⟩=false:=qv ar (World.block_lt_of_cell? wr _ q1) q2;have ym:=eG.q8 ar;have yr:=qa o8.out ar;have YR:=lhd yr;clear yr;have fC:=lhd ar;clear ar;by_cases JA:F=true
    ·subst JA;go_wp2;go_roundw
     case measure=>simp[vI];omega
     case rel =>
      have hex:=(qa6 _ _).1 Oe.out;refine⟨k+1,v,qh (by omega),by omega,?_,y0,y1,y2,?_,(btr aP fC.out),fun p hp u hu=>Cx.q8 fC.out (Cy.out p hp u hu),by omega⟩
      ·rw[cr.out,qk6 _ _ hex];exact ym.mono (Nat.le_succ _)
      ·rw[cr.out,q4z _ _ hex];exact YR.out
    ·have Th:F=false:=by simpa using JA
     subst Th;have D1:¬ ∃ y∈m.take k,y.id=x.id:=fun h=>by have:=(qa6 _ _).2 h;rw[Oe.out] at this;cases this
     have D2:=lhd D1;clear D1 JA;have sx:T < wr.heap.size:=World.block_lt_of_cell? wr _ q0;obtain⟨w5,fe,uj,e6⟩:=Mp.set (w:=W3.drew) (P:=Tryz.prog) (k:=3) (t:=181) (e:=75) (g:=gOf (m.take k)) (n:=k) (b:=B) ym Tryz.underlying3 Tryz.underlying181 (by unfold maxLen;omega) aq x.v;have z0:w5.cell? ⟨T,0,none⟩=some (.map (some B)):=ql e6 y0 (fun k e=>by cases e;show T≠B;omega);have z1:w5.cell? ⟨T,1,none⟩=some v:=ql e6 y1 (fun k e=>by cases e;show T≠B;omega);have XZ:w5.cell? ⟨wr.heap.size,0,none⟩=some (.int .i64 x.id):=ql e6 x0 (fun k e=>by cases e;show wr.heap.size≠B;omega);have Ya:w5.cell? ⟨wr.heap.size,1,none⟩=some (.int .i64 x.dim):=ql e6 x1 (fun k e=>by cases e;show wr.heap.size≠B;omega);have Yb:w5.cell? ⟨wr.heap.size,2,none⟩=some (.slice x.a x.n x.c):=ql e6 x2 (fun k e=>by cases e;show wr.heap.size≠B;omega);have z2:w5.frozen? ⟨T,1,none⟩=false:=by have:=e6.frozen_far ⟨T,1,none⟩ (World.block_lt_of_cell? W3 _ y1) (by simp;omega);rw[this];exact y2
     have pE:w5.ownsRow w1.heap.size 3 1 v (xb Ce.id (m.take k)).length (ints ((xb Ce.id (m.take k)).map Ce.id)):=(World.ownsRow.drew YR.out).kept e6 (.inr (fun e=>by have:=((YR.out).lt B e).1;omega));have Cz:W3.heap.size<=w5.heap.size:=e6.size;have Of:(Instr.mapUpdate 181 (.map (some B)) (.int .i64 x.id) (.agg #[.int .i64 x.id,.int .i64 x.dim,.slice x.a x.n x.c])).run Tryz.prog W3.drew = .ok () w5:=fe;have Ti:=lhd uj;clear uj;have Og:=lhd e6;clear e6;have D3:=lhd pE;clear pE fe;have Oh:∀ k,v.ownBlock=some k->wr.heap.size≠k:=fun k e=>by have:=(o8.out.lt k e).2;omega
     have Yc:=lhd Oh;clear Oh;have sh:=q3c (key:=Ce.id) (m.take k);rw[gd] at sh;have Oi:(w5.drew.alloc (.cells #[.int .i64 x.id] 3)).frozen? ⟨T,1,none⟩=false:=qv ((Below.refl _ w5.drew).alloc (nlr _) _) (World.block_lt_of_cell? w5 _ z1) z2;have Tj:=lhd Oi;clear Oi;go_wp2_with fail
     go_region_held3 (fun w'=>w'.cell? ⟨T,0,none⟩=some (.map (some B))/\w'.cell? ⟨wr.heap.size,0,none⟩=some (.int .i64 x.id)/\w'.cell? ⟨wr.heap.size,1,none⟩=some (.int .i64 x.dim)/\w'.cell? ⟨wr.heap.size,2,none⟩=some (.slice x.a x.n x.c))
      (first
       | exact⟨by assumption,by assumption,by assumption,by assumption⟩)
      (fail)
     all_goals
      obtain⟨i0,hi,aF,bR,bV⟩:=info_parts Tryz.xg;go_wp2_with fail;have Yd:(w5.alloc (.cells #[.int .i64 x.id] 3)).cell? ⟨T,1,none⟩=some v:=qk z1 _
      go_region_law (first
        |(refine step_append_lies _ rfl _ _ 22 rfl w1.heap.size 3 i0 _ 1 8 Tryz.underlying22 hi aF bR bV rfl (by decide) _ _ _ rfl ((World.ownsRow.drew D3.out).alloc _) ⟨w5.heap.size,0,none⟩ 1 1 [.int .i64 x.id] rfl rfl (q7l w5.drew _ _) (q5v _) (by decide) (by unfold maxLen;omega) (by omega) (by simp;omega) _ rfl ?_;intro g cg w6 bH au eh iq;have aS:((w5.alloc (.cells #[.int .i64 x.id] 3)).drew).grownBy w6 v.ownBlock:=au;clear au eh;have b1:w6.cell? ⟨T,1,none⟩=some v:=ql aS (qk z1 _) (fun k e=>by have:=(D3.out.lt k e).1;show T≠k;omega);have b0:w6.cell? ⟨T,0,none⟩=some (.map (some B)):=ql aS (qk z0 _) (fun k e=>by have:=(D3.out.lt k e).1;show T≠k;omega);have b2:w6.frozen? ⟨T,1,none⟩=false:=(aS.frozen_far ⟨T,1,none⟩ (by simp;omega) (fun e=>by have:=(D3.out.lt T e.symm).1;omega)).trans (Tj.out);have F6:=lhd (aiq bH aS);clear bH aS))
      all_goals
       go_wp2;go_roundw
       case measure=>simp[vI];omega
       case rel =>
        obtain⟨bH,aS⟩:=F6.out;have Ad:(w5.alloc (.cells #[.int .i64 x.id] 3)).heap.size<=w6.heap.size:=aS.size;(try simp only[BwQ] at Ad);rw[World.size_alloc] at Ad;have D5:BwQ w5 ((w5.alloc (.cells #[.int .i64 x.id] 3)).drew):=qb (bal w5 _) 1;have sy:∀ k,v.ownBlock=some k->w1.heap.size<=k:=fun k e=>(D3.out.lt k e).1
        have rJ:Mp Tryz.prog 3 w6 B (k+1) (zg (gOf (m.take k)) x.id x.v):=(Ti.out.q8 D5).kept aS (fun e=>by have:=sy B e.symm;omega);have D6:BwQ w w5:=(qb ((btr aP fC.out)) 1).grown Og.out (by have:=aP.size;show w.heap.size<=W3.heap.size;omega) (fun k e=>by cases e;omega);have dc:BwQ w w6:=((btr D6 D5)).grown aS (by simp;omega) (fun k e=>by have:=sy k e;omega);refine⟨k+1,_,qh (by omega),by omega,?_,?_,World.cell?_setCell_same' _ _ _ (by rw[b1];rfl),by rw[World.frozen?_setCell];exact b2,?_,dc.setCell (show w.heap.size<=T by omega) _,fun p hp u hu=>?_,by simp[World.setCell];omega⟩
        ·rw[cr.out,qk7 _ _ D2.out];exact rJ.setCell (show B≠T by omega) _
        ·rw[World.cell?_setCell_other _ ⟨T,1,none⟩ ⟨T,0,none⟩ _ (by simp)];exact b0
        ·rw[cr.out,q50 _ _ D2.out,br,j3,gc];exact ownsRow_setCell_below bH (show T < w1.heap.size by omega) _
        ·have nQ:=World.block_lt_of_cell? w1 _ hu;refine xe (ql aS (qk (ql Og.out (Cx.q8 fC.out (Cy.out p hp u hu)) (fun k e=>by cases e;omega)) _) (fun k e=>by have:=sy k e;omega)) (by show p.block≠T;omega)
  ·have bF:k=len:=by omega
   have cO:m.take k=m:=gm (by rw[<-HL.out];omega);have C5:=lhd cO;clear cO bF;go_wp2;go_ret;refine⟨T,rfl,⟨B,k,v,m,by omega,by omega,q0,q1,?_,?_,HM.out,fun x hx=>?_⟩,aP⟩
   ·rw[C5.out] at eG;exact eG
   ·have:=Sl.qc o8.out;rw[C5.out] at this;exact this
   ·have h1:=HS.out x hx;refine Sl.frame (Sl.qc h1) T (fun ad n c e=>?_) Cy.out;have:=(h1.lt ad.block (by rw[e];rfl)).1;omega
end Go.Proofs.YtlhicnfeajejhaaGreatDoor
