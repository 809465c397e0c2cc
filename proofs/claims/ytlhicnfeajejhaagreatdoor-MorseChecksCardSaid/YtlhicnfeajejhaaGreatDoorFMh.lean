/- Steps towards MorseChecks. Conditions: none. -/
import Derived.Test.YtlhicnfeajejhaaGreatDoorFNl
set_option maxRecDepth 1000000
set_option maxHeartbeats 16000000
namespace Go.Cx
open Go.RowKit
def Bv (w:World) (b:Nat) (v:Value):Prop:=w.cell? ⟨b,0,none⟩=some v/\w.frozen? ⟨b,0,none⟩=false
theorem Bv.new (w:World) (v:Value) (t:TypeId):Bv (w.alloc (.cells #[v] t)) w.heap.size v:=⟨qd _ _ _ _ _,jz (heap_alloc_new w _) _⟩
theorem qv {B:Nat} {w w':World} (h:Below B w w') {p:Addr} (hp:p.block < B) (hf:w.frozen? p=false):w'.frozen? p=false:=by
 have:=h.block p.block hp;unfold World.frozen? at *;rw[this];exact hf
theorem Bv.below {B:Nat} {w w':World} {b:Nat} {v:Value} (h:Bv w b v) (hb:Below B w w') (hB:b < B):Bv w' b v:=by
 refine⟨(hb.cell (by exact hB)).trans h.1,qv hb hB h.2⟩
theorem Bv.alloc {w:World} {b:Nat} {v:Value} (h:Bv w b v) (o:Obj):Bv (w.alloc o) b v :=
 h.below ((Below.refl _ w).alloc (nlr _) o) (World.block_lt_of_cell? w _ h.1)
theorem Bv.q8 {w w':World} {b:Nat} {v:Value} (h:Bv w b v) (hb:Below w.heap.size w w'):Bv w' b v:=h.below hb (World.block_lt_of_cell? w _ h.1)
theorem Bv.put {w:World} {b:Nat} {v:Value} (h:Bv w b v) (u:Value):Bv (w.setCell ⟨b,0,none⟩ u) b u :=
 ⟨World.cell?_setCell_same' _ _ _ (by rw[h.1];rfl),by rw[World.frozen?_setCell];exact h.2⟩
theorem Bv.other {w:World} {b:Nat} {v:Value} (h:Bv w b v) {a:Addr} (ha:b≠a.block) (u:Value):Bv (w.setCell a u) b v :=
 ⟨xe h.1 ha,by rw[World.frozen?_setCell];exact h.2⟩
theorem SlC.mono {w w':World} {v:Value} {l:List Ce} (h:SlC w v l) (hk:∀ p u,w.cell? p=some u->w'.cell? p=some u):SlC w' v l:=⟨h.1.mono hk,fun x hx=>(h.2 x hx).mono hk⟩
theorem SlC.q8 {w w':World} {v:Value} {l:List Ce} (h:SlC w v l) (hb:Below w.heap.size w w'):SlC w' v l:=h.mono fun _ _ hc=>Cx.q8 hb hc
theorem SlC.alloc {w:World} {v:Value} {l:List Ce} (h:SlC w v l) (o:Obj):SlC (w.alloc o) v l:=h.q8 ((Below.refl _ w).alloc (nlr _) o)
theorem qk5 (m rest:List Ce) (x:Ce) (a:Option Addr) (n c:Nat) (s:List Sd):(cat Ce.enc (m++x :: rest)).set (m.length*3+2) (.slice a n c)=cat Ce.enc (m++⟨x.id,x.dim,a,n,c,s⟩ :: rest):=by
 rw[x9,x9,List.set_append_right _ _ (by rw[qt Ce.qp];omega),qt Ce.qp,show m.length*3+2 - m.length*3=2 by omega];rfl
theorem zh (l:List Ce) (i:Nat) (x:Ce) (h:l[i]? = some x):(cat Ce.enc l)[i*3]? = some (.int .i64 x.id)/\(cat Ce.enc l)[i*3+1]? = some (.int .i64 x.dim)/\(cat Ce.enc l)[i*3+2]? = some (.slice x.a x.n x.c) :=
 ⟨q2l Ce.qp l i 0 x h (by omega),q2l Ce.qp l i 1 x h (by omega),q2l Ce.qp l i 2 x h (by omega)⟩
theorem zw (l:List Sd) (i:Nat) (x:Sd) (h:l[i]? = some x):(cat Sd.enc l)[i*2]? = some (.int .i64 x.c)/\(cat Sd.enc l)[i*2+1]? = some (.int .i64 x.g) :=
 ⟨q2l Sd.qp l i 0 x h (by omega),q2l Sd.qp l i 1 x h (by omega)⟩
end Go.Cx
namespace Go.Proofs.YtlhicnfeajejhaaGreatDoor
open Go.RowKit Go.Cx
attribute [local go_sem ↓] Go.wp_at_zero Go.wp_at_succ
theorem q8l (v:Value) (l:List Ce) (w:World) (h:SlC w v l) (hl:l.length<=1099511627776) (aX:∀ x∈l,x.s.length<=19) :
  Calls Tryz.prog 152 #[.agg #[v]] w fun e w'=>∃ r m,e = .returned (.agg #[r])/\m.map Ce.cl=canon (l.map Ce.cl)/\w'.ownsRow w.heap.size 75 3 r m.length (cat Ce.enc m) ∧
   (∀ x∈m,w'.ownsRow w.heap.size 108 2 x.sl x.s.length (cat Sd.enc x.s))/\Below w.heap.size w w':=by
 obtain⟨a,n,cap,rfl⟩:=qg h.1;have HH:=lhd h;clear h;have jH:=lhd aX;clear aX;go_enter Tryz.func152,Tryz.ntmps152;go_wp2_with fail;refine(qc0 _ l _ ((HH.out.1.alloc _).alloc _) hl).mono ?_;rintro e w1 ⟨r,l',rfl,k1,k2,hr,ai⟩;simp only [World.size_alloc] at hr ai;have bT:w.heap.size+2<=w1.heap.size:=by have:=ai.size;simpa using this
 have al:Below w.heap.size w w1:=(((Below.refl _ w).alloc (nlr _) _).alloc (by simp) _).trans (ai.mono (by omega));have b1:Bv w1 (w.heap.size+1) (.slice none 0 0):=by
  have:=Bv.new (w.alloc (.cells #[.slice a n cap] 26)) (.slice none 0 0) 26;rw[World.size_alloc] at this;exact this.below ai (by omega)
 have na:stb Cl.id (l.map Ce.cl)=l'.map Ce.cl:=by
  rw[qke (key:=Ce.id) Ce.cl (fun _=>rfl),q8s k1 k2]
 have tJ:=lhd na;have aZ:∀ x∈l',x∈l:=fun x hx=>(k1.mem x).2 hx
 have HM:=lhd aZ;have fS:l'.length<=1099511627776:=by rw[<-k1.len];exact hl
 have Vc:=lhd k1;clear na aZ k1 k2 ai;obtain⟨a',bE,rfl⟩:=qj hr;obtain⟨len,hlen⟩ : ∃ len,len=l'.length:=⟨_,rfl⟩
 rw[<-hlen] at hr fS ⊢;have HL:=lhd hlen;clear hlen;have HR:=lhd hr;clear hr;go_wp2;go_loopw [4,10] (fun _ i wr=>∃ (k:Nat) (m:List Ce),i = .int .i64 k/\k<=len/\m.length=k/\wr.ownsRow (w.heap.size+2) 75 3 (.slice a' len bE) len (cat Ce.enc (m++l'.drop k)) ∧
  Hid (∀ x∈m,wr.ownsRow w1.heap.size 108 2 x.sl x.s.length (cat Sd.enc x.s))/\Hid (m.map Ce.cl=(l'.take k).map (fun x=>x.cl.canon))/\Bv wr (w.heap.size+1) (.slice none 0 0)/\Below w.heap.size w wr/\w1.heap.size<=wr.heap.size) (fun _ i _=>len - (vI i).toNat)
 case atStart=>exact⟨0,[],rfl,gp _,rfl,HR.out,(show Hid _ from fun x hx=>by simp at hx),(show Hid _ from rfl),b1,al,nlr _⟩
 case round =>
  obtain⟨k,m,rfl,hk,iy,au,HF,HE,iX,hB,fI⟩:=hrel;obtain⟨p0,p1⟩:=iX;by_cases hlt:k < len
  ·obtain⟨g,rfl⟩ : ∃ g,a'=some ⟨g,0,none⟩:=by
    rcases au.2 with ⟨hv,_⟩ | ⟨g,cg,cur,hv,_⟩
    ·injection hv with _ hn _;omega
    ·injection hv with ha _ _;exact⟨g,ha⟩
   obtain⟨x,hx⟩ : ∃ x,l'[k]? = some x:=⟨_,g8 (by rw[<-HL.out];exact hlt)⟩
   have dQ:x∈l':=gd hx;have kZ:l'.drop k=x :: l'.drop (k+1):=by
    have aR:k < l'.length:=by rw[<-HL.out];exact hlt
    rw[be aR]
    congr 1
    have:=g8 aR;rw[this] at hx;exact osi hx
   have cZ:l'.take (k+1)=l'.take k++[x]:=by rw[gq,hx];rfl
   have o4:=(HR.out.lt g rfl)
   have lf:g < w1.heap.size:=o4.2;have E2:w.heap.size+2<=g:=o4.1;have jG:k*3+2 < len*3:=by omega
   have c2:wr.cell? ⟨g,k*3+2,none⟩=some (.slice x.a x.n x.c):=by
    have h1:=au.cellAt (k*3+2) jG;rw[h1];refine(zh (m++l'.drop k) k x ?_).2.2;rw[gO (by omega),iy,Nat.sub_self,kZ];rfl
   have f2:wr.frozen? ⟨g,k*3+2,none⟩=false:=au.frozenAt _;have iz:Sl wr 2 (.slice x.a x.n x.c) (cat Sd.enc x.s):=(HH.out.2 x (HM.out x dQ)).q8 hB;have ae:=qc1 (.slice x.a x.n x.c) x.s wr iz (jH.out x (HM.out x dQ));have HC:=lhd ae;have lj:=lhd au;have HX:=lhd (aiq kZ cZ);clear iz ae au hx dQ kZ cZ o4;go_wp2_with fail;refine HC.out.mono ?_;rintro e w2 ⟨r2,s',rfl,q1,q2,cB,ag⟩;obtain⟨a2,cT,rfl⟩:=qj cB;have c3:w2.cell? ⟨g,k*3+2,none⟩=some (.slice x.a x.n x.c):=q8 ag c2;have f3:w2.frozen? ⟨g,k*3+2,none⟩=false:=qv ag (by show g < _;omega) f2;have HQ:=lhd (aiq q1 q2);clear q1 q2;have ez:=lhd cB;clear cB;have aF:=lhd ag;clear ag;go_wp2;go_roundw
   case measure=>simp[vI];omega
   case rel =>
    have cj:=(qa lj.out aF.out).stored (k*3+2) (.slice a2 s'.length cT);refine⟨k+1,m++[⟨x.id,x.dim,a2,s'.length,cT,s'⟩],qh (by omega),by omega,by simp[iy],?_,(show Hid _ from fun y hy=>?_),(show Hid _ from ?_),?_,?_,?_⟩
    ·have:=cj.1;rw[HX.out.1,<-iy,qk5 m (l'.drop (m.length+1)) x a2 s'.length cT s'] at this;rw[gz];rw[<-iy];exact this
    ·rcases gF.1 hy with hy | hy
     ·exact ownsRow_setCell_below (qa (HF.out y hy) aF.out) lf _
     ·simp at hy;subst hy;exact ownsRow_setCell_below (qf ez.out fI) lf _
    ·show _=_;rw[bo,HE.out,HX.out.2,bo]
     congr 1
     simp only [List.map_cons,List.map_nil,Cl.canon,Ce.cl];rw[q8s HQ.out.1 HQ.out.2]
    ·exact(Bv.q8 ⟨p0,p1⟩ aF.out).other (show w.heap.size+1≠g by omega) _
    ·exact(hB.trans (aF.out.mono hB.size)).setCell (show w.heap.size<=g by omega) _
    ·have:=aF.out.size;simp[World.setCell];omega
  ·have aR:k=len:=by omega
   have oV:=lhd aR;clear aR;have lj:=lhd au;clear au;go_wp2_with fail;refine bodyPost_ret (v:=.agg #[.slice a' len bE]) (by simp[results,Tryz.results152,go_sem,(Bv.put (w:=wr) (b:=w.heap.size+1) ⟨p0,p1⟩ (.slice a' len bE)).1]) rfl ⟨_,m,rfl,?_,?_,fun y hy=>?_,?_⟩
   ·rw[HE.out,oV.out,ge (by rw[<-HL.out];exact nlr _)];unfold canon;rw[tJ.out,List.map_map];rfl
   ·have:=lj.out;rw[oV.out,gW (by rw[<-HL.out];exact nlr _),gQ] at this;rw[iy,oV.out];exact qf (ownsRow_setCell_below this (by show w.heap.size+1 < _;omega) _) (by omega)
   ·exact qf (ownsRow_setCell_below (HF.out y hy) (by show w.heap.size+1 < _;omega) _) (by omega)
   ·exact hB.setCell (show w.heap.size<=w.heap.size+1 by omega) _
end Go.Proofs.YtlhicnfeajejhaaGreatDoor
namespace Go.Cx
open Go.RowKit
def Ce.v (x:Ce):Value:=.agg #[.int .i64 x.id,.int .i64 x.dim,.slice x.a x.n x.c]
def gOf (L:List Ce):Int->Option Value:=fun c=>(L.find? (fun x=>x.id == c)).map Ce.v
theorem qa6 (L:List Ce) (c:Int):(gOf L c).isSome=true↔∃ y∈L,y.id=c:=by
 simp[gOf]
theorem qk6 (L:List Ce) (x:Ce) (h:∃ y∈L,y.id=x.id):gOf (L++[x])=gOf L:=by
 funext c
 unfold gOf;rw[List.find?_append];cases hf:L.find? (fun x=>x.id == c) with
 | some y=>rfl
 | none =>
  have hc:x.id≠c:=by
   intro e;obtain⟨y,hy,he⟩:=h;have:=List.find?_eq_none.1 hf y hy;simp at this;omega
  simp[hc]
theorem qk7 (L:List Ce) (x:Ce) (h:¬ ∃ y∈L,y.id=x.id):gOf (L++[x])=zg (gOf L) x.id x.v:=by
 funext c
 unfold gOf zg;rw[List.find?_append];by_cases hc:c=x.id
 ·subst hc;have:L.find? (fun y=>y.id == x.id)=none:=List.find?_eq_none.2 fun y hy e=>h ⟨y,hy,by simpa using e⟩
  rw[this];simp
 ·rw[if_neg hc];have:([x].find? fun y=>y.id == c)=none:=by simp;exact fun e=>hc e.symm
  rw[this];simp
theorem Sl.frame {w w':World} {st:Nat} {v:Value} {xs:List Value} (h:Sl w st v xs) (T:Nat) (hb:∀ ad n c,v = .slice (some ad) n c->T < ad.block) (hk:∀ p:Addr,T < p.block->∀ u,w.cell? p=some u->w'.cell? p=some u):Sl w' st v xs:=by
 obtain⟨a,n,cap,h1,h2,h3,h4,h5,h6⟩:=h;refine⟨a,n,cap,h1,h2,h3,h4,h5,fun ad ha j u hj=>hk _ ?_ _ (h6 ad ha j u hj)⟩;have:(ad.add j).block=ad.block:=by unfold Addr.add;split <;> rfl
 rw[this];exact hb ad n cap (by rw[h1,ha])
end Go.Cx
namespace Go.Proofs.YtlhicnfeajejhaaGreatDoor
open Go.RowKit Go.Cx
attribute [local go_sem ↓] Go.wp_at_zero Go.wp_at_succ
def COk (l:List Ce):Prop:=∀ x∈l,(I64 x.id/\I64 x.dim)/\x.s.length<=19/\∀ s∈x.s,I64 s.c/\I64 s.g
def Tab (w:World) (base T:Nat) (L:List Cl):Prop :=
 ∃ (B n:Nat) (v:Value) (m:List Ce),base<=T/\base<=B/\w.cell? ⟨T,0,none⟩=some (.map (some B))/\w.cell? ⟨T,1,none⟩=some v/\Mp Tryz.prog 3 w B n (gOf m) ∧
  Sl w 1 v (ints ((xb Ce.id m).map Ce.id))/\m.map Ce.cl=canon L/\(∀ x∈m,Sl w 2 x.sl (cat Sd.enc x.s))
theorem q5v (c:Int):∀ u∈[Value.int .i64 c],u.oneCell'=true:=by intro u hu;simp at hu;subst hu;rfl
theorem zeroCell (w:World):(zeroValue 75).run Tryz.prog w = .ok (.agg #[.int .i64 0,.int .i64 0,.slice none 0 0]) w:=Tryz.zeroValue75 w
theorem q3b (a:Option Addr) (n c:Nat):∀ w:World,(Instr.field 26 (.agg #[.slice a n c]) 0).run Tryz.prog w = .ok (.slice a n c) w:=fun w=>by kernel_rfl
theorem qnb (v:Value) (l:List Ce) (w:World) (h:SlC w v l) (hl:l.length<=1099511627776) (hok:COk l) :
  Calls Tryz.prog 132 #[.agg #[v]] w fun e w'=>∃ T,e = .returned (.pointer (some ⟨T,0,none⟩))/\Tab w' w.heap.size T (l.map Ce.cl)/\Below w.heap.size w w':=by
 have mixed:Tryz.prog.follows .mixedOrders=true:=by kernel_rfl
 obtain⟨a,n,cap,rfl⟩:=qg h.1;have HH:=lhd h;clear h;have iY:=lhd hok;clear hok;have cC:=@run_makeMap Tryz.prog;go_enter Tryz.func132,Tryz.ntmps132;go_wp2_with fail;have hc:=q8l (.slice a n cap) l (((w.alloc (.cells #[.slice a n cap] 26)).alloc (.map #[] 0)).alloc (.cells #[.map (some (w.heap.size+1)),.slice none 0 0] 183)) (((HH.out.alloc _).alloc _).alloc _) hl (fun x hx=>(iY.out x hx).2.1);refine hc.mono ?_;rintro e w1 ⟨r,m,rfl,hm,hr,hs,ai⟩;clear hc;simp only [World.size_alloc] at hr hs ai;have bT:w.heap.size+3<=w1.heap.size:=by have:=ai.size;simpa using this
 obtain⟨W0,ig⟩ : ∃ W0,W0=((w.alloc (.cells #[.slice a n cap] 26)).alloc (.map #[] 0)).alloc (.cells #[.map (some (w.heap.size+1)),.slice none 0 0] 183):=⟨_,rfl⟩
 have aV:Below w.heap.size w W0:=by rw[ig];exact(((Below.refl _ w).alloc (nlr _) _).alloc (by simp) _).alloc (by simp;omega) _
 have t0:W0.cell? ⟨w.heap.size+2,0,none⟩=some (.map (some (w.heap.size+1))):=by rw[ig];have:=qd ((w.alloc (.cells #[.slice a n cap] 26)).alloc (.map #[] 0)) #[.map (some (w.heap.size+1)),.slice none 0 0] 183 (0,0) 0;simpa using this
 have t1:W0.cell? ⟨w.heap.size+2,1,none⟩=some (.slice none 0 0):=by rw[ig];have:=qd ((w.alloc (.cells #[.slice a n cap] 26)).alloc (.map #[] 0)) #[.map (some (w.heap.size+1)),.slice none 0 0] 183 (0,0) 1;simpa using this
 have t2:W0.frozen? ⟨w.heap.size+2,1,none⟩=false:=by
  rw[ig];have:=jz (heap_alloc_new ((w.alloc (.cells #[.slice a n cap] 26)).alloc (.map #[] 0)) (.cells #[.map (some (w.heap.size+1)),.slice none 0 0] 183)) 1;simpa using this
 have tm:Mp Tryz.prog 3 W0 (w.heap.size+1) 0 (gOf []):=by
  rw[ig];rw[show gOf []=fun _=>none from rfl];have:=(Mp.made (w.alloc (.cells #[.slice a n cap] 26)) Tryz.prog 3).alloc (.cells #[.map (some (w.heap.size+1)),.slice none 0 0] 183);simpa using this
 rw[<-ig] at ai;have bL:W0.heap.size=w.heap.size+3:=by rw[ig];simp
 clear ig;have al:Below w.heap.size w w1:=aV.trans (ai.mono (by omega));have u0:=q1n ai (by omega) t0;have u1:=q1n ai (by omega) t1;have u2:=qv ai (by show w.heap.size+2 < _;omega) t2;have um:=tm.below ai (by omega);obtain⟨T,hT⟩ : ∃ T,T=w.heap.size+2:=⟨_,rfl⟩
 obtain⟨B,hB⟩ : ∃ B,B=w.heap.size+1:=⟨_,rfl⟩
 rw[<-hT] at u0 u1 u2 ⊢;rw[<-hB] at u0 um;have Gv:w.heap.size < T/\T < w.heap.size+3/\w.heap.size<=B/\B < T:=by omega
 have Vd:=lhd (aiq hT hB);clear t0 t1 t2 tm aV bL hT hB ai;have eV:m.length=l.length:=by
  have:=congrArg List.length hm;rw[q0z,gm,gm] at this;exact this
 have eS:∀ x∈m,I64 x.id:=fun x hx=>by
  have h1:x.cl∈canon (l.map Ce.cl):=by rw[<-hm];exact gE hx
  obtain⟨y,hy,he⟩:=go.1 h1;obtain⟨z,hz,rfl⟩:=go.1 ((q2m _ y).1 hy);have h2:=congrArg Cl.id he;have h3:z.id=x.id:=h2;rw[<-h3];exact(iY.out z hz).1.1
 have Gw:=lhd eS;clear eS;have HM:=lhd hm;clear hm;have HS:=lhd hs;clear hs;obtain⟨a',bE,rfl⟩:=qj hr;have zR:=Sl.qc hr;have hblk:∀ ad,a'=some ad->w.heap.size+3<=ad.block:=fun ad e=>by
  have:=(hr.lt ad.block (by rw[e];rfl)).1;simpa using this
 have Qs:=lhd hblk;clear hblk;have L9:=lhd zR;clear zR hr;obtain⟨len,hlen⟩ : ∃ len,len=m.length:=⟨_,rfl⟩
 rw[<-hlen] at L9 ⊢;have bH:len<=1099511627776:=by omega
 have HL:=lhd hlen;clear hlen eV hl;have lZ:=q3b a' len bE;go_wp2;go_loopw [5,6,7,15] (fun _ _ _ i wr=>∃ (k:Nat) (v:Value),i = .int .i64 k/\k<=len/\Mp Tryz.prog 3 wr B k (gOf (m.take k))/\wr.cell? ⟨T,0,none⟩=some (.map (some B))/\wr.cell? ⟨T,1,none⟩=some v/\wr.frozen? ⟨T,1,none⟩=false ∧
  wr.ownsRow w1.heap.size 3 1 v (xb Ce.id (m.take k)).length (ints ((xb Ce.id (m.take k)).map Ce.id))/\Below w.heap.size w wr/\(∀ p:Addr,T < p.block->∀ u,w1.cell? p=some u->wr.cell? p=some u)/\w1.heap.size<=wr.heap.size) (fun _ _ _ i _=>len - (vI i).toNat)
 case atStart=>exact⟨0,_,rfl,gp _,um,u0,u1,u2,World.ownsRow_nil _ _ _ _,al,fun _ _ _ h=>h,nlr _⟩
 case round =>
  obtain⟨k,v,rfl,hk,dt,q0,q1,q2,au,aL,LA,fI⟩:=hrel;have zS:=lhd LA;clear LA;have lj:=lhd au;clear au;clear u0 u1 u2 um;by_cases hlt:k < len
  ·obtain⟨x,hx⟩ : ∃ x,m[k]? = some x:=⟨_,g8 (by rw[<-HL.out];exact hlt)⟩
   obtain⟨h2,h3,h4,h5,h6⟩:=L9.out.open;obtain⟨ad,rfl⟩ : ∃ ad,a'=some ad:=by
    cases a' with
    | none=>have:=h5 rfl;omega
    | some ad=>exact⟨ad,rfl⟩
   have cy:T < ad.block:=by have:=Qs.out ad rfl;omega
   have ec:∀ j,(ad.add j).block=ad.block:=fun j=>by unfold Addr.add;split <;> rfl
   obtain⟨e0,e1,e2⟩:=zh m k x hx;have d0:wr.cell? (ad.add (k*3))=some (.int .i64 x.id):=zS.out _ (by rw[ec];exact cy) _ (h6 ad rfl _ _ e0);have d1:wr.cell? ⟨(ad.add (k*3)).block,(ad.add (k*3)).off+1,none⟩=some (.int .i64 x.dim):=by rw[qi _ _ _ (by omega)];exact zS.out _ (by rw[ec];exact cy) _ (h6 ad rfl _ _ e1)
   have d2:wr.cell? ⟨(ad.add (k*3)).block,(ad.add (k*3)).off+2,none⟩=some (.slice x.a x.n x.c):=by rw[qi _ _ _ (by omega)];exact zS.out _ (by rw[ec];exact cy) _ (h6 ad rfl _ _ e2)
   have lk:=gd hx;have o5:=Gw.out x lk;have aq:=q0k (P:=Tryz.prog) (k:=3) Tryz.underlying3 o5.1 o5.2;have cZ:m.take (k+1)=m.take k++[x]:=by rw[gq,hx];rfl
   have dc:=lhd cZ;clear h2 h3 h4 h5 h6 e0 e1 e2 ec hx cZ lk o5;have a0:(wr.alloc (.cells #[.int .i64 x.id,.int .i64 x.dim,.slice x.a x.n x.c] 75)).cell? ⟨T,0,none⟩=some (.map (some B)):=qk q0 _;have a1:(wr.alloc (.cells #[.int .i64 x.id,.int .i64 x.dim,.slice x.a x.n x.c] 75)).cell? ⟨wr.heap.size,0,none⟩=some (.int .i64 x.id):=qd wr #[.int .i64 x.id,.int .i64 x.dim,.slice x.a x.n x.c] 75 (0,0) 0;have am:=dt.alloc (.cells #[.int .i64 x.id,.int .i64 x.dim,.slice x.a x.n x.c] 75);obtain⟨zi,zd,za,zn,zc,F,hz,hF⟩ : ∃ (zi zd:Int) (za:Option Addr) (zn zc:Nat) (F:Bool),(gOf (m.take k) x.id).getD (.agg #[.int .i64 0,.int .i64 0,.slice none 0 0]) = .agg #[.int .i64 zi,.int .i64 zd,.slice za zn zc]/\(gOf (m.take k) x.id).isSome=F:=by
    unfold gOf;cases (m.take k).find? (fun y=>y.id == x.id) with
    | none=>exact⟨_,_,_,_,_,_,rfl,rfl⟩
    | some y=>exact⟨_,_,_,_,_,_,rfl,rfl⟩
   have dd:∀ W:World,Mp Tryz.prog 3 W B k (gOf (m.take k))->(Instr.lookup 181 (.map (some B)) (.int .i64 x.id) true).run Tryz.prog W = .ok (.tuple #[.agg #[.int .i64 zi,.int .i64 zd,.slice za zn zc],.bool F]) W:=fun W hW=>by
    have:=hW.qgy Tryz.underlying3 Tryz.underlying181 (zeroCell _) aq
    rwa [hz,hF] at this
   have oW:=lhd dd;have LB:=lhd hF;clear hz hF dd;go_wp2_with fail
   go_region_held3 (fun w'=>w'.cell? ⟨T,0,none⟩=some (.map (some B))/\w'.cell? ⟨wr.heap.size,0,none⟩=some (.int .i64 x.id)/\Mp Tryz.prog 3 w' B k (gOf (m.take k))/\(Instr.lookup 181 (.map (some B)) (.int .i64 x.id) true).run Tryz.prog w' = .ok (.tuple #[.agg #[.int .i64 zi,.int .i64 zd,.slice za zn zc],.bool F]) w')
    (first
     | exact⟨by assumption,by assumption,by assumption,oW.out _ (by assumption)⟩
     | exact⟨qk (by assumption) _,qk (by assumption) _,Mp.alloc (by assumption) _,oW.out _ (Mp.alloc (by assumption) _)⟩)
    (fail)
   all_goals
    obtain⟨W3,i6⟩ : ∃ W3,W3=((wr.alloc (.cells #[.int .i64 x.id,.int .i64 x.dim,.slice x.a x.n x.c] 75)).alloc (.cells #[.int .i64 zi,.int .i64 zd,.slice za zn zc] 75)).drew:=⟨_,rfl⟩
    rw[<-i6];have aB:Below wr.heap.size wr W3:=by rw[i6];exact qb (((Below.refl _ wr).alloc (nlr _) _).alloc (by simp) _) 1
    have x0:W3.cell? ⟨wr.heap.size,0,none⟩=some (.int .i64 x.id):=by rw[i6];exact qk (qd wr #[.int .i64 x.id,.int .i64 x.dim,.slice x.a x.n x.c] 75 (0,0) 0) _
    have x1:W3.cell? ⟨wr.heap.size,1,none⟩=some (.int .i64 x.dim):=by rw[i6];exact qk (qd wr #[.int .i64 x.id,.int .i64 x.dim,.slice x.a x.n x.c] 75 (0,0) 1) _
    have x2:W3.cell? ⟨wr.heap.size,2,none⟩=some (.slice x.a x.n x.c):=by rw[i6];exact qk (qd wr #[.int .i64 x.id,.int .i64 x.dim,.slice x.a x.n x.c] 75 (0,0) 2) _
    have kI:wr.heap.size+2=W3.heap.size:=by rw[i6];simp
    clear i6 a0 a1 am;have y0:=Cx.q8 aB q0;have y1:=Cx.q8 aB q1;have y2:W3.frozen? ⟨T,1,none⟩=false:=qv aB (World.block_lt_of_cell? wr _ q1) q2;have ym:=dt.q8 aB;have yr:=qa lj.out aB;have YR:=lhd yr;clear yr;have eK:=lhd aB;clear aB;by_cases Gx:F=true
    ·subst Gx;go_wp2;go_roundw
     case measure=>simp[vI];omega
     case rel =>
      have hex:=(qa6 _ _).1 LB.out;refine⟨k+1,v,qh (by omega),by omega,?_,y0,y1,y2,?_,aL.trans (eK.out.mono aL.size),fun p hp u hu=>Cx.q8 eK.out (zS.out p hp u hu),by omega⟩
      ·rw[dc.out,qk6 _ _ hex];exact ym.mono (Nat.le_succ _)
      ·rw[dc.out,q4z _ _ hex];exact YR.out
    ·have Qt:F=false:=by simpa using Gx
     subst Qt;have Bb:¬ ∃ y∈m.take k,y.id=x.id:=fun h=>by have:=(qa6 _ _).2 h;rw[LB.out] at this;cases this
     have Bc:=lhd Bb;clear Bb Gx;have oX:T < wr.heap.size:=World.block_lt_of_cell? wr _ q0;obtain⟨w5,ll,ri,ed⟩:=Mp.set (w:=W3.drew) (P:=Tryz.prog) (k:=3) (t:=181) (e:=75) (g:=gOf (m.take k)) (n:=k) (b:=B) ym Tryz.underlying3 Tryz.underlying181 (by unfold maxLen;omega) aq x.v;have z0:w5.cell? ⟨T,0,none⟩=some (.map (some B)):=ql ed y0 (fun k e=>by cases e;show T≠B;omega);have z1:w5.cell? ⟨T,1,none⟩=some v:=ql ed y1 (fun k e=>by cases e;show T≠B;omega);have Ve:w5.cell? ⟨wr.heap.size,0,none⟩=some (.int .i64 x.id):=ql ed x0 (fun k e=>by cases e;show wr.heap.size≠B;omega);have Vf:w5.cell? ⟨wr.heap.size,1,none⟩=some (.int .i64 x.dim):=ql ed x1 (fun k e=>by cases e;show wr.heap.size≠B;omega);have Vg:w5.cell? ⟨wr.heap.size,2,none⟩=some (.slice x.a x.n x.c):=ql ed x2 (fun k e=>by cases e;show wr.heap.size≠B;omega);have z2:w5.frozen? ⟨T,1,none⟩=false:=by
      have:=ed.frozen_far ⟨T,1,none⟩ (World.block_lt_of_cell? W3 _ y1) (by simp;omega);rw[this];exact y2
     have tL:w5.ownsRow w1.heap.size 3 1 v (xb Ce.id (m.take k)).length (ints ((xb Ce.id (m.take k)).map Ce.id)):=(World.ownsRow.drew YR.out).kept ed (.inr (fun e=>by have:=((YR.out).lt B e).1;omega));have zT:W3.heap.size<=w5.heap.size:=ed.size;have LC:(Instr.mapUpdate 181 (.map (some B)) (.int .i64 x.id) (.agg #[.int .i64 x.id,.int .i64 x.dim,.slice x.a x.n x.c])).run Tryz.prog W3.drew = .ok () w5:=ll;have Qu:=lhd ri;clear ri;have LD:=lhd ed;clear ed;have Bd:=lhd tL;clear tL ll;have LF:∀ k,v.ownBlock=some k->wr.heap.size≠k:=fun k e=>by have:=(lj.out.lt k e).2;omega
     have Vh:=lhd LF;clear LF;have oT:=q3c (key:=Ce.id) (m.take k);rw[gh] at oT;have LG:(w5.drew.alloc (.cells #[.int .i64 x.id] 3)).frozen? ⟨T,1,none⟩=false:=qv ((Below.refl _ w5.drew).alloc (nlr _) _) (World.block_lt_of_cell? w5 _ z1) z2;have Qv:=lhd LG;clear LG;go_wp2_with fail
     go_region_held3 (fun w'=>w'.cell? ⟨T,0,none⟩=some (.map (some B))/\w'.cell? ⟨wr.heap.size,0,none⟩=some (.int .i64 x.id)/\w'.cell? ⟨wr.heap.size,1,none⟩=some (.int .i64 x.dim)/\w'.cell? ⟨wr.heap.size,2,none⟩=some (.slice x.a x.n x.c))
      (first
       | exact⟨by assumption,by assumption,by assumption,by assumption⟩)
      (fail)
     all_goals
      obtain⟨i0,hi,bL,bT,cp⟩:=info_parts Tryz.xg;go_wp2_with fail;have Vi:(w5.alloc (.cells #[.int .i64 x.id] 3)).cell? ⟨T,1,none⟩=some v:=qk z1 _
      go_region_law (first
        |(refine step_append_lies _ rfl _ _ 22 rfl w1.heap.size 3 i0 _ 1 8 Tryz.underlying22 hi bL bT cp rfl (by decide) _ _ _ rfl ((World.ownsRow.drew Bd.out).alloc _) ⟨w5.heap.size,0,none⟩ 1 1 [.int .i64 x.id] rfl rfl (q7l w5.drew _ _) (q5v _) (by decide) (by unfold maxLen;omega) (by omega) (by simp;omega) _ rfl ?_;intro g cg w6 aO ar cU e6;have aG:((w5.alloc (.cells #[.int .i64 x.id] 3)).drew).grownBy w6 v.ownBlock:=ar;clear ar cU;have b1:w6.cell? ⟨T,1,none⟩=some v:=ql aG (qk z1 _) (fun k e=>by have:=(Bd.out.lt k e).1;show T≠k;omega);have b0:w6.cell? ⟨T,0,none⟩=some (.map (some B)):=ql aG (qk z0 _) (fun k e=>by have:=(Bd.out.lt k e).1;show T≠k;omega);have b2:w6.frozen? ⟨T,1,none⟩=false:=(aG.frozen_far ⟨T,1,none⟩ (by simp;omega) (fun e=>by have:=(Bd.out.lt T e.symm).1;omega)).trans (Qv.out);have F6:=lhd (aiq aO aG);clear aO aG))
      all_goals
       go_wp2;go_roundw
       case measure=>simp[vI];omega
       case rel =>
        obtain⟨aO,aG⟩:=F6.out;have vW:(w5.alloc (.cells #[.int .i64 x.id] 3)).heap.size<=w6.heap.size:=aG.size;rw[World.size_alloc] at vW;have Be:Below w5.heap.size w5 ((w5.alloc (.cells #[.int .i64 x.id] 3)).drew):=qb ((Below.refl _ w5).alloc (nlr _) _) 1;have oY:∀ k,v.ownBlock=some k->w1.heap.size<=k:=fun k e=>(Bd.out.lt k e).1
        have o6:Mp Tryz.prog 3 w6 B (k+1) (zg (gOf (m.take k)) x.id x.v):=(Qu.out.q8 Be).kept aG (fun e=>by have:=oY B e.symm;omega);have Bf:Below w.heap.size w w5:=(qb (aL.trans (eK.out.mono aL.size)) 1).grown LD.out (by have:=aL.size;show w.heap.size<=W3.heap.size;omega) (fun k e=>by cases e;omega);have fJ:Below w.heap.size w w6:=(Bf.trans (Be.mono Bf.size)).grown aG (by simp;omega) (fun k e=>by have:=oY k e;omega);refine⟨k+1,_,qh (by omega),by omega,?_,?_,World.cell?_setCell_same' _ _ _ (by rw[b1];rfl),by rw[World.frozen?_setCell];exact b2,?_,fJ.setCell (show w.heap.size<=T by omega) _,fun p hp u hu=>?_,by simp[World.setCell];omega⟩
        ·rw[dc.out,qk7 _ _ Bc.out];exact o6.setCell (show B≠T by omega) _
        ·rw[World.cell?_setCell_other _ ⟨T,1,none⟩ ⟨T,0,none⟩ _ (by simp)];exact b0
        ·rw[dc.out,q50 _ _ Bc.out,bo,j3,gl];exact ownsRow_setCell_below aO (show T < w1.heap.size by omega) _
        ·have mP:=World.block_lt_of_cell? w1 _ hu;refine xe (ql aG (qk (ql LD.out (Cx.q8 eK.out (zS.out p hp u hu)) (fun k e=>by cases e;omega)) _) (fun k e=>by have:=oY k e;omega)) (by show p.block≠T;omega)
  ·have aR:k=len:=by omega
   have dw:m.take k=m:=ge (by rw[<-HL.out];omega);have zU:=lhd dw;clear dw aR;go_wp2;go_ret;refine⟨T,rfl,⟨B,k,v,m,by omega,by omega,q0,q1,?_,?_,HM.out,fun x hx=>?_⟩,aL⟩
   ·rw[zU.out] at dt;exact dt
   ·have:=Sl.qc lj.out;rw[zU.out] at this;exact this
   ·have h1:=HS.out x hx;refine Sl.frame (Sl.qc h1) T (fun ad n c e=>?_) zS.out;have:=(h1.lt ad.block (by rw[e];rfl)).1;omega
end Go.Proofs.YtlhicnfeajejhaaGreatDoor
