/- Steps towards SequenceChecks. Conditions: none. -/
import Derived.Test.YtmkpbhaoalbhjaaGreatDoorXNl
set_option maxRecDepth 1000000
set_option maxHeartbeats 0
open Go.Value renaming slice→O,agg→I,pointer→σ,bool→τ,int→H,tuple→ψ
open Option renaming none→Z,some→Y
open Go.IntKind renaming i64→φ
open Go renaming World→δ,Value→ε
open Go.Cx renaming keep→J
namespace Go.Cx
open Go.RowKit
def Bv (w:δ)(b:Nat)(v:ε):Prop:=w b=Y v/\w.frozen? b=false
theorem Bv.new (w:δ)(v:ε)(t:TypeId):Bv (w.alloc (.cells #[v] t)) w v:=⟨qd _ _ _ _ _,jz (heap_alloc_new w _) _⟩
theorem xf {B:Nat}{w w':δ}(h:Below B w w'){p:Addr}(hp:p.block<B)(hf:w.frozen? p=false):w'.frozen? p=false:=by have:=h.block p.block hp;unfold World.frozen? at *;rw[this];exact hf
theorem Bv.below {B:Nat}{w w':δ}{b:Nat}{v:ε}(h:Bv w b v)(hb:Below B w w')(hB:b<B):Bv w' b v:=by refine⟨(hb.cell (by exact hB)).trans h.1,xf hb hB h.2⟩
theorem Bv.alloc {w:δ}{b:Nat}{v:ε}(h:Bv w b v)(o:Obj):Bv (w.alloc o) b v :=
 h.below (bal w o) (World.block_lt_of_cell? w _ h.1)
theorem Bv.keep {w w':δ}{b:Nat}{v:ε}(h:Bv w b v)(hb:Below w w w'):Bv w' b v:=h.below hb (World.block_lt_of_cell? w _ h.1)
theorem Bv.put {w:δ}{b:Nat}{v:ε}(h:Bv w b v)(u:ε):Bv (w.setCell b u) b u :=
 ⟨World.cell?_setCell_same' _ _ _ (by rw[h.1];rfl),by rw[World.frozen?_setCell];exact h.2⟩
theorem Bv.other {w:δ}{b:Nat}{v:ε}(h:Bv w b v){a:Addr}(ha:b≠a.block)(u:ε):Bv (w.setCell a u) b v :=
 ⟨xe h.1 ha,by rw[World.frozen?_setCell];exact h.2⟩
theorem SlC.mono {w w':δ}{v:ε}{l:List Ce}(h:SlC w v l)(hk:∀p u,w p=Y u->w' p=Y u):SlC w' v l:=⟨h.1.mono hk,fun x hx=>(h.2 x hx).mono hk⟩
theorem SlC.keep {w w':δ}{v:ε}{l:List Ce}(h:SlC w v l)(hb:Below w w w'):SlC w' v l:=h.mono fun _ _ hc=>J hb hc
theorem SlC.alloc {w:δ}{v:ε}{l:List Ce}(h:SlC w v l)(o:Obj):SlC (w.alloc o) v l:=h.keep (bal w o)
theorem qk5 (m rest:List Ce)(x:Ce)(a:Option Addr)(n c:Nat)(s:List Sd):(cat Ce.enc (m++x :: rest)).set (m.length*3+2) (O a n c)=cat Ce.enc (m++⟨x.id,x.dim,a,n,c,s⟩ :: rest):=by rw[q2e,q2e,List.set_append_right _ _ (by rw[qt Ce.qp];omega),qt Ce.qp,show m.length*3+2-m.length*3=2 by omega];rfl
theorem zh (l:List Ce)(i:Nat)(x:Ce)(h:l[i]? =Y x):(cat Ce.enc l)[i*3]? =x.id/\(cat Ce.enc l)[i*3+1]? =x.dim/\(cat Ce.enc l)[i*3+2]? =O x.a x.n x.c :=
 ⟨q2l Ce.qp l i 0 x h (by omega),q2l Ce.qp l i 1 x h (by omega),q2l Ce.qp l i 2 x h (by omega)⟩
theorem zw (l:List Sd)(i:Nat)(x:Sd)(h:l[i]? =Y x):(cat Sd.enc l)[i*2]? =x.c/\(cat Sd.enc l)[i*2+1]? =x.g :=
 ⟨q2l Sd.qp l i 0 x h (by omega),q2l Sd.qp l i 1 x h (by omega)⟩
end Go.Cx
namespace Go.Proofs.YtmkpbhaoalbhjaaGreatDoor
open Go.RowKit Go.Cx
attribute [local go_sem ↓] Go.wp_at_zero Go.wp_at_succ
theorem q8l (v:ε)(l:List Ce)(w:δ)(h:SlC w v l)(hl:l.length<=19)(aV:∀x∈l,x.s.length<=19) :
  Calls Tryz.prog 72 #[I #[v]] w fun e w'=>∃r m,e=.returned (I #[r])/\m.map Ce.cl=canon (l.map Ce.cl)/\w'.ownsRow w.heap.size 52 3 r m.length (cat Ce.enc m) ∧
   (∀x∈m,w'.ownsRow w.heap.size 54 2 x.sl x.s.length (cat Sd.enc x.s))/\Below w.heap.size w w':=by
 obtain⟨a,n,cap,rfl⟩:=qg h.1;have HH:=lhd h;clear h;have yO:=lhd aV;clear aV;go_enter Tryz.func72,Tryz.ntmps72;go_wp2_with fail;refine(qc0 _ l _ ((HH.out.1.alloc _).alloc _) hl).mono ?_;rintro e w1 ⟨r,l',rfl,k1,k2,hr,ae⟩;simp only [World.size_alloc]at hr ae;have dB:w.heap.size+2<=w1.heap.size:=by have:=ae.size;simpa using this
 have aF:Below w.heap.size w w1:=((bal w _).alloc (by simp) _).trans (ae.mono (by omega));have b1:Bv w1 (w.heap.size+1) (O Z 0 0):=by have:=Bv.new (w.alloc (.cells #[O a n cap] 36)) (O Z 0 0) 36;rw[World.size_alloc]at this;exact this.below ae (by omega)
 have dF:stb Cl.id (l.map Ce.cl)=l'.map Ce.cl:=by rw[qke (key:=Ce.id) Ce.cl (fun _=>rfl),q8s k1 k2]
 have Bo:=lhd dF;have cG:∀x∈l',x∈l:=fun x hx=>(k1.mem x).2 hx
 have HM:=lhd cG;have qX:l'.length<=19:=by rw[<-k1.len];exact hl
 have tx:=lhd k1;clear dF cG k1 k2 ae;obtain⟨a',dQ,rfl⟩:=qj hr;obtain⟨len,hlen⟩:=x4 l'.length;rw[<-hlen]at hr qX ⊢;have HL:=lhd hlen;clear hlen;have HR:=lhd hr;clear hr;go_wp2;go_loopw [4,10] (fun _ i wr=>∃(k:Nat) (m:List Ce),i=H φ k/\k<=len/\m.length=k/\wr.ownsRow (w.heap.size+2) 52 3 (O a' len dQ) len (cat Ce.enc (m++l'.drop k)) ∧
  Hid (∀x∈m,wr.ownsRow w1.heap.size 54 2 x.sl x.s.length (cat Sd.enc x.s))/\Hid (m.map Ce.cl=(l'.take k).map (fun x=>x.cl.canon))/\Bv wr (w.heap.size+1) (O Z 0 0)/\Below w.heap.size w wr/\w1.heap.size<=wr.heap.size) (fun _ i _=>len-(vI i).toNat)
 case atStart=>exact⟨0,[],rfl,gm _,rfl,HR.out,(lhd (fun x hx=>by simp at hx)),(lhd rfl),b1,aF,nlr _⟩
 case round =>
  obtain⟨k,m,rfl,hk,jM,al,HF,HE,fF,hB,Jn⟩:=hrel;obtain⟨p0,p1⟩:=fF;by_cases ak:k<len
  ·obtain⟨g,rfl⟩:∃g,a'=Y ⟨g,0,Z⟩:=by
    rcases al.2 with ⟨hv,_⟩|⟨g,cg,cur,hv,_⟩
    ·injection hv with _ hn _;omega
    ·injection hv with ha _ _;exact⟨g,ha⟩
   obtain⟨x,hx⟩:∃x,l'[k]? =Y x:=⟨_,gg (by rw[<-HL.out];exact ak)⟩
   have ee:x∈l':=gi hx;have bN:l'.drop k=x :: l'.drop (k+1):=by
    have aZ:k<l'.length:=by rw[<-HL.out];exact ak
    rw[bJ aZ]
    congr 1
    have:=gg aZ;rw[this]at hx;exact osi hx
   have dH:l'.take (k+1)=l'.take k++[x]:=by rw[gC,hx];rfl
   have Jo:=(HR.out.lt g rfl)
   have qY:g<w1.heap.size:=Jo.2;have WM:w.heap.size+2<=g:=Jo.1;have o4:k*3+2<len*3:=by omega
   have c2:wr.cell? ⟨g,k*3+2,Z⟩=Y (O x.a x.n x.c):=by have h1:=al.cellAt (k*3+2) o4;rw[h1];refine(zh (m++l'.drop k) k x ?_).2.2;rw[gQ (by omega),jM,Nat.sub_self,bN];rfl
   have f2:wr.frozen? ⟨g,k*3+2,Z⟩=false:=al.frozenAt _;have kP:Sl wr 2 (O x.a x.n x.c) (cat Sd.enc x.s):=(HH.out.2 x (HM.out x ee)).keep hB;have aq:=qc1 (O x.a x.n x.c) x.s wr kP (yO.out x (HM.out x ee));have HC:=lhd aq;have nD:=lhd al;have HX:=jg bN dH;clear kP aq al hx ee bN dH Jo;go_wp2_with fail;refine HC.out.mono ?_;rintro e w2 ⟨r2,s',rfl,q1,q2,cE,aj⟩;obtain⟨a2,iE,rfl⟩:=qj cE;have c3:w2.cell? ⟨g,k*3+2,Z⟩=Y (O x.a x.n x.c):=keep aj c2;have f3:w2.frozen? ⟨g,k*3+2,Z⟩=false:=xf aj (by show g<_;omega) f2;have HQ:=jg q1 q2;clear q1 q2;have nE:=lhd cE;clear cE;have aR:=lhd aj;clear aj;go_wp2;go_roundw
   case measure=>simp[vI];omega
   case rel =>
    have o5:=(qa nD.out aR.out).stored (k*3+2) (O a2 s'.length iE);refine⟨k+1,m++[⟨x.id,x.dim,a2,s'.length,iE,s'⟩],qh (by omega),by omega,by simp[jM],?_,(lhd (fun y hy=>?_)),(show Hid _ from ?_),?_,?_,?_⟩
    ·have:=o5.1;rw[HX.out.1,<-jM,qk5 m (l'.drop (m.length+1)) x a2 s'.length iE s']at this;rw[bj];rw[<-jM];exact this
    ·rcases gO.1 hy with hy|hy
     ·exact ownsRow_setCell_below (qa (HF.out y hy) aR.out) qY _
     ·simp at hy;subst hy;exact ownsRow_setCell_below (qf nE.out Jn) qY _
    ·show _=_;rw[gW,HE.out,HX.out.2,gW]
     congr 1
     simp only [List.map_cons,List.map_nil,Cl.canon,Ce.cl];rw[q8s HQ.out.1 HQ.out.2]
    ·exact(Bv.keep ⟨p0,p1⟩ aR.out).other (show w.heap.size+1≠g by omega) _
    ·exact((btr hB aR.out)).setCell (show w.heap.size<=g by omega) _
    ·have:=aR.out.size;simp[World.setCell];omega
  ·have aZ:k=len:=by omega
   have yP:=lhd aZ;clear aZ;have nD:=lhd al;clear al;go_wp2_with fail;refine bodyPost_ret (v:=I #[O a' len dQ]) (by simp[results,Tryz.results72,go_sem,(Bv.put (w:=wr) (b:=w.heap.size+1) ⟨p0,p1⟩ (O a' len dQ)).1]) rfl ⟨_,m,rfl,?_,?_,fun y hy=>?_,?_⟩
   ·rw[HE.out,yP.out,gr (by rw[<-HL.out];exact nlr _)];unfold canon;rw[Bo.out,List.map_map];rfl
   ·have:=nD.out;rw[yP.out,bL (by rw[<-HL.out];exact nlr _),bl]at this;rw[jM,yP.out];exact qf (ownsRow_setCell_below this (by show w.heap.size+1<_;omega) _) (by omega)
   ·exact qf (ownsRow_setCell_below (HF.out y hy) (by show w.heap.size+1<_;omega) _) (by omega)
   ·exact hB.setCell (show w.heap.size<=w.heap.size+1 by omega) _
end Go.Proofs.YtmkpbhaoalbhjaaGreatDoor
namespace Go.Cx
open Go.RowKit
def Ce.v (x:Ce):Value:=I #[x.id,x.dim,O x.a x.n x.c]
def gOf (L:List Ce):Int->Option Value:=fun c=>(L.find? (fun x=>x.id == c)).map Ce.v
theorem qa6 (L:List Ce)(c:Int):(gOf L c).isSome=true↔∃y∈L,y.id=c:=by simp[gOf]
theorem qk6 (L:List Ce)(x:Ce)(h:∃y∈L,y.id=x.id):gOf (L++[x])=gOf L:=by
 funext c
 unfold gOf;rw[List.find?_append];cases hf:L.find? (fun x=>x.id == c)with
 |some y=>rfl
 |none =>
  have hc:x.id≠c:=by intro e;obtain⟨y,hy,he⟩:=h;have:=List.find?_eq_none.1 hf y hy;simp at this;omega
  simp[hc]
theorem qk7 (L:List Ce)(x:Ce)(h:¬ ∃y∈L,y.id=x.id):gOf (L++[x])=zg (gOf L) x.id x.v:=by
 funext c
 unfold gOf zg;rw[List.find?_append];by_cases hc:c=x.id
 ·subst hc;have:L.find? (fun y=>y.id == x.id)=none:=List.find?_eq_none.2 fun y hy e=>h ⟨y,hy,by simpa using e⟩
  rw[this];simp
 ·rw[if_neg hc];have:([x].find? fun y=>y.id == c)=none:=by simp;exact fun e=>hc e.symm
  rw[this];simp
theorem Sl.frame {w w':δ}{st:Nat}{v:ε}{xs:List ε}(h:Sl w st v xs)(T:Nat)(hb:∀ad n c,v=O (Y ad) n c->T<ad.block)(hk:∀p:Addr,T<p.block->∀u,w p=Y u->w' p=Y u):Sl w' st v xs:=by
 obtain⟨a,n,cap,h1,h2,h3,h4,h5,h6⟩:=h;refine⟨a,n,cap,h1,h2,h3,h4,h5,fun ad ha j u hj=>hk _ ?_ _ (h6 ad ha j u hj)⟩;have:(ad.add j).block=ad.block:=by unfold Addr.add;split <;> rfl
 rw[this];exact hb ad n cap (by rw[h1,ha])
end Go.Cx
namespace Go.Proofs.YtmkpbhaoalbhjaaGreatDoor
open Go.RowKit Go.Cx
attribute [local go_sem ↓] Go.wp_at_zero Go.wp_at_succ
def COk (l:List Ce):Prop:=∀x∈l,(I64 x.id/\I64 x.dim)/\x.s.length<=19/\∀s∈x.s,I64 s.c/\I64 s.g
def Tab (w:δ)(base T:Nat)(L:List Cl):Prop :=
 ∃(B n:Nat) (v:ε) (m:List Ce),base<=T/\base<=B/\w T=Value.map (Y B)/\w ⟨T,1,Z⟩=Y v/\Mp Tryz.prog 3 w B n (gOf m) ∧
  Sl w 1 v (ints ((xb Ce.id m).map Ce.id))/\m.map Ce.cl=canon L/\(∀x∈m,Sl w 2 x.sl (cat Sd.enc x.s))
theorem q5v (c:Int):∀u∈[H φ c],u.oneCell'=true:=by intro u hu;simp at hu;subst hu;rfl
theorem zeroCell (w:δ):(zeroValue 52).run Tryz.prog w=.ok (I #[H φ 0,H φ 0,O Z 0 0]) w:=Tryz.zeroValue52 w
theorem q3b (a:Option Addr)(n c:Nat):∀w:δ,(Instr.field 36 (I #[O a n c]) 0).run Tryz.prog w=.ok (O a n c) w:=fun w=>by kernel_rfl
theorem qnb (v:ε)(l:List Ce)(w:δ)(h:SlC w v l)(hl:l.length<=19)(fj:COk l) :
  Calls Tryz.prog 49 #[I #[v]] w fun e w'=>∃T,e=.returned (σ (Y ⟨T,0,Z⟩))/\Tab w' w.heap.size T (l.map Ce.cl)/\Below w.heap.size w w':=by
 have mixed:Tryz.prog.follows .mixedOrders=true:=by kernel_rfl
 obtain⟨a,n,cap,rfl⟩:=qg h.1;have HH:=lhd h;clear h;have qZ:=lhd fj;clear fj;have dU:=@run_makeMap Tryz.prog;go_enter Tryz.func49,Tryz.ntmps49;go_wp2_with fail;have hc:=q8l (O a n cap) l (((w.alloc (.cells #[O a n cap] 36)).alloc (.map #[] 0)).alloc (.cells #[.map (Y (w+1)),O Z 0 0] 90)) (((HH.out.alloc _).alloc _).alloc _) hl (fun x hx=>(qZ.out x hx).2.1);refine hc.mono ?_;rintro e w1 ⟨r,m,rfl,hm,hr,hs,ae⟩;clear hc;simp only [World.size_alloc]at hr hs ae;have dB:w.heap.size+3<=w1:=by have:=ae.size;simpa using this
 obtain⟨W0,aB⟩:=x4 (((w.alloc (.cells #[O a n cap] 36)).alloc (.map #[] 0)).alloc (.cells #[.map (Y (w.heap.size+1)),O Z 0 0] 90));have lN:Below w w W0:=by rw[aB];exact((bal w _).alloc (by simp) _).alloc (by simp;omega) _
 have t0:W0 (w+2:Nat)=Value.map (Y (w+1)):=by rw[aB];have:=qd ((w.alloc (.cells #[O a n cap] 36)).alloc (.map #[] 0)) #[.map (Y (w+1)),O Z 0 0] 90 (0,0) 0;simpa using this
 have t1:W0 ⟨w+2,1,Z⟩=O Z 0 0:=by rw[aB];have:=qd ((w.alloc (.cells #[O a n cap] 36)).alloc (.map #[] 0)) #[.map (Y (w+1)),O Z 0 0] 90 (0,0) 1;simpa using this
 have t2:W0.frozen? ⟨w+2,1,Z⟩=false:=by rw[aB];have:=jz (heap_alloc_new ((w.alloc (.cells #[O a n cap] 36)).alloc (.map #[] 0)) (.cells #[.map (Y (w+1)),O Z 0 0] 90)) 1;simpa using this
 have tm:Mp Tryz.prog 3 W0 (w+1) 0 (gOf []):=by rw[aB];rw[show gOf []=fun _=>Z from rfl];have:=(Mp.made (w.alloc (.cells #[O a n cap] 36)) Tryz.prog 3).alloc (.cells #[.map (Y (w+1)),O Z 0 0] 90);simpa using this
 rw[<-aB]at ae;have dv:W0.heap.size=w+3:=by rw[aB];simp
 clear aB;have aF:Below w w w1:=lN.trans (ae.mono (by omega));have u0:=q1n ae (by omega) t0;have u1:=q1n ae (by omega) t1;have u2:=xf ae (by show w.heap.size+2<_;omega) t2;have um:=tm.below ae (by omega);obtain⟨T,hT⟩:=x4 (w.heap.size+2);obtain⟨B,hB⟩:=x4 (w.heap.size+1);rw[<-hT]at u0 u1 u2 ⊢;rw[<-hB]at u0 um;have WN:w<T/\T<w+3/\w<=B/\B<T:=by omega
 have wK:=jg hT hB;clear t0 t1 t2 tm lN dv hT hB ae;have eW:m.length=l.length:=by have:=congrArg List.length hm;rw[q0z,gp,gp]at this;exact this
 have lJ:∀x∈m,I64 x.id:=fun x hx=>by
  have h1:x.cl∈canon (l.map Ce.cl):=by rw[<-hm];exact bG hx
  obtain⟨y,hy,he⟩:=gj.1 h1;obtain⟨z,hz,rfl⟩:=gj.1 ((q2m _ y).1 hy);have h2:=congrArg Cl.id he;have h3:z.id=x.id:=h2;rw[<-h3];exact(qZ.out z hz).1.1
 have Jp:=lhd lJ;clear lJ;have HM:=lhd hm;clear hm;have HS:=lhd hs;clear hs;obtain⟨a',dQ,rfl⟩:=qj hr;have nG:=Sl.qc hr;have hblk:∀ad,a'=Y ad->w+3<=ad.block:=fun ad e=>by have:=(hr.lt ad.block (by rw[e];rfl)).1;simpa using this
 have Rn:=lhd hblk;clear hblk;have Nw:=lhd nG;clear nG hr;obtain⟨len,hlen⟩:=x4 m.length;rw[<-hlen]at Nw ⊢;have aW:len<=1099511627776:=by omega
 have HL:=lhd hlen;clear hlen eW hl;have tz:=q3b a' len dQ;go_wp2;go_loopw [5,6,7,15] (fun _ _ _ i wr=>∃(k:Nat) (v:ε),i=k/\k<=len/\Mp Tryz.prog 3 wr B k (gOf (m.take k))/\wr T=Value.map (Y B)/\wr ⟨T,1,Z⟩=Y v/\wr.frozen? ⟨T,1,Z⟩=false ∧
  wr.ownsRow w1 3 1 v (xb Ce.id (m.take k)).length (ints ((xb Ce.id (m.take k)).map Ce.id))/\Below w w wr/\(∀p:Addr,T<p.block->∀u,w1 p=Y u->wr p=Y u)/\w1.heap.size<=wr) (fun _ _ _ i _=>len-(vI i).toNat)
 case atStart=>exact⟨0,_,rfl,gm _,um,u0,u1,u2,World.ownsRow_nil _ _ _ _,aF,fun _ _ _ h=>h,nlr _⟩
 case round =>
  obtain⟨k,v,rfl,hk,dL,q0,q1,q2,al,aT,iF,Jn⟩:=hrel;have tA:=lhd iF;clear iF;have nD:=lhd al;clear al;clear u0 u1 u2 um;by_cases ak:k<len
  ·obtain⟨x,hx⟩:∃x,m[k]? =Y x:=⟨_,gg (by rw[<-HL.out];exact ak)⟩
   obtain⟨h2,h3,h4,h5,h6⟩:=Nw.out.open;obtain⟨ad,rfl⟩:=sadq h5 (by omega)
   have pZ:T<ad.block:=by have:=Rn.out ad rfl;omega
   have eX:∀j,(ad.add j).block=ad.block:=fun j=>by unfold Addr.add;split <;> rfl
   obtain⟨e0,e1,e2⟩:=zh m k x hx;have d0:wr (ad.add (k*3))=x.id:=tA.out _ (by rw[eX];exact pZ) _ (h6 ad rfl _ _ e0);have d1:wr ⟨(ad.add (k*3)).block,(ad.add (k*3)).off+1,Z⟩=x.dim:=by rw[qi _ _ _ (by omega)];exact tA.out _ (by rw[eX];exact pZ) _ (h6 ad rfl _ _ e1)
   have d2:wr ⟨(ad.add (k*3)).block,(ad.add (k*3)).off+2,Z⟩=O x.a x.n x.c:=by rw[qi _ _ _ (by omega)];exact tA.out _ (by rw[eX];exact pZ) _ (h6 ad rfl _ _ e2)
   have Bp:=gi hx;have dW:=Jp.out x Bp;have av:=q0k (P:=Tryz.prog) (k:=3) Tryz.underlying3 dW.1 dW.2;have dH:m.take (k+1)=m.take k++[x]:=by rw[gC,hx];rfl
   have kQ:=lhd dH;clear h2 h3 h4 h5 h6 e0 e1 e2 eX hx dH Bp dW;have a0:(wr.alloc (.cells #[x.id,x.dim,O x.a x.n x.c] 52)) T=Value.map (Y B):=qk q0 _;have a1:(wr.alloc (.cells #[x.id,x.dim,O x.a x.n x.c] 52)) wr=x.id:=qd wr #[x.id,x.dim,O x.a x.n x.c] 52 (0,0) 0;have am:=dL.alloc (.cells #[x.id,x.dim,O x.a x.n x.c] 52);obtain⟨zi,zd,za,zn,zc,F,hz,hF⟩:∃(zi zd:Int) (za:Option Addr) (zn zc:Nat) (F:Bool),(gOf (m.take k) x.id).getD (I #[H φ 0,H φ 0,O Z 0 0])=I #[zi,zd,O za zn zc]/\(gOf (m.take k) x.id).isSome=F:=by
    unfold gOf;cases (m.take k).find? (fun y=>y.id == x.id)with
    |none=>exact⟨_,_,_,_,_,_,rfl,rfl⟩
    |some y=>exact⟨_,_,_,_,_,_,rfl,rfl⟩
   have eh:∀W:δ,Mp Tryz.prog 3 W B k (gOf (m.take k))->(Instr.lookup 88 (.map (Y B)) x.id true).run Tryz.prog W=.ok (ψ #[I #[zi,zd,O za zn zc],τ F]) W:=fun W hW=>by
    have:=hW.qgy Tryz.underlying3 Tryz.underlying88 (zeroCell _) av
    rwa [hz,hF]at this
   have C9:=lhd eh;have Nx:=lhd hF;clear hz hF eh;go_wp2_with fail
   go_region_held3 (fun w'=>w' T=Value.map (Y B)/\w' wr=x.id/\Mp Tryz.prog 3 w' B k (gOf (m.take k))/\(Instr.lookup 88 (.map (Y B)) x.id true).run Tryz.prog w'=.ok (ψ #[I #[zi,zd,O za zn zc],τ F]) w')
    (first
     |exact⟨by assumption,by assumption,by assumption,C9.out _ (by assumption)⟩
     |exact⟨qk (by assumption) _,qk (by assumption) _,Mp.alloc (by assumption) _,C9.out _ (Mp.alloc (by assumption) _)⟩)
    (fail)
   all_goals
    obtain⟨W3,cH⟩:=x4 (((wr.alloc (.cells #[x.id,x.dim,O x.a x.n x.c] 52)).alloc (.cells #[zi,zd,O za zn zc] 52)).drew);rw[<-cH];have aJ:Below wr wr W3:=by rw[cH];exact qb ((bal wr _).alloc (by simp) _) 1
    have x0:W3 wr=x.id:=by rw[cH];exact qk (qd wr #[x.id,x.dim,O x.a x.n x.c] 52 (0,0) 0) _
    have x1:W3 ⟨wr,1,Z⟩=x.dim:=by rw[cH];exact qk (qd wr #[x.id,x.dim,O x.a x.n x.c] 52 (0,0) 1) _
    have x2:W3 ⟨wr,2,Z⟩=O x.a x.n x.c:=by rw[cH];exact qk (qd wr #[x.id,x.dim,O x.a x.n x.c] 52 (0,0) 2) _
    have iP:wr.heap.size+2=W3:=by rw[cH];simp
    clear cH a0 a1 am;have y0:=J aJ q0;have y1:=J aJ q1;have y2:W3.frozen? ⟨T,1,Z⟩=false:=xf aJ (World.block_lt_of_cell? wr _ q1) q2;have ym:=dL.keep aJ;have yr:=qa nD.out aJ;have YR:=lhd yr;clear yr;have dh:=lhd aJ;clear aJ;by_cases Jq:F=true
    ·subst Jq;go_wp2;go_roundw
     case measure=>simp[vI];omega
     case rel =>
      have hex:=(qa6 _ _).1 Nx.out;refine⟨k+1,v,qh (by omega),by omega,?_,y0,y1,y2,?_,(btr aT dh.out),fun p hp u hu=>J dh.out (tA.out p hp u hu),by omega⟩
      ·rw[kQ.out,qk6 _ _ hex];exact ym.mono (Nat.le_succ _)
      ·rw[kQ.out,q4z _ _ hex];exact YR.out
    ·have Ro:F=false:=by simpa using Jq
     subst Ro;have CA:¬ ∃y∈m.take k,y.id=x.id:=fun h=>by have:=(qa6 _ _).2 h;rw[Nx.out]at this;cases this
     have CB:=lhd CA;clear CA Jq;have re:T<wr:=World.block_lt_of_cell? wr _ q0;obtain⟨w5,iX,o6,jU⟩:=Mp.set (w:=W3.drew) (P:=Tryz.prog) (k:=3) (t:=88) (e:=52) (g:=gOf (m.take k)) (n:=k) (b:=B) ym Tryz.underlying3 Tryz.underlying88 (by unfold maxLen;omega) av x.v;have z0:w5 T=Value.map (Y B):=ql jU y0 (fun k e=>by cases e;show T≠B;omega);have z1:w5 ⟨T,1,Z⟩=Y v:=ql jU y1 (fun k e=>by cases e;show T≠B;omega);have WO:w5 wr=x.id:=ql jU x0 (fun k e=>by cases e;show wr≠B;omega);have WQ:w5 ⟨wr,1,Z⟩=x.dim:=ql jU x1 (fun k e=>by cases e;show wr≠B;omega);have WR:w5 ⟨wr,2,Z⟩=O x.a x.n x.c:=ql jU x2 (fun k e=>by cases e;show wr≠B;omega);have z2:w5.frozen? ⟨T,1,Z⟩=false:=by have:=jU.frozen_far ⟨T,1,Z⟩ (World.block_lt_of_cell? W3 _ y1) (by simp;omega);rw[this];exact y2
     have wL:w5.ownsRow w1 3 1 v (xb Ce.id (m.take k)).length (ints ((xb Ce.id (m.take k)).map Ce.id)):=(World.ownsRow.drew YR.out).kept jU (.inr (fun e=>by have:=((YR.out).lt B e).1;omega));have Bq:W3.heap.size<=w5:=jU.size;have wM:(Instr.mapUpdate 88 (.map (Y B)) x.id (I #[x.id,x.dim,O x.a x.n x.c])).run Tryz.prog W3.drew=.ok () w5:=iX;have Rp:=lhd o6;clear o6;have Ny:=lhd jU;clear jU;have CC:=lhd wL;clear wL iX;have Nz:∀k,v.ownBlock=Y k->wr≠k:=fun k e=>by have:=(nD.out.lt k e).2;omega
     have WS:=lhd Nz;clear Nz;have fh:=q3c (key:=Ce.id) (m.take k);rw[gD]at fh;have N0:(w5.drew.alloc (.cells #[x.id] 3)).frozen? ⟨T,1,Z⟩=false:=xf ((Below.refl _ w5.drew).alloc (nlr _) _) (World.block_lt_of_cell? w5 _ z1) z2;have Rq:=lhd N0;clear N0;go_wp2_with fail
     go_region_held3 (fun w'=>w' T=Value.map (Y B)/\w' wr=x.id/\w' ⟨wr,1,Z⟩=x.dim/\w' ⟨wr,2,Z⟩=O x.a x.n x.c)
      (first
       |exact⟨by assumption,by assumption,by assumption,by assumption⟩)
      (fail)
     all_goals
      obtain⟨i0,hi,dv,dB,de⟩:=info_parts Tryz.xg;go_wp2_with fail;have WT:(w5.alloc (.cells #[x.id] 3)) ⟨T,1,Z⟩=Y v:=qk z1 _
      go_region_law (first
        |(refine step_append_lies _ rfl _ _ 23 rfl w1 3 i0 _ 1 8 Tryz.underlying23 hi dv dB de rfl (by decide) _ _ _ rfl ((World.ownsRow.drew CC.out).alloc _) w5 1 1 [x.id] rfl rfl (q7l w5.drew _ _) (q5v _) (by decide) (by unfold maxLen;omega) (by omega) (by simp;omega) _ rfl ?_;intro g cg w6 fG iY yQ Jr;have aU:((w5.alloc (.cells #[x.id] 3)).drew).grownBy w6 v.ownBlock:=iY;clear iY yQ;have b1:w6 ⟨T,1,Z⟩=Y v:=ql aU (qk z1 _) (fun k e=>by have:=(CC.out.lt k e).1;show T≠k;omega);have b0:w6 T=Value.map (Y B):=ql aU (qk z0 _) (fun k e=>by have:=(CC.out.lt k e).1;show T≠k;omega);have b2:w6.frozen? ⟨T,1,Z⟩=false:=(aU.frozen_far ⟨T,1,Z⟩ (by simp;omega) (fun e=>by have:=(CC.out.lt T e.symm).1;omega)).trans (Rq.out);have F6:=jg fG aU;clear fG aU))
      all_goals
       go_wp2;go_roundw
       case measure=>simp[vI];omega
       case rel =>
        obtain⟨fG,aU⟩:=F6.out;have yR:(w5.alloc (.cells #[x.id] 3)).heap.size<=w6:=aU.size;rw[World.size_alloc]at yR;have uj:Below w5 w5 ((w5.alloc (.cells #[x.id] 3)).drew):=qb (bal w5 _) 1;have yS:∀k,v.ownBlock=Y k->w1<=k:=fun k e=>(CC.out.lt k e).1
        have Rr:Mp Tryz.prog 3 w6 B (k+1) (zg (gOf (m.take k)) x.id x.v):=(Rp.out.keep uj).kept aU (fun e=>by have:=yS B e.symm;omega);have jV:Below w w w5:=(qb ((btr aT dh.out)) 1).grown Ny.out (by have:=aT.size;show w.heap.size<=W3;omega) (fun k e=>by cases e;omega);have ns:Below w w w6:=((btr jV uj)).grown aU (by simp;omega) (fun k e=>by have:=yS k e;omega);refine⟨k+1,_,qh (by omega),by omega,?_,?_,World.cell?_setCell_same' _ _ _ (by rw[b1];rfl),by rw[World.frozen?_setCell];exact b2,?_,ns.setCell (show w<=T by omega) _,fun p hp u hu=>?_,by simp[World.setCell];omega⟩
        ·rw[kQ.out,qk7 _ _ CB.out];exact Rr.setCell (show B≠T by omega) _
        ·rw[World.cell?_setCell_other _ ⟨T,1,Z⟩ T _ (by simp)];exact b0
        ·rw[kQ.out,qbf _ _ CB.out,gW,vk,gw];exact ownsRow_setCell_below fG (show T<w1 by omega) _
        ·have ng:=World.block_lt_of_cell? w1 _ hu;refine xe (ql aU (qk (ql Ny.out (J dh.out (tA.out p hp u hu)) (fun k e=>by cases e;omega)) _) (fun k e=>by have:=yS k e;omega)) (by show p.block≠T;omega)
  ·have aZ:k=len:=by omega
   have nH:m.take k=m:=gr (by rw[<-HL.out];omega);have Br:=lhd nH;clear nH aZ;go_wp2;go_ret;refine⟨T,rfl,⟨B,k,v,m,by omega,by omega,q0,q1,?_,?_,HM.out,fun x hx=>?_⟩,aT⟩
   ·rw[Br.out]at dL;exact dL
   ·have:=Sl.qc nD.out;rw[Br.out]at this;exact this
   ·have h1:=HS.out x hx;refine Sl.frame (Sl.qc h1) T (fun ad n c e=>?_) tA.out;have:=(h1.lt ad.block (by rw[e];rfl)).1;omega
