/- Steps towards SequenceChecks. Conditions: none. -/
import Derived.Test.YtmkpbhaoalbhjaaGreatDoorXMh
set_option maxRecDepth 1000000
set_option maxHeartbeats 0
open Go.Value renaming slice→O,agg→I,pointer→σ,bool→τ,string→ω
open Option renaming none→Z,some→Y
open Go renaming World→δ,Value→ε
open Go.Cx renaming keep→J
namespace Go.Proofs.YtmkpbhaoalbhjaaGreatDoor
open Go.RowKit Go.Cx
attribute [local go_sem ↓] Go.wp_at_zero Go.wp_at_succ
theorem qnc (w:δ)(x:Ce)(t:TypeId):∀j u,x.enc[j]? =Y u->(w.alloc (.cells #[x.id,x.dim,O x.a x.n x.c] t)) ((w:Addr).add j)=Y u:=fun j u hj=>by
 rw[Addr.add_lit,Nat.zero_add,qd];have:(#[x.id,x.dim,O x.a x.n x.c] : Array ε)[j]? =x.enc[j]?:=by simp[Ce.enc]
 rw[this];exact hj
theorem qnd (T B n:Nat)(v:ε)(m:List Ce)(g:Nat)(cb:Array ε)(f:Ce->Bool)(w:δ)(q0:w T=Value.map (Y B))(q1:w ⟨T,1,Z⟩=Y v)(dL:Mp Tryz.prog 3 w B n (gOf m))
  (hv:Sl w 1 v (ints ((xb Ce.id m).map Ce.id))) (eW:m.length<=1099511627776) (lJ:∀x∈m,I64 x.id)
  (eg:∀args w,(callFunc g args).run Tryz.prog w=.ok (.enter g args) w) (hf:∀W,Below w w W->∀x∈m,Calls Tryz.prog g (#[x.v]++cb) W fun e w'=>e=.returned (τ (f x))/\Below W W w') :
  Calls Tryz.prog 76 #[σ T,.func (.func g) #[] cb] w fun e w'=>∃r,e=.returned (I #[r]) ∧
   w'.ownsRow w 52 3 r ((xb Ce.id m).filter f).length (cat Ce.enc ((xb Ce.id m).filter f))/\Below w w w':=by
 have mixed:Tryz.prog.follows .mixedOrders=true:=by kernel_rfl
 obtain⟨F,hF⟩:=x4 (xb Ce.id m);have N1:∀x∈F,x∈m/\gOf m x.id=Y x.v:=fun x hx=>by rw[hF]at hx;refine⟨qby hx,?_⟩;unfold gOf;rw[q4n (key:=Ce.id) m x hx];rfl
 have uk:F.length<=1099511627776:=by rw[hF];exact gd (q3c m) eW
 rw[<-hF]at hv ⊢;have N2:=lhd N1;have HF:=lhd hf;have Jp:=lhd lJ;clear hF N1 hf eW lJ;obtain⟨a,len,cap,rfl,h2,h3,h4,h5,h6⟩:=hv;unfold maxLen at h3;rw[xl,gp,gK]at h4;have HL:=lhd h4;clear h4;have H5:=lhd h5;clear h5;have H6:=lhd h6;clear h6;have aW:len<=1099511627776:=by rw[<-HL.out];exact uk
 clear uk;go_enter Tryz.func76,Tryz.ntmps76;obtain⟨W,hW⟩:=x4 ((w.alloc (.cells #[O Z 0 0] 36)).alloc (.cells #[O Z 0 0] 36));have dx:Below w w W:=by rw[hW];exact((q9).alloc (nlr _) _).alloc (by simp) _
 have b0:Bv W w (O Z 0 0):=by rw[hW];exact(Bv.new w _ _).alloc _
 have b1:Bv W (w+1) (O Z 0 0):=by rw[hW];have:=Bv.new (w.alloc (.cells #[O Z 0 0] 36)) (O Z 0 0) 36;rwa [World.size_alloc]at this
 have hz:W.heap.size=w+2:=by rw[hW];simp
 have WU:=J dx q0;have N4:=J dx q1;have re:T<w:=World.block_lt_of_cell? w _ q0;have GD:=dL.lt;have Js:=lhd dL;have Q0:=lhd q0;have Rs:((w.alloc (.cells #[O Z 0 0] 36)).alloc (.cells #[O Z 0 0] 36)) ⟨T,1,Z⟩=O a len cap:=by rw[<-hW];exact N4
 have HW:=lhd hW;clear dL q0 q1 hW;go_wp2;rw[<-HW.out];clear Rs N4;go_loopw [7,13] (fun _ i wr=>∃(k:Nat) (r:ε),i=k/\k<=len/\Bv wr w (O Z 0 0)/\Bv wr (w+1) r ∧
  Hid (wr.ownsRow (w+2) 52 3 r ((F.take k).filter f).length (cat Ce.enc ((F.take k).filter f)))/\Below w w wr/\w.heap.size+2<=wr) (fun _ i _=>len-(vI i).toNat)
 case atStart=>exact⟨0,_,rfl,gm _,b0,b1,(lhd (World.ownsRow_nil _ _ _ _)),dx,by omega⟩
 case round =>
  obtain⟨k,r,rfl,hk,dS,ae,HR,hB,Jn⟩:=hrel;obtain⟨p0,p1⟩:=ae;have rf:=lhd dS;clear dS;by_cases ak:k<len
  ·obtain⟨x,hx⟩:∃x,F[k]? =Y x:=⟨_,gg (by rw[HL.out];exact ak)⟩
   obtain⟨ad,rfl⟩:=sadq H5.out (by omega)
   have d0:wr (ad.add k)=x.id:=J hB (H6.out ad rfl k _ (by simp[ints,hx]));obtain⟨ee,Jt⟩:=N2.out x (gi hx);have dW:=Jp.out x ee;have av:=q0k (P:=Tryz.prog) (k:=3) Tryz.underlying3 dW.1 dW.2;have dH:(F.take (k+1)).filter f=(F.take k).filter f++(if f x=true then [x]else []):=by
    rw[gC,hx,gZ];by_cases h:f x=true
    ·simp[h]
    ·simp[h]
   have kQ:=lhd dH;have GF:wr T=Value.map (Y B):=J hB Q0.out;have fi:Mp Tryz.prog 3 wr B n (gOf m):=Js.out.keep hB;have Rt:(Instr.lookup 88 (.map (Y B)) x.id false).run Tryz.prog wr=.ok (I #[x.id,x.dim,O x.a x.n x.c]) wr:=by have:=fi.look Tryz.underlying3 Tryz.underlying88 (zeroCell _) av;rw[Jt]at this;exact this
   have aq:=HF.out wr hB x ee;have HC:=lhd aq;have tC:=lhd fi;have Ru:=lhd Jt;clear hx ee Jt dW dH aq fi;go_wp2_with fail;refine HC.out.mono ?_;rintro e w2 ⟨rfl,aj⟩;have c0:=J aj p0;have c1:w2.frozen? (w+1:Nat)=false:=xf aj (World.block_lt_of_cell? wr _ p0) p1;have t0:=J aj GF;have dE:=tC.out.keep aj;have de:wr.heap.size<=w2:=aj.size;have o5:=qa HR.out aj;have nE:=lhd o5;clear o5;have aR:=lhd aj;clear aj;have Ju:=lhd dE;clear dE;by_cases qC:f x=true
   ·rw[qC,if_pos rfl]at kQ;have yC:((F.take k).filter f).length<=k:=gd (gY _ _) (by rw[gD];omega);have uo:(Instr.lookup 88 (.map (Y B)) x.id false).run Tryz.prog w2.drew=.ok (I #[x.id,x.dim,O x.a x.n x.c]) w2.drew:=by have:=Mp.look (w:=w2.drew) Ju.out Tryz.underlying3 Tryz.underlying88 (zeroCell _) av;rw[Ru.out]at this;exact this
    have za:(w2.alloc (.cells #[x.id,x.dim,O x.a x.n x.c] 52)) (w+1:Nat)=Y r:=qk c0 _;have fa:(w2.drew.alloc (.cells #[x.id,x.dim,O x.a x.n x.c] 52)).frozen? (w+1:Nat)=false:=xf ((Below.refl _ w2.drew).alloc (nlr _) _) (World.block_lt_of_cell? w2 _ c0) c1;have FA:=lhd fa;clear fa;obtain⟨i0,hi,dv,dB,Jv⟩:=info_parts Tryz.ke;rw[qC];go_wp2_with fail
    go_region_law (first
     |(refine step_append_lies _ rfl _ _ 34 rfl (w+2) 52 i0 _ 3 40 Tryz.underlying34 hi dv dB Jv rfl (by decide) _ _ _ rfl ((World.ownsRow.drew nE.out).alloc _) w2 1 1 x.enc rfl rfl (qnc w2.drew x _) (Ce.xu x) (by decide) (by unfold maxLen;omega) (by omega) (by simp;omega) _ rfl ?_;intro g2 cg w6 fG iY yQ Jr;have aU:((w2.alloc (.cells #[x.id,x.dim,O x.a x.n x.c] 52)).drew).grownBy w6 r.ownBlock:=iY;clear iY yQ;have b1:w6 (w+1:Nat)=Y r:=ql aU (qk c0 _) (fun k e=>by have:=(nE.out.lt k e).1;show w+1≠k;omega);have b2:w6.frozen? (w+1:Nat)=false:=(aU.frozen_far (w+1:Nat) (by simp;omega) (fun e=>by have:=(nE.out.lt (w+1) e.symm).1;omega)).trans (FA.out);have F6:=jg fG aU;clear fG aU))
    all_goals
     go_wp2;go_roundw
     case measure=>simp[vI];omega
     case rel =>
      obtain⟨fG,aU⟩:=F6.out;have yR:(w2.alloc (.cells #[x.id,x.dim,O x.a x.n x.c] 52)).heap.size<=w6:=aU.size;rw[World.size_alloc]at yR;have uj:Below w2 w2 ((w2.alloc (.cells #[x.id,x.dim,O x.a x.n x.c] 52)).drew):=qb (bal w2 _) 1;have yS:∀k,r.ownBlock=Y k->w+2<=k:=fun k e=>(nE.out.lt k e).1
      have aI:Below w w w2:=(btr hB aR.out);have ns:Below w w w6:=((btr aI uj)).grown aU (by simp;omega) (fun k e=>by have:=yS k e;omega);have cQ:Bv w6 w (O Z 0 0):=by
       have h1:=((rf.out.keep aR.out).keep uj)
       refine⟨ql aU h1.1 (fun k e=>by have:=yS k e;show w≠k;omega),?_⟩;exact(aU.frozen_far w (World.block_lt_of_cell? _ _ h1.1) (fun e=>by have:=yS _ e.symm;simp at this;omega)).trans h1.2
      refine⟨k+1,_,qh (by omega),by omega,cQ.other (by show w.heap.size≠w+1;omega) _,Bv.put ⟨b1,b2⟩ _,(show Hid _ from ?_),ns.setCell (show w.heap.size<=w+1 by omega) _,by simp[World.setCell];omega⟩;rw[kQ.out,q2e,gw,q99];exact ownsRow_setCell_below fG (show w.heap.size+1<w+2 by omega) _
   ·have oS:f x=false:=by simpa using qC
    rw[oS]at kQ ⊢;have GG:Hid ((F.take (k+1)).filter f=(F.take k).filter f):=by show _=_;rw[kQ.out];simp
    clear qC;go_wp2;go_roundw
    case measure=>simp[vI];omega
    case rel =>refine⟨k+1,r,qh (by omega),by omega,rf.out.keep aR.out,⟨c0,c1⟩,(show Hid _ from ?_),(btr hB aR.out),by omega⟩;rw[GG.out];exact nE.out
  ·have aZ:k=len:=by omega
   have nH:F.take k=F:=gr (by rw[HL.out];omega);have Br:=lhd nH;clear nH aZ;obtain⟨a2,iE,cE⟩:=qj HR.out;subst cE;obtain⟨r0,r1⟩:=rf.out;go_wp2_with fail;refine bodyPost_ret (v:=I #[O a2 ((F.take k).filter f).length iE]) (by simp[results,Tryz.results76,go_sem,(Bv.put (w:=wr) (b:=w) ⟨r0,r1⟩ (O a2 ((F.take k).filter f).length iE)).1]) rfl ⟨_,rfl,?_,hB.setCell (nlr _) _⟩;have h1:=qf (ownsRow_setCell_below (a:=⟨w.heap.size,0,Z⟩) HR.out (by show w.heap.size<_;omega) (O a2 ((F.take k).filter f).length iE)) (show w.heap.size<=w.heap.size+2 by omega);rw[Br.out]at h1 ⊢;exact h1
theorem qdg (T B n:Nat)(v:ε)(m:List Ce)(g:Nat)(cb:Array ε)(f:Ce->Bool)(w:δ)(q0:w T=Value.map (Y B))(q1:w ⟨T,1,Z⟩=Y v)(dL:Mp Tryz.prog 3 w B n (gOf m))
  (hv:Sl w 1 v (ints ((xb Ce.id m).map Ce.id))) (eW:m.length<=1099511627776) (lJ:∀x∈m,I64 x.id)
  (eg:∀args w,(callFunc g args).run Tryz.prog w=.ok (.enter g args) w) (hf:∀W,Below w w W->∀x∈m,Calls Tryz.prog g (#[x.v]++cb) W fun e w'=>e=.returned (τ (f x))/\Below W W w') :
  Calls Tryz.prog 60 #[σ T,.func (.func g) #[] cb] w fun e w'=>∃r,e=.returned r ∧
   w'.ownsRow w 3 1 r ((xb Ce.id m).filter f).length (ints (((xb Ce.id m).filter f).map Ce.id))/\Below w w w':=by
 have aq:=qnd T B n v m g cb f w q0 q1 dL hv eW lJ eg hf;have uk:=gd (gY f (xb Ce.id m)) (gd (q3c (key:=Ce.id) m) eW);obtain⟨G,hG⟩:=x4 ((xb Ce.id m).filter f);rw[<-hG]at aq uk ⊢;have HC:=lhd aq;clear q0 q1 dL hv eW lJ hf aq hG;go_enter Tryz.func60,Tryz.ntmps60;go_wp2_with fail;refine HC.out.mono ?_;rintro e w1 ⟨r,rfl,hr,ae⟩;have aF:=ae;obtain⟨a',dQ,rfl⟩:=qj hr;obtain⟨len,hlen⟩:=x4 G.length;rw[<-hlen]at hr uk ⊢;have HR:=lhd (Sl.qc hr);have HL:=lhd hlen;clear hr hlen ae;have tz:=q3b a' len dQ;go_wp2;go_loopw [5,7,13] (fun o _ i wr=>∃k:Nat,i=k/\k<=len/\wr.ownsRow w1 3 1 o k (ints ((G.take k).map Ce.id))/\Below w w wr/\Below w1 w1 wr) (fun _ _ i _=>len-(vI i).toNat)
 case atStart=>exact⟨0,rfl,gm _,World.ownsRow_nil _ _ _ _,aF,q9⟩
 case round =>
  obtain⟨k,rfl,hk,af,hB,nJ⟩:=hrel;by_cases ak:k<len
  ·obtain⟨x,hx⟩:∃x,G[k]? =Y x:=⟨_,gg (by rw[<-HL.out];exact ak)⟩
   obtain⟨h2,h3,h4,h5,h6⟩:=HR.out.open;obtain⟨ad,rfl⟩:=sadq h5 (by omega)
   obtain⟨e0,e1,e2⟩:=zh G k x hx;have d0:wr (ad.add (k*3))=x.id:=J nJ (h6 ad rfl _ _ e0);have d1:wr ⟨(ad.add (k*3)).block,(ad.add (k*3)).off+1,Z⟩=x.dim:=by rw[qi _ _ _ (by omega)];exact J nJ (h6 ad rfl _ _ e1)
   have d2:wr ⟨(ad.add (k*3)).block,(ad.add (k*3)).off+2,Z⟩=O x.a x.n x.c:=by rw[qi _ _ _ (by omega)];exact J nJ (h6 ad rfl _ _ e2)
   have dH:(G.take (k+1)).map Ce.id=(G.take k).map Ce.id++[x.id]:=by rw[gC,hx];simp
   have kQ:=lhd dH;have ag:w.heap.size<=wr:=hB.size;have aT:Below wr wr (wr.alloc (.cells #[x.id,x.dim,O x.a x.n x.c] 52)):=bal wr _;have dK:=af.alloc (.cells #[x.id,x.dim,O x.a x.n x.c] 52);clear h2 h3 h4 h5 h6 e0 e1 e2 hx dH;go_wp2_with (at_builtin;refine qo (W:=w1) rfl _ _ 23 rfl w1 3 Tryz.xg Tryz.underlying23 rfl (by decide) (by decide) _ _ _ rfl dK [x.id] (by rw[World.size_alloc];rfl) rfl (q5v _) ?bp2 ((btr nJ aT)) ?bp3 ?_)
   case bp2=>omega
   case bp3=>have:=nJ.size;simp;omega
   intro v3 w3 qV ui CD;have aJ:Below w w w3:=(btr aF CD);go_wp2;go_roundw
   case measure=>simp[vI];omega
   case rel=>exact⟨k+1,qh (by omega),by omega,by rw[kQ.out,vk,List.map_take];exact qV,aJ,CD⟩
  ·have aZ:k=len:=by omega
   have nH:G.take k=G:=gr (by rw[<-HL.out];omega);have Br:=lhd nH;clear nH;have yP:=lhd aZ;clear aZ;go_wp2;go_ret;refine⟨_,rfl,?_,hB⟩;rw[Br.out,yP.out,HL.out]at af;exact qf af aF.size
theorem qne (x:Ce)(bk:Nat)(dim:Int)(w:δ)(hc:w bk=dim) :
  Calls Tryz.prog 61 #[x.v,σ bk] w fun e w'=>e=.returned (τ (x.dim == dim))/\Below w w w':=by
 have h1:(w.alloc (.cells #[x.id,x.dim,O x.a x.n x.c] 52)) bk=dim:=qk hc _;unfold Ce.v;go_enter Tryz.func61,Tryz.ntmps61;go_wp2;go_ret;exact⟨rfl,bal w _⟩
theorem qow (v:ε)(l:List Ce)(dim:Int)(w:δ)(h:SlC w v l)(hl:l.length<=19)(fj:COk l) :
  Calls Tryz.prog 33 #[I #[v],dim] w fun e w'=>∃r,e=.returned r/\w'.ownsRow w 3 1 r (q04 (l.map Ce.cl) dim).length (ints (q04 (l.map Ce.cl) dim))/\Below w w w':=by
 obtain⟨a,n,cap,rfl⟩:=qg h.1;have HH:=lhd h;clear h;have qZ:=lhd fj;clear fj;go_enter Tryz.func33,Tryz.ntmps33;go_wp2_with fail;refine(qnb _ l _ ((HH.out.alloc _).alloc _) hl qZ.out).mono ?_;rintro e w1 ⟨T,rfl,⟨B,n1,v1,m,t1,t2,t3,t4,t5,t6,t7,t8⟩,ae⟩;simp only [World.size_alloc]at t1 t2 ae;have dB:w.heap.size+1+1<=w1:=by have:=ae.size;simpa using this
 have aF:Below w w w1:=((bal w _).alloc (by simp) _).trans (ae.mono (by omega));have hd:w1 (w+1:Nat)=dim:=by have:=qd (w.alloc (.cells #[O a n cap] 36)) #[dim] 3 (0,0) 0;rw[World.size_alloc]at this;exact q1n ae (by simp) this
 have eW:m.length<=1099511627776:=by have:=congrArg List.length t7;rw[q0z,gp,gp]at this;omega
 have lJ:∀x∈m,I64 x.id:=fun x hx=>by
  have h1:x.cl∈canon (l.map Ce.cl):=by rw[<-t7];exact bG hx
  obtain⟨y,hy,he⟩:=gj.1 h1;obtain⟨z,hz,rfl⟩:=gj.1 ((q2m _ y).1 hy);have h2:=congrArg Cl.id he;have h3:z.id=x.id:=h2;rw[<-h3];exact(qZ.out z hz).1.1
 have aq:=qdg T B n1 v1 m 61 #[σ (w+1:Nat)] (fun x=>x.dim == dim) w1 t3 t4 t5 t6 eW lJ Tryz.call61 (fun W hW x _=>qne x (w+1) dim W (J hW hd));have heq:((xb Ce.id m).filter (fun x=>x.dim == dim)).map Ce.id=q04 (l.map Ce.cl) dim:=by unfold q04 cellsOf;rw[<-t7,q63 (key:=Ce.id) Ce.cl (fun _=>rfl),List.filter_map,List.map_map];rfl
 have HC:=lhd aq;have Jw:=lhd heq;clear aq heq t1 t2 t3 t4 t5 t6 t7 t8 hd eW lJ;go_wp2_with fail;refine HC.out.mono ?_;rintro e w2 ⟨r,rfl,hr,aj⟩;go_wp2;go_ret;refine⟨r,rfl,?_,(btr aF aj)⟩;have hlen:=congrArg List.length Jw.out;rw[gp]at hlen;rw[<-hlen,<-Jw.out];exact qf hr aF.size
end Go.Proofs.YtmkpbhaoalbhjaaGreatDoor
namespace Go.Cx
open Go.RowKit
def thG (dim:Int)(L:List Ce):Int->Option Value:=fun c=>if L.any (fun x=>x.id == c)then Y (τ (L.any fun x=>x.id == c && x.dim == dim))else Z
theorem qdh (dim:Int)(L:List Ce)(c:Int):(thG dim L c).getD (τ false)=τ (L.any fun x=>x.id == c && x.dim == dim):=by
 unfold thG;split
 ·rfl
 ·next h =>
  show τ false=_
  congr 1
  symm
  rw[List.any_eq_false];intro x hx e;simp at e;exact h (List.any_eq_true.2 ⟨x,hx,by simp[e.1]⟩)
theorem qh1 (dim:Int)(L:List Ce)(x:Ce)(q:Bool)(hq:q=((L.any fun y=>y.id == x.id && y.dim == dim) || x.dim == dim)):thG dim (L++[x])=zg (thG dim L) x.id (τ q):=by
 funext c
 unfold thG zg;by_cases hc:c=x.id
 ·subst hc;simp[hq]
 ·have:(x.id == c)=false:=by simpa using fun e=>hc e.symm
  rw[if_neg hc];simp[this]
end Go.Cx
namespace Go.Proofs.YtmkpbhaoalbhjaaGreatDoor
open Go.RowKit Go.Cx
attribute [local go_sem ↓] Go.wp_at_zero Go.wp_at_succ
def Tm.v (t:Tm):Value:=I #[t.c,τ t.n,ω t.m]
theorem qh2 (v:ε)(L:List Tm)(g:Nat)(cb:Array ε)(f:Tm->Bool)(w:δ)(h:Sl w 3 v (tv L))
  (eg:∀args w,(callFunc g args).run Tryz.prog w=.ok (.enter g args) w) (hf:∀W,Below w w W->∀t∈L,Calls Tryz.prog g (#[Tm.v t]++cb) W fun e w'=>e=.returned (τ (f t))/\Below W W w') :
  Calls Tryz.prog 162 #[v,.func (.func g) #[] cb] w fun e w'=>∃i:Int,e=.returned i/\decide (0<=i)=L.any f/\Below w w w':=by
 obtain⟨a,len,cap,rfl,h1,h2,h3,h4,h5⟩:=h;unfold maxLen at h2;rw[q8u]at h3;have hl:L.length=len:=by omega
 clear h3;have Hl:=lhd hl;clear hl;have H4:=lhd h4;clear h4;have H5:=lhd h5;clear h5;have HF:=lhd hf;clear hf;go_enter Tryz.func162,Tryz.ntmps162;go_wp2;go_loopw [5,8] (fun _ i wr=>∃k:Nat,i=k/\k<=len/\Hid (∀t∈L.take k,f t=false)/\Below w w wr) (fun _ i _=>len-(vI i).toNat)
 case atStart=>exact⟨0,rfl,gm _,(lhd (fun t ht=>by simp at ht)),q9⟩
 case round =>
  obtain⟨k,rfl,hk,HN,hB⟩:=hrel;by_cases ak:k<len
  ·obtain⟨ad,rfl⟩:=sadq H4.out (by omega)
   obtain⟨t,ht⟩:∃t,L[k]? =Y t:=⟨_,gg (by rw[Hl.out];exact ak)⟩
   obtain⟨e0,e1,e2⟩:=jd L k _ ht;have d0:wr (ad.add (k*3))=t.c:=keep hB (H5.out ad rfl _ _ e0);have d1:wr ⟨(ad.add (k*3)).block,(ad.add (k*3)).off+1,Z⟩=τ t.n:=by rw[qi _ _ _ (by omega)];exact keep hB (H5.out ad rfl _ _ e1)
   have d2:wr ⟨(ad.add (k*3)).block,(ad.add (k*3)).off+2,Z⟩=ω t.m:=by rw[qi _ _ _ (by omega)];exact keep hB (H5.out ad rfl _ _ e2)
   have aq:=HF.out wr hB t (gi ht);have HC:=lhd aq;have HT:=lhd ht;clear e0 e1 e2 ht aq;go_wp2_with fail;refine HC.out.mono ?_;rintro e w2 ⟨rfl,aj⟩;by_cases o7:f t=true
   ·have rh:=lhd o7;rw[o7];go_wp2;go_ret;refine⟨k,rfl,?_,(btr hB aj)⟩;rw[List.any_eq_true.2 ⟨t,gi HT.out,rh.out⟩];simp
   ·have oS:f t=false:=by simpa using o7
    have rh:=lhd oS;rw[oS];clear o7 oS;go_wp2;go_roundw
    case measure=>simp[vI];omega
    case rel =>
     refine⟨k+1,qh (by omega),by omega,(lhd (fun u hu=>?_)),(btr hB aj)⟩;rw[gC,HT.out]at hu;rcases gO.1 hu with hu|hu
     ·exact HN.out u hu
     ·simp at hu;rw[hu];exact rh.out
  ·have aM:k=len:=by omega
   have qW:=lhd aM;clear aM;go_wp2;go_ret;refine⟨-1,rfl,?_,hB⟩;have hn:=HN.out;rw[gr (by rw[Hl.out,qW.out];exact nlr _)]at hn;rw[List.any_eq_false.2 (fun t ht=>by rw[hn t ht];simp)];rfl
theorem qa7 (v:ε)(L:List Tm)(g:Nat)(cb:Array ε)(f:Tm->Bool)(w:δ)(h:Sl w 3 v (tv L))
  (eg:∀args w,(callFunc g args).run Tryz.prog w=.ok (.enter g args) w) (hf:∀W,Below w w W->∀t∈L,Calls Tryz.prog g (#[Tm.v t]++cb) W fun e w'=>e=.returned (τ (f t))/\Below W W w') :
  Calls Tryz.prog 142 #[v,.func (.func g) #[] cb] w fun e w'=>e=.returned (τ (L.any f))/\Below w w w':=by
 have aq:=qh2 v L g cb f w h eg hf;obtain⟨a,len,cap,rfl⟩:=qg h;have HC:=lhd aq;clear aq hf h;go_enter Tryz.func142,Tryz.ntmps142;go_wp2_with fail;refine HC.out.mono ?_;rintro e w2 ⟨i,rfl,hi,aj⟩;have HI:=lhd hi;clear hi;go_wp2;go_ret;refine⟨?_,aj⟩;rw[<-HI.out];rfl
theorem q21 (w:δ):(zeroValue 4).run Tryz.prog w=.ok (τ false) w:=Tryz.zeroValue4 w
theorem qox (t:Tm)(bk B n:Nat)(g:Int->Option ε)(q:Bool)(w:δ)(hc:w bk=Value.map (Y B))(hm:Mp Tryz.prog 3 w B n g)(hg:(g t.c).getD (τ false)=τ q)(ht:I64 t.c) :
  Calls Tryz.prog 143 #[Tm.v t,σ bk] w fun e w'=>e=.returned (τ (!q))/\Below w w w':=by
 have h1:(w.alloc (.cells #[t.c,τ t.n,ω t.m] 167)) bk=Value.map (Y B):=qk hc _;have av:=q0k (P:=Tryz.prog) (k:=3) Tryz.underlying3 ht.1 ht.2;have h2:(Instr.lookup 125 (.map (Y B)) t.c false).run Tryz.prog (w.alloc (.cells #[t.c,τ t.n,ω t.m] 167))=.ok (τ q) (w.alloc (.cells #[t.c,τ t.n,ω t.m] 167)):=by
  have:=(hm.alloc (.cells #[t.c,τ t.n,ω t.m] 167)).look Tryz.underlying3 Tryz.underlying125 (q21 _) av
  rwa [hg]at this
 have HG:=lhd hg;clear hg hm hc;unfold Tm.v;go_enter Tryz.func143,Tryz.ntmps143;go_wp2;go_ret;exact⟨rfl,bal w _⟩
theorem qq0 (v:ε)(l:List Ce)(dim:Int)(u:ε)(t:List Tm)(S:Nat)(w:δ)(h:SlC w v l)(hl:l.length<=1099511627776)(fj:COk l)(k:Sl w 3 u (tv t))(hS:TOk S t)(hb:S+t.length<=1099511627775) :
  Calls Tryz.prog 115 #[I #[v],dim,u] w fun e w'=>∃q:Bool,e=.returned (τ q)/\(q=true↔∀c,co (prs t) c≠0->∃x∈l,x.id=c/\x.dim=dim)/\Below w w w':=by
 obtain⟨a,len,cap,rfl⟩:=qg h.1;obtain⟨a2,n2,iE,rfl⟩:=qg k;have HH:=lhd h.1;have qZ:=lhd fj;have HK:=lhd k;clear h fj k;have dU:=@run_makeMap Tryz.prog;have hlen:l.length=len:=by obtain⟨_,_,h3,_⟩:=HH.out.open;rw[qt Ce.qp]at h3;omega
 have HL:=lhd hlen;have aW:len<=1099511627776:=by omega
 clear hlen hl;go_enter Tryz.func115,Tryz.ntmps115;go_wp2;obtain⟨W,hW⟩:=x4 (((w.alloc (.cells #[O a len cap] 36)).alloc (.map #[] 0)).alloc (.cells #[.map (Y (w.heap.size+1))] 125));rw[<-hW];have dx:Below w w W:=by rw[hW];exact((bal w _).alloc (by simp) _).alloc (by simp;omega) _
 have m0:W (w+2:Nat)=Value.map (Y (w+1)):=by rw[hW];have:=qd ((w.alloc (.cells #[O a len cap] 36)).alloc (.map #[] 0)) #[.map (Y (w+1))] 125 (0,0) 0;simpa using this
 have mm:Mp Tryz.prog 3 W (w+1) 0 (thG dim []):=by rw[hW,show thG dim []=fun _=>Z from rfl];have:=(Mp.made (w.alloc (.cells #[O a len cap] 36)) Tryz.prog 3).alloc (.cells #[.map (Y (w+1))] 125);simpa using this
 obtain⟨B,hB⟩:=x4 (w.heap.size+1);obtain⟨bk,kN⟩:=x4 (w.heap.size+2);rw[<-hB]at m0 mm;rw[<-kN]at m0;have nJ:w<=B/\B<bk:=by omega
 rw[<-kN];have WV:=jg hB kN;clear hW hB kN;go_loopw [9,14] (fun _ i wr=>∃k:Nat,i=k/\k<=len/\Mp Tryz.prog 3 wr B k (thG dim (l.take k))/\wr bk=Value.map (Y B)/\Below w w wr) (fun _ i _=>len-(vI i).toNat)
 case atStart=>exact⟨0,rfl,gm _,mm,m0,dx⟩
 case round =>
  clear mm m0;obtain⟨k,rfl,hk,dL,q0,aT⟩:=hrel;by_cases ak:k<len
  ·obtain⟨x,hx⟩:∃x,l[k]? =Y x:=⟨_,gg (by rw[HL.out];exact ak)⟩
   obtain⟨h2,h3,h4,h5,h6⟩:=HH.out.open;obtain⟨ad,rfl⟩:=sadq h5 (by omega)
   obtain⟨e0,e1,e2⟩:=zh l k x hx;have d0:wr (ad.add (k*3))=x.id:=J aT (h6 ad rfl _ _ e0);have d1:wr ⟨(ad.add (k*3)).block,(ad.add (k*3)).off+1,Z⟩=x.dim:=by rw[qi _ _ _ (by omega)];exact J aT (h6 ad rfl _ _ e1)
   have d2:wr ⟨(ad.add (k*3)).block,(ad.add (k*3)).off+2,Z⟩=O x.a x.n x.c:=by rw[qi _ _ _ (by omega)];exact J aT (h6 ad rfl _ _ e2)
   have dW:=(qZ.out x (gi hx)).1.1;have av:=q0k (P:=Tryz.prog) (k:=3) Tryz.underlying3 dW.1 dW.2;have dH:l.take (k+1)=l.take k++[x]:=by rw[gC,hx];rfl
   have kQ:=lhd dH;have q1:(wr.alloc (.cells #[x.id,x.dim,O x.a x.n x.c] 52)) bk=Value.map (Y B):=qk q0 _;have fP:=dL.alloc (.cells #[x.id,x.dim,O x.a x.n x.c] 52);have hg:=qdh dim (l.take k) x.id;obtain⟨q,hq⟩:=x4 ((l.take k).any (fun y=>y.id == x.id && y.dim == dim));rw[<-hq]at hg;have HQ:=lhd hq;have HG:=lhd hg;have uj:Below w w (wr.alloc (.cells #[x.id,x.dim,O x.a x.n x.c] 52)):=aT.alloc aT.size _;clear h2 h3 h4 h5 h6 e0 e1 e2 hx dW dH hg hq;have bX:B<wr:=dL.lt;have fin:∀(r:Bool) (w2:δ),r=(q || x.dim == dim)->Mp Tryz.prog 3 w2 B (k+1) (zg (thG dim (l.take k)) x.id (τ r))->(wr.alloc (.cells #[x.id,x.dim,O x.a x.n x.c] 52)).grownBy w2 (Y B) →
     Mp Tryz.prog 3 w2 B (k+1) (thG dim (l.take (k+1)))/\w2 bk=Value.map (Y B)/\Below w w w2:=fun r w2 hr dE fY=>by
    refine⟨?_,ql fY q1 (fun j e=>by cases e;show bk≠B;omega),uj.grown fY (by have:=aT.size;simp;omega) (fun j e=>by cases e;exact nJ.1)⟩;rw[kQ.out,qh1 dim (l.take k) x r (by rw[hr,HQ.out])];exact dE
   have wN:=lhd fin;clear fin;cases q with
   |true =>
    go_wp2_with (first
     |(at_lookup;refine q3q rfl _ _ 125 rfl fP Tryz.underlying3 Tryz.underlying125 (q21 _) x.id rfl rfl av ?_;rw[HG.out])
     |(at_mapUpdate;refine q1z rfl _ _ _ 125 rfl fP Tryz.underlying3 Tryz.underlying125 (by unfold maxLen;omega) x.id _ rfl rfl rfl av ?_))
    intro w2 dE fY;obtain⟨z1,z2,z3⟩:=wN.out true w2 (by simp) dE fY;clear fY dE;go_wp2;go_roundw
    case measure=>simp[vI];omega
    case rel=>exact⟨k+1,qh (by omega),by omega,z1,z2,z3⟩
   |false =>
    go_wp2_with (first
     |(at_lookup;refine q3q rfl _ _ 125 rfl fP Tryz.underlying3 Tryz.underlying125 (q21 _) x.id rfl rfl av ?_;rw[HG.out])
     |(at_mapUpdate;refine q1z rfl _ _ _ 125 rfl fP Tryz.underlying3 Tryz.underlying125 (by unfold maxLen;omega) x.id _ rfl rfl rfl av ?_))
    intro w2 dE fY;obtain⟨z1,z2,z3⟩:=wN.out (x.dim == dim) w2 (by simp) dE fY;clear fY dE;go_wp2;go_roundw
    case measure=>simp[vI];omega
    case rel=>exact⟨k+1,qh (by omega),by omega,z1,z2,z3⟩
  ·have aM:k=len:=by omega
   have nH:l.take k=l:=gr (by rw[HL.out];omega);rw[nH]at dL;have Js:=lhd dL;clear dL nH aM;have lK:=HK.out.keep aT;go_wp2_with fail;refine(qdd _ t S _ lK hS hb).mono ?_;rintro e w2 ⟨r,rfl,⟨⟨L,hL,yN,G7,hr⟩,aj⟩⟩;have aI:=(btr aT aj);have q2:=J aj q0;have dE:=Js.out.keep aj;have CE:∀p∈L,I64 p.1:=fun p hp=>by
    have h1:=zl hL.1 hp;have h2:=hL.2 p hp;rw[yN]at h1;rcases Classical.em (∃y∈t,y.c=p.1)with ⟨y,hy,he⟩|fk
    ·have:=hS y hy;rw[he]at this;exact⟨this.1,this.2.1⟩
    ·exfalso
     rw[q0j (prs t) p.1 (fun r hr e=>by obtain⟨y,hy,rfl⟩:=gj.1 hr;exact fk ⟨y,hy,e⟩)]at h1
     exact h2 h1.symm
   have aq:=qa7 r (ctm L) 143 #[σ bk] (fun y=>!(l.any fun x=>x.id == y.c && x.dim == dim)) w2 (Sl.qc hr) Tryz.call143
    (fun W hW y hy=>qox y bk B k _ _ W (J hW q2) (dE.keep hW) (qdh dim l y.c) (by obtain⟨p,hp,rfl⟩:=gj.1 hy;exact CE p hp))
   have HC:=lhd aq;have fin:((!((ctm L).any fun y=>!(l.any fun x=>x.id == y.c && x.dim == dim)))=true↔∀c,co (prs t) c≠0->∃x∈l,x.id=c/\x.dim=dim):=by
    rw[Bool.not_eq_true',List.any_eq_false];constructor
    ·intro h c hc;rw[<-yN]at hc;have:∃p∈L,p.1=c:=by
      rcases Classical.em (∃p∈L,p.1=c)with h|h
      ·exact h
      ·exact absurd (q0j L c (fun p hp e=>h ⟨p,hp,e⟩)) hc
     obtain⟨p,hp,rfl⟩:=this;have h1:=h _ (bG (f:=fun p:Int×Int=>(⟨p.1,decide (p.2<0),mg p.2⟩ : Tm)) hp);simpa using h1
    ·intro h y hy;obtain⟨p,hp,rfl⟩:=gj.1 hy;have h1:=h p.1 (by rw[<-yN,zl hL.1 hp];exact hL.2 p hp);simpa using h1
   have wN:=lhd fin;clear aq fin hr CE yN hL G7 dE q2;go_wp2_with fail;refine HC.out.mono ?_;rintro e w3 ⟨rfl,aw⟩;go_wp2;go_ret;exact⟨_,rfl,wN.out,(btr aI aw)⟩
