/- Steps towards MorseParts. Conditions: none. -/
import Derived.Test.YtlhicnfeajejhaaGreatDoorGMh
set_option maxRecDepth 1000000
set_option maxHeartbeats 16000000
namespace Go.Proofs.YtlhicnfeajejhaaGreatDoor
open Go.RowKit Go.Cx
attribute [local go_sem ↓] Go.wp_at_zero Go.wp_at_succ
theorem qnc (w:World) (x:Ce) (t:TypeId):∀ j u,x.enc[j]? = some u->(w.alloc (.cells #[.int .i64 x.id,.int .i64 x.dim,.slice x.a x.n x.c] t)).cell? ((⟨w.heap.size,0,none⟩ : Addr).add j)=some u:=fun j u hj=>by
 rw[Addr.add_lit,Nat.zero_add,qd];have:(#[Value.int .i64 x.id,.int .i64 x.dim,.slice x.a x.n x.c] : Array Value)[j]? = x.enc[j]?:=by simp[Ce.enc]
 rw[this];exact hj
theorem qnd (T B n:Nat) (v:Value) (m:List Ce) (g:Nat) (cb:Array Value) (f:Ce->Bool) (w:World) (q0:w.cell? ⟨T,0,none⟩=some (.map (some B))) (q1:w.cell? ⟨T,1,none⟩=some v) (eG:Mp Tryz.prog 3 w B n (gOf m))
  (hv:Sl w 1 v (ints ((xb Ce.id m).map Ce.id))) (dx:m.length<=1099511627776) (iI:∀ x∈m,I64 x.id)
  (eg:∀ args w,(callFunc g args).run Tryz.prog w = .ok (.enter g args) w) (hf:∀ W,BwQ w W->∀ x∈m,Calls Tryz.prog g (#[x.v]++cb) W fun e w'=>e = .returned (.bool (f x))/\BwQ W w') :
  Calls Tryz.prog 170 #[.pointer (some ⟨T,0,none⟩),.func (.func g) #[] cb] w fun e w'=>∃ r,e = .returned (.agg #[r]) ∧
   w'.ownsRow w.heap.size 75 3 r ((xb Ce.id m).filter f).length (cat Ce.enc ((xb Ce.id m).filter f))/\BwQ w w':=by
 have mixed:Tryz.prog.follows .mixedOrders=true:=by kernel_rfl
 obtain⟨F,hF⟩ : ∃ F,F=xb Ce.id m:=⟨_,rfl⟩
 have Oj:∀ x∈F,x∈m/\gOf m x.id=some x.v:=fun x hx=>by rw[hF] at hx;refine⟨qby hx,?_⟩;unfold gOf;rw[q4n (key:=Ce.id) m x hx];rfl
 have D7:F.length<=1099511627776:=by rw[hF];exact gl (q3c m) dx
 rw[<-hF] at hv ⊢;have Tk:=lhd Oj;have HF:=lhd hf;have J9:=lhd iI;clear hF Oj hf dx iI;obtain⟨a,len,cap,rfl,h2,h3,h4,h5,h6⟩:=hv;unfold maxLen at h3;rw[xl,gn,gL] at h4;have HL:=lhd h4;clear h4;have H5:=lhd h5;clear h5;have H6:=lhd h6;clear h6;have bL:len<=1099511627776:=by rw[<-HL.out];exact D7
 clear D7;go_enter Tryz.func170,Tryz.ntmps170;obtain⟨W,hW⟩ : ∃ W:World,W=(w.alloc (.cells #[.slice none 0 0] 26)).alloc (.cells #[.slice none 0 0] 26):=⟨_,rfl⟩
 have JC:BwQ w W:=by rw[hW];exact(bal _ _).alloc (by simp) _
 have b0:Bv W w.heap.size (.slice none 0 0):=by rw[hW];exact(Bv.new w _ _).alloc _
 have b1:Bv W (w.heap.size+1) (.slice none 0 0):=by rw[hW];have:=Bv.new (w.alloc (.cells #[.slice none 0 0] 26)) (.slice none 0 0) 26;rwa [World.size_alloc] at this
 have hz:W.heap.size=w.heap.size+2:=by rw[hW];simp
 have Ye:=Cx.q8 JC q0;have Ol:=Cx.q8 JC q1;have sx:T < w.heap.size:=World.block_lt_of_cell? w _ q0;have Om:=eG.lt;have Tl:=lhd eG;have Q0:=lhd q0;have Tn:((w.alloc (.cells #[.slice none 0 0] 26)).alloc (.cells #[.slice none 0 0] 26)).cell? ⟨T,1,none⟩=some (.slice a len cap):=by rw[<-hW];exact Ol
 have HW:=lhd hW;clear eG q0 q1 hW;go_wp2;rw[<-HW.out];clear Tn Ol;go_loopw [7,13] (fun _ i wr=>∃ (k:Nat) (r:Value),i = .int .i64 k/\k<=len/\Bv wr w.heap.size (.slice none 0 0)/\Bv wr (w.heap.size+1) r ∧
  Hid (wr.ownsRow (w.heap.size+2) 75 3 r ((F.take k).filter f).length (cat Ce.enc ((F.take k).filter f)))/\BwQ w wr/\w.heap.size+2<=wr.heap.size) (fun _ i _=>len - (vI i).toNat)
 case atStart=>exact⟨0,_,rfl,go _,b0,b1,(show Hid _ from World.ownsRow_nil _ _ _ _),JC,by omega⟩
 case round =>
  obtain⟨k,r,rfl,hk,cW,ai,HR,hB,kB⟩:=hrel;obtain⟨p0,p1⟩:=ai;have lD:=lhd cW;clear cW;by_cases hlt:k < len
  ·obtain⟨x,hx⟩ : ∃ x,F[k]? = some x:=⟨_,g8 (by rw[HL.out];exact hlt)⟩
   obtain⟨ad,rfl⟩:=sadq H5.out (by omega)
   have d0:wr.cell? (ad.add k)=some (.int .i64 x.id):=Cx.q8 hB (H6.out ad rfl k _ (by simp[ints,hx]));obtain⟨fK,JD⟩:=Tk.out x (gh hx);have qG:=J9.out x fK;have aq:=q0k (P:=Tryz.prog) (k:=3) Tryz.underlying3 qG.1 qG.2;have bZ:(F.take (k+1)).filter f=(F.take k).filter f++(if f x=true then [x] else []):=by
    rw[gq,hx,bm];by_cases h:f x=true
    ·simp[h]
    ·simp[h]
   have cr:=lhd bZ;have Ae:wr.cell? ⟨T,0,none⟩=some (.map (some B)):=Cx.q8 hB Q0.out;have iJ:Mp Tryz.prog 3 wr B n (gOf m):=Tl.out.q8 hB;have To:(Instr.lookup 181 (.map (some B)) (.int .i64 x.id) false).run Tryz.prog wr = .ok (.agg #[.int .i64 x.id,.int .i64 x.dim,.slice x.a x.n x.c]) wr:=by have:=iJ.look Tryz.underlying3 Tryz.underlying181 (zeroCell _) aq;rw[JD] at this;exact this
   have af:=HF.out wr hB x fK;have HC:=lhd af;have pH:=lhd iJ;have Tp:=lhd JD;clear hx fK JD qG bZ af iJ;go_wp2_with fail;refine HC.out.mono ?_;rintro e w2 ⟨rfl,aj⟩;have c0:=Cx.q8 aj p0;have c1:w2.frozen? ⟨w.heap.size+1,0,none⟩=false:=qv aj (World.block_lt_of_cell? wr _ p0) p1;have t0:=Cx.q8 aj Ae;have eI:=pH.out.q8 aj;have bV:wr.heap.size<=w2.heap.size:=aj.size;have cZ:=qa HR.out aj;have e9:=lhd cZ;clear cZ;have bG:=lhd aj;clear aj;have JE:=lhd eI;clear eI;by_cases mV:f x=true
   ·rw[mV,if_pos rfl] at cr;have zX:((F.take k).filter f).length<=k:=gl (gQ _ _) (by rw[gd];omega);have Tq:(Instr.lookup 181 (.map (some B)) (.int .i64 x.id) false).run Tryz.prog w2.drew = .ok (.agg #[.int .i64 x.id,.int .i64 x.dim,.slice x.a x.n x.c]) w2.drew:=by have:=Mp.look (w:=w2.drew) JE.out Tryz.underlying3 Tryz.underlying181 (zeroCell _) aq;rw[Tp.out] at this;exact this
    have za:(w2.alloc (.cells #[.int .i64 x.id,.int .i64 x.dim,.slice x.a x.n x.c] 75)).cell? ⟨w.heap.size+1,0,none⟩=some r:=qk c0 _;have fa:(w2.drew.alloc (.cells #[.int .i64 x.id,.int .i64 x.dim,.slice x.a x.n x.c] 75)).frozen? ⟨w.heap.size+1,0,none⟩=false:=qv ((Below.refl _ w2.drew).alloc (nlr _) _) (World.block_lt_of_cell? w2 _ c0) c1;have FA:=lhd fa;clear fa;obtain⟨i0,hi,aF,bR,JF⟩:=info_parts Tryz.ke;rw[mV];go_wp2_with fail
    go_region_law (first
     |(refine step_append_lies _ rfl _ _ 24 rfl (w.heap.size+2) 75 i0 _ 3 40 Tryz.underlying24 hi aF bR JF rfl (by decide) _ _ _ rfl ((World.ownsRow.drew e9.out).alloc _) ⟨w2.heap.size,0,none⟩ 1 1 x.enc rfl rfl (qnc w2.drew x _) (Ce.xu x) (by decide) (by unfold maxLen;omega) (by omega) (by simp;omega) _ rfl ?_;intro g2 cg w6 bH au eh iq;have aS:((w2.alloc (.cells #[.int .i64 x.id,.int .i64 x.dim,.slice x.a x.n x.c] 75)).drew).grownBy w6 r.ownBlock:=au;clear au eh;have b1:w6.cell? ⟨w.heap.size+1,0,none⟩=some r:=ql aS (qk c0 _) (fun k e=>by have:=(e9.out.lt k e).1;show w.heap.size+1≠k;omega);have b2:w6.frozen? ⟨w.heap.size+1,0,none⟩=false:=(aS.frozen_far ⟨w.heap.size+1,0,none⟩ (by simp;omega) (fun e=>by have:=(e9.out.lt (w.heap.size+1) e.symm).1;omega)).trans (FA.out);have F6:=lhd (aiq bH aS);clear bH aS))
    all_goals
     go_wp2;go_roundw
     case measure=>simp[vI];omega
     case rel =>
      obtain⟨bH,aS⟩:=F6.out;have Ad:(w2.alloc (.cells #[.int .i64 x.id,.int .i64 x.dim,.slice x.a x.n x.c] 75)).heap.size<=w6.heap.size:=aS.size;(try simp only[BwQ] at Ad);rw[World.size_alloc] at Ad;have D5:BwQ w2 ((w2.alloc (.cells #[.int .i64 x.id,.int .i64 x.dim,.slice x.a x.n x.c] 75)).drew):=qb (bal w2 _) 1;have sy:∀ k,r.ownBlock=some k->w.heap.size+2<=k:=fun k e=>(e9.out.lt k e).1
      have aw:BwQ w w2:=(btr hB bG.out);have dc:BwQ w w6:=((btr aw D5)).grown aS (by simp;omega) (fun k e=>by have:=sy k e;omega);have ff:Bv w6 w.heap.size (.slice none 0 0):=by
       have h1:=((lD.out.q8 bG.out).q8 D5)
       refine⟨ql aS h1.1 (fun k e=>by have:=sy k e;show w.heap.size≠k;omega),?_⟩;exact(aS.frozen_far ⟨w.heap.size,0,none⟩ (World.block_lt_of_cell? _ _ h1.1) (fun e=>by have:=sy _ e.symm;simp at this;omega)).trans h1.2
      refine⟨k+1,_,qh (by omega),by omega,ff.other (by show w.heap.size≠w.heap.size+1;omega) _,Bv.put ⟨b1,b2⟩ _,(show Hid _ from ?_),dc.setCell (show w.heap.size<=w.heap.size+1 by omega) _,by simp[World.setCell];omega⟩;rw[cr.out,x9,gc,q1c];exact ownsRow_setCell_below bH (show w.heap.size+1 < w.heap.size+2 by omega) _
   ·have mo:f x=false:=by simpa using mV
    rw[mo] at cr ⊢;have Af:Hid ((F.take (k+1)).filter f=(F.take k).filter f):=by show _=_;rw[cr.out];simp
    clear mV;go_wp2;go_roundw
    case measure=>simp[vI];omega
    case rel =>refine⟨k+1,r,qh (by omega),by omega,lD.out.q8 bG.out,⟨c0,c1⟩,(show Hid _ from ?_),(btr hB bG.out),by omega⟩;rw[Af.out];exact e9.out
  ·have bF:k=len:=by omega
   have cO:F.take k=F:=gm (by rw[HL.out];omega);have C5:=lhd cO;clear cO bF;obtain⟨a2,dN,cC⟩:=qj HR.out;subst cC;obtain⟨r0,r1⟩:=lD.out;go_wp2_with fail;refine bodyPost_ret (v:=.agg #[.slice a2 ((F.take k).filter f).length dN]) (by simp[results,Tryz.results170,go_sem,(Bv.put (w:=wr) (b:=w.heap.size) ⟨r0,r1⟩ (.slice a2 ((F.take k).filter f).length dN)).1]) rfl ⟨_,rfl,?_,hB.setCell (nlr _) _⟩;have h1:=qf (ownsRow_setCell_below (a:=⟨w.heap.size,0,none⟩) HR.out (by show w.heap.size < _;omega) (.slice a2 ((F.take k).filter f).length dN)) (show w.heap.size<=w.heap.size+2 by omega);rw[C5.out] at h1 ⊢;exact h1
theorem qdg (T B n:Nat) (v:Value) (m:List Ce) (g:Nat) (cb:Array Value) (f:Ce->Bool) (w:World) (q0:w.cell? ⟨T,0,none⟩=some (.map (some B))) (q1:w.cell? ⟨T,1,none⟩=some v) (eG:Mp Tryz.prog 3 w B n (gOf m))
  (hv:Sl w 1 v (ints ((xb Ce.id m).map Ce.id))) (dx:m.length<=1099511627776) (iI:∀ x∈m,I64 x.id)
  (eg:∀ args w,(callFunc g args).run Tryz.prog w = .ok (.enter g args) w) (hf:∀ W,BwQ w W->∀ x∈m,Calls Tryz.prog g (#[x.v]++cb) W fun e w'=>e = .returned (.bool (f x))/\BwQ W w') :
  Calls Tryz.prog 133 #[.pointer (some ⟨T,0,none⟩),.func (.func g) #[] cb] w fun e w'=>∃ r,e = .returned r ∧
   w'.ownsRow w.heap.size 3 1 r ((xb Ce.id m).filter f).length (ints (((xb Ce.id m).filter f).map Ce.id))/\BwQ w w':=by
 have af:=qnd T B n v m g cb f w q0 q1 eG hv dx iI eg hf;have D7:=gl (gQ f (xb Ce.id m)) (gl (q3c (key:=Ce.id) m) dx);obtain⟨G,hG⟩ : ∃ G,G=(xb Ce.id m).filter f:=⟨_,rfl⟩
 rw[<-hG] at af D7 ⊢;have HC:=lhd af;clear q0 q1 eG hv dx iI hf af hG;go_enter Tryz.func133,Tryz.ntmps133;go_wp2_with fail;refine HC.out.mono ?_;rintro e w1 ⟨r,rfl,hr,ai⟩;have ak:=ai;obtain⟨a',bU,rfl⟩:=qj hr;obtain⟨len,hlen⟩ : ∃ len,len=G.length:=⟨_,rfl⟩
 rw[<-hlen] at hr D7 ⊢;have HR:=lhd (Sl.qc hr);have HL:=lhd hlen;clear hr hlen ai;have pG:=q3b a' len bU;go_wp2;go_loopw [5,7,13] (fun o _ i wr=>∃ k:Nat,i = .int .i64 k/\k<=len/\wr.ownsRow w1.heap.size 3 1 o k (ints ((G.take k).map Ce.id))/\BwQ w wr/\BwQ w1 wr) (fun _ _ i _=>len - (vI i).toNat)
 case atStart=>exact⟨0,rfl,go _,World.ownsRow_nil _ _ _ _,ak,Below.refl _ _⟩
 case round =>
  obtain⟨k,rfl,hk,ah,hB,eQ⟩:=hrel;by_cases hlt:k < len
  ·obtain⟨x,hx⟩ : ∃ x,G[k]? = some x:=⟨_,g8 (by rw[<-HL.out];exact hlt)⟩
   obtain⟨h2,h3,h4,h5,h6⟩:=HR.out.open;obtain⟨ad,rfl⟩:=sadq h5 (by omega)
   obtain⟨e0,e1,e2⟩:=zh G k x hx;have d0:wr.cell? (ad.add (k*3))=some (.int .i64 x.id):=Cx.q8 eQ (h6 ad rfl _ _ e0);have d1:wr.cell? ⟨(ad.add (k*3)).block,(ad.add (k*3)).off+1,none⟩=some (.int .i64 x.dim):=by rw[qi _ _ _ (by omega)];exact Cx.q8 eQ (h6 ad rfl _ _ e1)
   have d2:wr.cell? ⟨(ad.add (k*3)).block,(ad.add (k*3)).off+2,none⟩=some (.slice x.a x.n x.c):=by rw[qi _ _ _ (by omega)];exact Cx.q8 eQ (h6 ad rfl _ _ e2)
   have bZ:(G.take (k+1)).map Ce.id=(G.take k).map Ce.id++[x.id]:=by rw[gq,hx];simp
   have cr:=lhd bZ;have az:w.heap.size<=wr.heap.size:=hB.size;have aP:BwQ wr (wr.alloc (.cells #[.int .i64 x.id,.int .i64 x.dim,.slice x.a x.n x.c] 75)):=bal wr _;have aY:=ah.alloc (.cells #[.int .i64 x.id,.int .i64 x.dim,.slice x.a x.n x.c] 75);clear h2 h3 h4 h5 h6 e0 e1 e2 hx bZ;go_wp2_with (at_builtin;refine qo (W:=w1) rfl _ _ 22 rfl w1.heap.size 3 Tryz.xg Tryz.underlying22 rfl (by decide) (by decide) _ _ _ rfl aY [.int .i64 x.id] (by (try simp only[BwQ]);rw[World.size_alloc];rfl) rfl (q5v _) ?bp2 ((btr eQ aP)) ?bp3 ?_)
   case bp2=>omega
   case bp3=>have:=eQ.size;simp;omega
   intro v3 w3 dE iE D8;have ar:BwQ w w3:=(btr ak D8);go_wp2;go_roundw
   case measure=>simp[vI];omega
   case rel=>exact⟨k+1,qh (by omega),by omega,by rw[cr.out,j3,List.map_take];exact dE,ar,D8⟩
  ·have bF:k=len:=by omega
   have cO:G.take k=G:=gm (by rw[<-HL.out];omega);have C5:=lhd cO;clear cO;have su:=lhd bF;clear bF;go_wp2;go_ret;refine⟨_,rfl,?_,hB⟩;rw[C5.out,su.out,HL.out] at ah;exact qf ah ak.size
theorem qne (x:Ce) (bk:Nat) (dim:Int) (w:World) (hc:w.cell? ⟨bk,0,none⟩=some (.int .i64 dim)) :
  Calls Tryz.prog 134 #[x.v,.pointer (some ⟨bk,0,none⟩)] w fun e w'=>e = .returned (.bool (x.dim == dim))/\BwQ w w':=by
 have h1:(w.alloc (.cells #[.int .i64 x.id,.int .i64 x.dim,.slice x.a x.n x.c] 75)).cell? ⟨bk,0,none⟩=some (.int .i64 dim):=qk hc _;unfold Ce.v;go_enter Tryz.func134,Tryz.ntmps134;go_wp2;go_ret;exact⟨rfl,bal w _⟩
theorem qow (v:Value) (l:List Ce) (dim:Int) (w:World) (h:SlC w v l) (hl:l.length<=1099511627776) (hok:COk l) :
  Calls Tryz.prog 77 #[.agg #[v],.int .i64 dim] w fun e w'=>∃ r,e = .returned r/\w'.ownsRow w.heap.size 3 1 r (q04 (l.map Ce.cl) dim).length (ints (q04 (l.map Ce.cl) dim))/\BwQ w w':=by
 obtain⟨a,n,cap,rfl⟩:=qg h.1;have HH:=lhd h;clear h;have kU:=lhd hok;clear hok;go_enter Tryz.func77,Tryz.ntmps77;go_wp2_with fail;refine(qnb _ l _ ((HH.out.alloc _).alloc _) hl kU.out).mono ?_;rintro e w1 ⟨T,rfl,⟨B,n1,v1,m,t1,t2,t3,t4,t5,t6,t7,t8⟩,ai⟩;(try simp only[BwQ]at t1 t2 ai);simp only [World.size_alloc] at t1 t2 ai;have bR:w.heap.size+1+1<=w1.heap.size:=by have:=ai.size;simpa using this
 have ak:BwQ w w1:=((bal w _).alloc (by simp) _).trans (ai.mono (by omega));have hd:w1.cell? ⟨w.heap.size+1,0,none⟩=some (.int .i64 dim):=by have:=qd (w.alloc (.cells #[.slice a n cap] 26)) #[.int .i64 dim] 3 (0,0) 0;(try simp only[BwQ] at this);rw[World.size_alloc] at this;exact q1n ai (by simp) this
 have dx:m.length<=1099511627776:=by have:=congrArg List.length t7;rw[q0z,gn,gn] at this;omega
 have iI:∀ x∈m,I64 x.id:=fun x hx=>by
  have h1:x.cl∈canon (l.map Ce.cl):=by rw[<-t7];exact gG hx
  obtain⟨y,hy,he⟩:=gr.1 h1;obtain⟨z,hz,rfl⟩:=gr.1 ((q2m _ y).1 hy);have h2:=congrArg Cl.id he;have h3:z.id=x.id:=h2;rw[<-h3];exact(kU.out z hz).1.1
 have af:=qdg T B n1 v1 m 134 #[.pointer (some ⟨w.heap.size+1,0,none⟩)] (fun x=>x.dim == dim) w1 t3 t4 t5 t6 dx iI Tryz.call134 (fun W hW x _=>qne x (w.heap.size+1) dim W (Cx.q8 hW hd));have heq:((xb Ce.id m).filter (fun x=>x.dim == dim)).map Ce.id=q04 (l.map Ce.cl) dim:=by unfold q04 cellsOf;rw[<-t7,q63 (key:=Ce.id) Ce.cl (fun _=>rfl),List.filter_map,List.map_map];rfl
 have HC:=lhd af;have uk:=lhd heq;clear af heq t1 t2 t3 t4 t5 t6 t7 t8 hd dx iI;go_wp2_with fail;refine HC.out.mono ?_;rintro e w2 ⟨r,rfl,hr,aj⟩;go_wp2;go_ret;refine⟨r,rfl,?_,(btr ak aj)⟩;have hlen:=congrArg List.length uk.out;rw[gn] at hlen;rw[<-hlen,<-uk.out];exact qf hr ak.size
def Tm.v (t:Tm):Value:=.agg #[.int .i64 t.c,.bool t.n,.string t.m]
theorem q21 (w:World):(zeroValue 4).run Tryz.prog w = .ok (.bool false) w:=Tryz.zeroValue4 w
end Go.Proofs.YtlhicnfeajejhaaGreatDoor
