/- Steps towards MorseChecks. Conditions: none. -/
import Derived.Test.YtlhicnfeajejhaaGreatDoorFMh
set_option maxRecDepth 1000000
set_option maxHeartbeats 16000000
namespace Go.Proofs.YtlhicnfeajejhaaGreatDoor
open Go.RowKit Go.Cx
attribute [local go_sem ↓] Go.wp_at_zero Go.wp_at_succ
theorem qnc (w:World) (x:Ce) (t:TypeId):∀ j u,x.enc[j]? = some u->(w.alloc (.cells #[.int .i64 x.id,.int .i64 x.dim,.slice x.a x.n x.c] t)).cell? ((⟨w.heap.size,0,none⟩ : Addr).add j)=some u:=fun j u hj=>by
 rw[Addr.add_lit,Nat.zero_add,qd];have:(#[Value.int .i64 x.id,.int .i64 x.dim,.slice x.a x.n x.c] : Array Value)[j]? = x.enc[j]?:=by simp[Ce.enc]
 rw[this];exact hj
theorem qnd (T B n:Nat) (v:Value) (m:List Ce) (g:Nat) (cb:Array Value) (f:Ce->Bool) (w:World) (q0:w.cell? ⟨T,0,none⟩=some (.map (some B))) (q1:w.cell? ⟨T,1,none⟩=some v) (dt:Mp Tryz.prog 3 w B n (gOf m))
  (hv:Sl w 1 v (ints ((xb Ce.id m).map Ce.id))) (eV:m.length<=1099511627776) (eS:∀ x∈m,I64 x.id)
  (eg:∀ args w,(callFunc g args).run Tryz.prog w = .ok (.enter g args) w) (hf:∀ W,Below w.heap.size w W->∀ x∈m,Calls Tryz.prog g (#[x.v]++cb) W fun e w'=>e = .returned (.bool (f x))/\Below W.heap.size W w') :
  Calls Tryz.prog 170 #[.pointer (some ⟨T,0,none⟩),.func (.func g) #[] cb] w fun e w'=>∃ r,e = .returned (.agg #[r]) ∧
   w'.ownsRow w.heap.size 75 3 r ((xb Ce.id m).filter f).length (cat Ce.enc ((xb Ce.id m).filter f))/\Below w.heap.size w w':=by
 have mixed:Tryz.prog.follows .mixedOrders=true:=by kernel_rfl
 obtain⟨F,hF⟩ : ∃ F,F=xb Ce.id m:=⟨_,rfl⟩
 have LH:∀ x∈F,x∈m/\gOf m x.id=some x.v:=fun x hx=>by
  rw[hF] at hx;refine⟨qby hx,?_⟩;unfold gOf;rw[q4n (key:=Ce.id) m x hx];rfl
 have Bg:F.length<=1099511627776:=by rw[hF];exact gn (q3c m) eV
 rw[<-hF] at hv ⊢;have Qw:=lhd LH;have HF:=lhd hf;have Gw:=lhd eS;clear hF LH hf eV eS;obtain⟨a,len,cap,rfl,h2,h3,h4,h5,h6⟩:=hv;unfold maxLen at h3;rw[xl,gm,gK] at h4;have HL:=lhd h4;clear h4;have H5:=lhd h5;clear h5;have H6:=lhd h6;clear h6;have bH:len<=1099511627776:=by rw[<-HL.out];exact Bg
 clear Bg;go_enter Tryz.func170,Tryz.ntmps170;obtain⟨W,hW⟩ : ∃ W:World,W=(w.alloc (.cells #[.slice none 0 0] 26)).alloc (.cells #[.slice none 0 0] 26):=⟨_,rfl⟩
 have Gy:Below w.heap.size w W:=by rw[hW];exact((Below.refl _ _).alloc (nlr _) _).alloc (by simp) _
 have b0:Bv W w.heap.size (.slice none 0 0):=by rw[hW];exact(Bv.new w _ _).alloc _
 have b1:Bv W (w.heap.size+1) (.slice none 0 0):=by rw[hW];have:=Bv.new (w.alloc (.cells #[.slice none 0 0] 26)) (.slice none 0 0) 26;rwa [World.size_alloc] at this
 have hz:W.heap.size=w.heap.size+2:=by rw[hW];simp
 have Vk:=Cx.q8 Gy q0;have LI:=Cx.q8 Gy q1;have oX:T < w.heap.size:=World.block_lt_of_cell? w _ q0;have LJ:=dt.lt;have Qx:=lhd dt;have Q0:=lhd q0;have Qy:((w.alloc (.cells #[.slice none 0 0] 26)).alloc (.cells #[.slice none 0 0] 26)).cell? ⟨T,1,none⟩=some (.slice a len cap):=by rw[<-hW];exact LI
 have HW:=lhd hW;clear dt q0 q1 hW;go_wp2;rw[<-HW.out];clear Qy LI;go_loopw [7,13] (fun _ i wr=>∃ (k:Nat) (r:Value),i = .int .i64 k/\k<=len/\Bv wr w.heap.size (.slice none 0 0)/\Bv wr (w.heap.size+1) r ∧
  Hid (wr.ownsRow (w.heap.size+2) 75 3 r ((F.take k).filter f).length (cat Ce.enc ((F.take k).filter f)))/\Below w.heap.size w wr/\w.heap.size+2<=wr.heap.size) (fun _ i _=>len - (vI i).toNat)
 case atStart=>exact⟨0,_,rfl,gp _,b0,b1,(show Hid _ from World.ownsRow_nil _ _ _ _),Gy,by omega⟩
 case round =>
  obtain⟨k,r,rfl,hk,ca,ai,HR,hB,fI⟩:=hrel;obtain⟨p0,p1⟩:=ai;have i7:=lhd ca;clear ca;by_cases hlt:k < len
  ·obtain⟨x,hx⟩ : ∃ x,F[k]? = some x:=⟨_,g8 (by rw[HL.out];exact hlt)⟩
   obtain⟨ad,rfl⟩ : ∃ ad,a=some ad:=by
    cases a with
    | none=>have:=H5.out rfl;omega
    | some ad=>exact⟨ad,rfl⟩
   have d0:wr.cell? (ad.add k)=some (.int .i64 x.id):=Cx.q8 hB (H6.out ad rfl k _ (by simp[ints,hx]));obtain⟨dQ,Gz⟩:=Qw.out x (gd hx);have o5:=Gw.out x dQ;have aq:=q0k (P:=Tryz.prog) (k:=3) Tryz.underlying3 o5.1 o5.2;have cZ:(F.take (k+1)).filter f=(F.take k).filter f++(if f x=true then [x] else []):=by
    rw[gq,hx,bm];by_cases h:f x=true
    ·simp[h]
    ·simp[h]
   have dc:=lhd cZ;have vX:wr.cell? ⟨T,0,none⟩=some (.map (some B)):=Cx.q8 hB Q0.out;have eU:Mp Tryz.prog 3 wr B n (gOf m):=Qx.out.q8 hB;have Qz:(Instr.lookup 181 (.map (some B)) (.int .i64 x.id) false).run Tryz.prog wr = .ok (.agg #[.int .i64 x.id,.int .i64 x.dim,.slice x.a x.n x.c]) wr:=by
    have:=eU.look Tryz.underlying3 Tryz.underlying181 (zeroCell _) aq;rw[Gz] at this;exact this
   have ae:=HF.out wr hB x dQ;have HC:=lhd ae;have me:=lhd eU;have Q1:=lhd Gz;clear hx dQ Gz o5 cZ ae eU;go_wp2_with fail;refine HC.out.mono ?_;rintro e w2 ⟨rfl,ag⟩;have c0:=Cx.q8 ag p0;have c1:w2.frozen? ⟨w.heap.size+1,0,none⟩=false:=qv ag (World.block_lt_of_cell? wr _ p0) p1;have t0:=Cx.q8 ag vX;have dy:=me.out.q8 ag;have cp:wr.heap.size<=w2.heap.size:=ag.size;have cj:=qa HR.out ag;have ez:=lhd cj;clear cj;have aF:=lhd ag;clear ag;have G0:=lhd dy;clear dy;by_cases oZ:f x=true
   ·rw[oZ,if_pos rfl] at dc;have vR:((F.take k).filter f).length<=k:=gn (bg _ _) (by rw[gh];omega);have Q2:(Instr.lookup 181 (.map (some B)) (.int .i64 x.id) false).run Tryz.prog w2.drew = .ok (.agg #[.int .i64 x.id,.int .i64 x.dim,.slice x.a x.n x.c]) w2.drew:=by
     have:=Mp.look (w:=w2.drew) G0.out Tryz.underlying3 Tryz.underlying181 (zeroCell _) aq;rw[Q1.out] at this;exact this
    have za:(w2.alloc (.cells #[.int .i64 x.id,.int .i64 x.dim,.slice x.a x.n x.c] 75)).cell? ⟨w.heap.size+1,0,none⟩=some r:=qk c0 _;have fa:(w2.drew.alloc (.cells #[.int .i64 x.id,.int .i64 x.dim,.slice x.a x.n x.c] 75)).frozen? ⟨w.heap.size+1,0,none⟩=false:=qv ((Below.refl _ w2.drew).alloc (nlr _) _) (World.block_lt_of_cell? w2 _ c0) c1;have FA:=lhd fa;clear fa;obtain⟨i0,hi,bL,bT,G1⟩:=info_parts Tryz.ke;rw[oZ];go_wp2_with fail
    go_region_law (first
     |(refine step_append_lies _ rfl _ _ 24 rfl (w.heap.size+2) 75 i0 _ 3 40 Tryz.underlying24 hi bL bT G1 rfl (by decide) _ _ _ rfl ((World.ownsRow.drew ez.out).alloc _) ⟨w2.heap.size,0,none⟩ 1 1 x.enc rfl rfl (qnc w2.drew x _) (Ce.xu x) (by decide) (by unfold maxLen;omega) (by omega) (by simp;omega) _ rfl ?_;intro g2 cg w6 aO ar cU e6;have aG:((w2.alloc (.cells #[.int .i64 x.id,.int .i64 x.dim,.slice x.a x.n x.c] 75)).drew).grownBy w6 r.ownBlock:=ar;clear ar cU;have b1:w6.cell? ⟨w.heap.size+1,0,none⟩=some r:=ql aG (qk c0 _) (fun k e=>by have:=(ez.out.lt k e).1;show w.heap.size+1≠k;omega);have b2:w6.frozen? ⟨w.heap.size+1,0,none⟩=false:=(aG.frozen_far ⟨w.heap.size+1,0,none⟩ (by simp;omega) (fun e=>by have:=(ez.out.lt (w.heap.size+1) e.symm).1;omega)).trans (FA.out);have F6:=lhd (aiq aO aG);clear aO aG))
    all_goals
     go_wp2;go_roundw
     case measure=>simp[vI];omega
     case rel =>
      obtain⟨aO,aG⟩:=F6.out;have vW:(w2.alloc (.cells #[.int .i64 x.id,.int .i64 x.dim,.slice x.a x.n x.c] 75)).heap.size<=w6.heap.size:=aG.size;rw[World.size_alloc] at vW;have Be:Below w2.heap.size w2 ((w2.alloc (.cells #[.int .i64 x.id,.int .i64 x.dim,.slice x.a x.n x.c] 75)).drew):=qb ((Below.refl _ w2).alloc (nlr _) _) 1;have oY:∀ k,r.ownBlock=some k->w.heap.size+2<=k:=fun k e=>(ez.out.lt k e).1
      have aw:Below w.heap.size w w2:=hB.trans (aF.out.mono hB.size);have fJ:Below w.heap.size w w6:=(aw.trans (Be.mono aw.size)).grown aG (by simp;omega) (fun k e=>by have:=oY k e;omega);have dJ:Bv w6 w.heap.size (.slice none 0 0):=by
       have h1:=((i7.out.q8 aF.out).q8 Be)
       refine⟨ql aG h1.1 (fun k e=>by have:=oY k e;show w.heap.size≠k;omega),?_⟩;exact(aG.frozen_far ⟨w.heap.size,0,none⟩ (World.block_lt_of_cell? _ _ h1.1) (fun e=>by have:=oY _ e.symm;simp at this;omega)).trans h1.2
      refine⟨k+1,_,qh (by omega),by omega,dJ.other (by show w.heap.size≠w.heap.size+1;omega) _,Bv.put ⟨b1,b2⟩ _,(show Hid _ from ?_),fJ.setCell (show w.heap.size<=w.heap.size+1 by omega) _,by simp[World.setCell];omega⟩;rw[dc.out,x9,gl,q1c];exact ownsRow_setCell_below aO (show w.heap.size+1 < w.heap.size+2 by omega) _
   ·have iZ:f x=false:=by simpa using oZ
    rw[iZ] at dc ⊢;have vY:Hid ((F.take (k+1)).filter f=(F.take k).filter f):=by show _=_;rw[dc.out];simp
    clear oZ;go_wp2;go_roundw
    case measure=>simp[vI];omega
    case rel =>
     refine⟨k+1,r,qh (by omega),by omega,i7.out.q8 aF.out,⟨c0,c1⟩,(show Hid _ from ?_),hB.trans (aF.out.mono hB.size),by omega⟩;rw[vY.out];exact ez.out
  ·have aR:k=len:=by omega
   have dw:F.take k=F:=ge (by rw[HL.out];omega);have zU:=lhd dw;clear dw aR;obtain⟨a2,cT,cB⟩:=qj HR.out;subst cB;obtain⟨r0,r1⟩:=i7.out;go_wp2_with fail;refine bodyPost_ret (v:=.agg #[.slice a2 ((F.take k).filter f).length cT]) (by simp[results,Tryz.results170,go_sem,(Bv.put (w:=wr) (b:=w.heap.size) ⟨r0,r1⟩ (.slice a2 ((F.take k).filter f).length cT)).1]) rfl ⟨_,rfl,?_,hB.setCell (nlr _) _⟩;have h1:=qf (ownsRow_setCell_below (a:=⟨w.heap.size,0,none⟩) HR.out (by show w.heap.size < _;omega) (.slice a2 ((F.take k).filter f).length cT)) (show w.heap.size<=w.heap.size+2 by omega);rw[zU.out] at h1 ⊢;exact h1
theorem qdg (T B n:Nat) (v:Value) (m:List Ce) (g:Nat) (cb:Array Value) (f:Ce->Bool) (w:World) (q0:w.cell? ⟨T,0,none⟩=some (.map (some B))) (q1:w.cell? ⟨T,1,none⟩=some v) (dt:Mp Tryz.prog 3 w B n (gOf m))
  (hv:Sl w 1 v (ints ((xb Ce.id m).map Ce.id))) (eV:m.length<=1099511627776) (eS:∀ x∈m,I64 x.id)
  (eg:∀ args w,(callFunc g args).run Tryz.prog w = .ok (.enter g args) w) (hf:∀ W,Below w.heap.size w W->∀ x∈m,Calls Tryz.prog g (#[x.v]++cb) W fun e w'=>e = .returned (.bool (f x))/\Below W.heap.size W w') :
  Calls Tryz.prog 133 #[.pointer (some ⟨T,0,none⟩),.func (.func g) #[] cb] w fun e w'=>∃ r,e = .returned r ∧
   w'.ownsRow w.heap.size 3 1 r ((xb Ce.id m).filter f).length (ints (((xb Ce.id m).filter f).map Ce.id))/\Below w.heap.size w w':=by
 have ae:=qnd T B n v m g cb f w q0 q1 dt hv eV eS eg hf;have Bg:=gn (bg f (xb Ce.id m)) (gn (q3c (key:=Ce.id) m) eV);obtain⟨G,hG⟩ : ∃ G,G=(xb Ce.id m).filter f:=⟨_,rfl⟩
 rw[<-hG] at ae Bg ⊢;have HC:=lhd ae;clear q0 q1 dt hv eV eS hf ae hG;go_enter Tryz.func133,Tryz.ntmps133;go_wp2_with fail;refine HC.out.mono ?_;rintro e w1 ⟨r,rfl,hr,ai⟩;have al:=ai;obtain⟨a',bE,rfl⟩:=qj hr;obtain⟨len,hlen⟩ : ∃ len,len=G.length:=⟨_,rfl⟩
 rw[<-hlen] at hr Bg ⊢;have HR:=lhd (Sl.qc hr);have HL:=lhd hlen;clear hr hlen ai;have lZ:=q3b a' len bE;go_wp2;go_loopw [5,7,13] (fun o _ i wr=>∃ k:Nat,i = .int .i64 k/\k<=len/\wr.ownsRow w1.heap.size 3 1 o k (ints ((G.take k).map Ce.id))/\Below w.heap.size w wr/\Below w1.heap.size w1 wr) (fun _ _ i _=>len - (vI i).toNat)
 case atStart=>exact⟨0,rfl,gp _,World.ownsRow_nil _ _ _ _,al,Below.refl _ _⟩
 case round =>
  obtain⟨k,rfl,hk,ah,hB,dI⟩:=hrel;by_cases hlt:k < len
  ·obtain⟨x,hx⟩ : ∃ x,G[k]? = some x:=⟨_,g8 (by rw[<-HL.out];exact hlt)⟩
   obtain⟨h2,h3,h4,h5,h6⟩:=HR.out.open;obtain⟨ad,rfl⟩ : ∃ ad,a'=some ad:=by
    cases a' with
    | none=>have:=h5 rfl;omega
    | some ad=>exact⟨ad,rfl⟩
   obtain⟨e0,e1,e2⟩:=zh G k x hx;have d0:wr.cell? (ad.add (k*3))=some (.int .i64 x.id):=Cx.q8 dI (h6 ad rfl _ _ e0);have d1:wr.cell? ⟨(ad.add (k*3)).block,(ad.add (k*3)).off+1,none⟩=some (.int .i64 x.dim):=by rw[qi _ _ _ (by omega)];exact Cx.q8 dI (h6 ad rfl _ _ e1)
   have d2:wr.cell? ⟨(ad.add (k*3)).block,(ad.add (k*3)).off+2,none⟩=some (.slice x.a x.n x.c):=by rw[qi _ _ _ (by omega)];exact Cx.q8 dI (h6 ad rfl _ _ e2)
   have cZ:(G.take (k+1)).map Ce.id=(G.take k).map Ce.id++[x.id]:=by rw[gq,hx];simp
   have dc:=lhd cZ;have aS:w.heap.size<=wr.heap.size:=hB.size;have aL:Below wr.heap.size wr (wr.alloc (.cells #[.int .i64 x.id,.int .i64 x.dim,.slice x.a x.n x.c] 75)):=(Below.refl _ wr).alloc (nlr _) _;have bR:=ah.alloc (.cells #[.int .i64 x.id,.int .i64 x.dim,.slice x.a x.n x.c] 75);clear h2 h3 h4 h5 h6 e0 e1 e2 hx cZ;go_wp2_with (at_builtin;refine qo (W:=w1) rfl _ _ 22 rfl w1.heap.size 3 Tryz.xg Tryz.underlying22 rfl (by decide) (by decide) _ _ _ rfl bR [.int .i64 x.id] (by rw[World.size_alloc];rfl) rfl (q5v _) ?bp2 (dI.trans (aL.mono dI.size)) ?bp3 ?_)
   case bp2=>omega
   case bp3=>have:=dI.size;simp;omega
   intro v3 w3 cY eJ Bh;have aB:Below w.heap.size w w3:=al.trans (Bh.mono al.size);go_wp2;go_roundw
   case measure=>simp[vI];omega
   case rel=>exact⟨k+1,qh (by omega),by omega,by rw[dc.out,j3,List.map_take];exact cY,aB,Bh⟩
  ·have aR:k=len:=by omega
   have dw:G.take k=G:=ge (by rw[<-HL.out];omega);have zU:=lhd dw;clear dw;have oV:=lhd aR;clear aR;go_wp2;go_ret;refine⟨_,rfl,?_,hB⟩;rw[zU.out,oV.out,HL.out] at ah;exact qf ah al.size
theorem qne (x:Ce) (bk:Nat) (dim:Int) (w:World) (hc:w.cell? ⟨bk,0,none⟩=some (.int .i64 dim)) :
  Calls Tryz.prog 134 #[x.v,.pointer (some ⟨bk,0,none⟩)] w fun e w'=>e = .returned (.bool (x.dim == dim))/\Below w.heap.size w w':=by
 have h1:(w.alloc (.cells #[.int .i64 x.id,.int .i64 x.dim,.slice x.a x.n x.c] 75)).cell? ⟨bk,0,none⟩=some (.int .i64 dim):=qk hc _;unfold Ce.v;go_enter Tryz.func134,Tryz.ntmps134;go_wp2;go_ret;exact⟨rfl,(Below.refl _ w).alloc (nlr _) _⟩
theorem qow (v:Value) (l:List Ce) (dim:Int) (w:World) (h:SlC w v l) (hl:l.length<=1099511627776) (hok:COk l) :
  Calls Tryz.prog 77 #[.agg #[v],.int .i64 dim] w fun e w'=>∃ r,e = .returned r/\w'.ownsRow w.heap.size 3 1 r (q04 (l.map Ce.cl) dim).length (ints (q04 (l.map Ce.cl) dim))/\Below w.heap.size w w':=by
 obtain⟨a,n,cap,rfl⟩:=qg h.1;have HH:=lhd h;clear h;have iY:=lhd hok;clear hok;go_enter Tryz.func77,Tryz.ntmps77;go_wp2_with fail;refine(qnb _ l _ ((HH.out.alloc _).alloc _) hl iY.out).mono ?_;rintro e w1 ⟨T,rfl,⟨B,n1,v1,m,t1,t2,t3,t4,t5,t6,t7,t8⟩,ai⟩;simp only [World.size_alloc] at t1 t2 ai;have bT:w.heap.size+1+1<=w1.heap.size:=by have:=ai.size;simpa using this
 have al:Below w.heap.size w w1:=(((Below.refl _ w).alloc (nlr _) _).alloc (by simp) _).trans (ai.mono (by omega));have hd:w1.cell? ⟨w.heap.size+1,0,none⟩=some (.int .i64 dim):=by
  have:=qd (w.alloc (.cells #[.slice a n cap] 26)) #[.int .i64 dim] 3 (0,0) 0;rw[World.size_alloc] at this;exact q1n ai (by simp) this
 have eV:m.length<=1099511627776:=by
  have:=congrArg List.length t7;rw[q0z,gm,gm] at this;omega
 have eS:∀ x∈m,I64 x.id:=fun x hx=>by
  have h1:x.cl∈canon (l.map Ce.cl):=by rw[<-t7];exact gE hx
  obtain⟨y,hy,he⟩:=go.1 h1;obtain⟨z,hz,rfl⟩:=go.1 ((q2m _ y).1 hy);have h2:=congrArg Cl.id he;have h3:z.id=x.id:=h2;rw[<-h3];exact(iY.out z hz).1.1
 have ae:=qdg T B n1 v1 m 134 #[.pointer (some ⟨w.heap.size+1,0,none⟩)] (fun x=>x.dim == dim) w1 t3 t4 t5 t6 eV eS Tryz.call134 (fun W hW x _=>qne x (w.heap.size+1) dim W (Cx.q8 hW hd));have heq:((xb Ce.id m).filter (fun x=>x.dim == dim)).map Ce.id=q04 (l.map Ce.cl) dim:=by
  unfold q04 cellsOf;rw[<-t7,q63 (key:=Ce.id) Ce.cl (fun _=>rfl),List.filter_map,List.map_map];rfl
 have HC:=lhd ae;have rk:=lhd heq;clear ae heq t1 t2 t3 t4 t5 t6 t7 t8 hd eV eS;go_wp2_with fail;refine HC.out.mono ?_;rintro e w2 ⟨r,rfl,hr,ag⟩;go_wp2;go_ret;refine⟨r,rfl,?_,al.trans (ag.mono al.size)⟩;have hlen:=congrArg List.length rk.out;rw[gm] at hlen;rw[<-hlen,<-rk.out];exact qf hr al.size
def Tm.v (t:Tm):Value:=.agg #[.int .i64 t.c,.bool t.n,.string t.m]
theorem q21 (w:World):(zeroValue 4).run Tryz.prog w = .ok (.bool false) w:=Tryz.zeroValue4 w
end Go.Proofs.YtlhicnfeajejhaaGreatDoor
