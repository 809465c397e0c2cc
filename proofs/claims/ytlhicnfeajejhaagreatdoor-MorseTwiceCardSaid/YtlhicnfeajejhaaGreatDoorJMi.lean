/- cells: only, names, Ids. chains: In; slices.ContainsFunc at terms. -/
import Derived.Test.YtlhicnfeajejhaaGreatDoorJMh
set_option maxRecDepth 1000000
set_option maxHeartbeats 16000000
namespace Go.Proofs.YtlhicnfeajejhaaGreatDoor
open Go.RowKit Go.Cx
attribute [local go_sem ↓] Go.wp_at_zero Go.wp_at_succ
theorem qnc (w:World) (x:Ce) (t:TypeId):∀ j u,x.enc[j]? = some u->(w.alloc (.cells #[.int .i64 x.id,.int .i64 x.dim,.slice x.a x.n x.c] t)).cell? ((⟨w.heap.size,0,none⟩ : Addr).add j)=some u:=fun j u hj=>by
 rw[Addr.add_lit,Nat.zero_add,qd];have:(#[Value.int .i64 x.id,.int .i64 x.dim,.slice x.a x.n x.c] : Array Value)[j]? = x.enc[j]?:=by simp[Ce.enc]
 rw[this];exact hj
theorem qnd (T B n:Nat) (v:Value) (m:List Ce) (g:Nat) (cb:Array Value) (f:Ce->Bool) (w:World) (q0:w.cell? ⟨T,0,none⟩=some (.map (some B))) (q1:w.cell? ⟨T,1,none⟩=some v) (hmp:Mp Tryz.prog 3 w B n (gOf m))
  (hv:Sl w 1 v (ints ((xi Ce.id m).map Ce.id))) (hml:m.length<=1099511627776) (hmi:∀ x∈m,I64 x.id)
  (eg:∀ args w,(callFunc g args).run Tryz.prog w = .ok (.enter g args) w) (hf:∀ W,Below w.heap.size w W->∀ x∈m,Calls Tryz.prog g (#[x.v]++cb) W fun e w'=>e = .returned (.bool (f x))/\Below W.heap.size W w') :
  Calls Tryz.prog 170 #[.pointer (some ⟨T,0,none⟩),.func (.func g) #[] cb] w fun e w'=>∃ r,e = .returned (.agg #[r]) ∧
   w'.ownsRow w.heap.size 75 3 r ((xi Ce.id m).filter f).length (cat Ce.enc ((xi Ce.id m).filter f))/\Below w.heap.size w w':=by
 have mixed:Tryz.prog.follows .mixedOrders=true:=by kernel_rfl
 obtain⟨F,hF⟩ : ∃ F,F=xi Ce.id m:=⟨_,rfl⟩
 have hFm:∀ x∈F,x∈m/\gOf m x.id=some x.v:=fun x hx=>by
  rw[hF] at hx;refine⟨qby hx,?_⟩;unfold gOf;rw[q4n (key:=Ce.id) m x hx];rfl
 have hFl:F.length<=1099511627776:=by rw[hF];exact Nat.le_trans (q3c m) hml
 rw[<-hF] at hv ⊢;have HFM:=lhd hFm;have HF:=lhd hf;have HMI:=lhd hmi;clear hF hFm hf hml hmi;obtain⟨a,len,cap,rfl,h2,h3,h4,h5,h6⟩:=hv;unfold maxLen at h3;rw[xl,List.length_map,Nat.mul_one] at h4;have HL:=lhd h4;clear h4;have H5:=lhd h5;clear h5;have H6:=lhd h6;clear h6;have hll:len<=1099511627776:=by rw[<-HL.out];exact hFl
 clear hFl;go_enter Tryz.func170,Tryz.ntmps170;obtain⟨W,hW⟩ : ∃ W:World,W=(w.alloc (.cells #[.slice none 0 0] 26)).alloc (.cells #[.slice none 0 0] 26):=⟨_,rfl⟩
 have hbW:Below w.heap.size w W:=by rw[hW];exact((Below.refl _ _).alloc (nlr _) _).alloc (by simp) _
 have b0:Bv W w.heap.size (.slice none 0 0):=by rw[hW];exact(Bv.new w _ _).alloc _
 have b1:Bv W (w.heap.size+1) (.slice none 0 0):=by rw[hW];have:=Bv.new (w.alloc (.cells #[.slice none 0 0] 26)) (.slice none 0 0) 26;rwa [World.size_alloc] at this
 have hz:W.heap.size=w.heap.size+2:=by rw[hW];simp
 have q0W:=Cx.q8 hbW q0;have q1W:=Cx.q8 hbW q1;have hTl:T < w.heap.size:=World.block_lt_of_cell? w _ q0;have hBl:=hmp.lt;have HMP:=lhd hmp;have Q0:=lhd q0;have q1X:((w.alloc (.cells #[.slice none 0 0] 26)).alloc (.cells #[.slice none 0 0] 26)).cell? ⟨T,1,none⟩=some (.slice a len cap):=by rw[<-hW];exact q1W
 have HW:=lhd hW;clear hmp q0 q1 hW;go_wp2;rw[<-HW.out];clear q1X q1W;go_loopw [7,13] (fun _ i wr=>∃ (k:Nat) (r:Value),i = .int .i64 k/\k<=len/\Bv wr w.heap.size (.slice none 0 0)/\Bv wr (w.heap.size+1) r ∧
  Hid (wr.ownsRow (w.heap.size+2) 75 3 r ((F.take k).filter f).length (cat Ce.enc ((F.take k).filter f)))/\Below w.heap.size w wr/\w.heap.size+2<=wr.heap.size) (fun _ i _=>len - (vI i).toNat)
 case atStart=>exact⟨0,_,rfl,Nat.zero_le _,b0,b1,(show Hid _ from World.ownsRow_nil _ _ _ _),hbW,by omega⟩
 case round =>
  obtain⟨k,r,rfl,hk,hb0,hb1,HR,hB,hzr⟩:=hrel;obtain⟨p0,p1⟩:=hb1;have HB0:=lhd hb0;clear hb0;by_cases hlt:k < len
  ·obtain⟨x,hx⟩ : ∃ x,F[k]? = some x:=⟨_,List.getElem?_eq_getElem (by rw[HL.out];exact hlt)⟩
   obtain⟨ad,rfl⟩ : ∃ ad,a=some ad:=by
    cases a with
    | none=>have:=H5.out rfl;omega
    | some ad=>exact⟨ad,rfl⟩
   have d0:wr.cell? (ad.add k)=some (.int .i64 x.id):=Cx.q8 hB (H6.out ad rfl k _ (by simp[ints,hx]));obtain⟨hxm,hxg⟩:=HFM.out x (List.mem_of_getElem? hx);have hxi:=HMI.out x hxm;have hkey:=q0k (P:=Tryz.prog) (k:=3) Tryz.underlying3 hxi.1 hxi.2;have htk:(F.take (k+1)).filter f=(F.take k).filter f++(if f x=true then [x] else []):=by
    rw[List.take_add_one,hx,List.filter_append];by_cases h:f x=true
    ·simp[h]
    ·simp[h]
   have HTK:=lhd htk;have q0r:wr.cell? ⟨T,0,none⟩=some (.map (some B)):=Cx.q8 hB Q0.out;have hmr:Mp Tryz.prog 3 wr B n (gOf m):=HMP.out.q8 hB;have hlk0:(Instr.lookup 181 (.map (some B)) (.int .i64 x.id) false).run Tryz.prog wr = .ok (.agg #[.int .i64 x.id,.int .i64 x.dim,.slice x.a x.n x.c]) wr:=by
    have:=hmr.look Tryz.underlying3 Tryz.underlying181 (zeroCell _) hkey;rw[hxg] at this;exact this
   have hcall:=HF.out wr hB x hxm;have HC:=lhd hcall;have HMR:=lhd hmr;have HXG:=lhd hxg;clear hx hxm hxg hxi htk hcall hmr;go_wp2_with fail;refine HC.out.mono ?_;rintro e w2 ⟨rfl,hb2⟩;have c0:=Cx.q8 hb2 p0;have c1:w2.frozen? ⟨w.heap.size+1,0,none⟩=false:=qv hb2 (World.block_lt_of_cell? wr _ p0) p1;have t0:=Cx.q8 hb2 q0r;have hm2:=HMR.out.q8 hb2;have hz2:wr.heap.size<=w2.heap.size:=hb2.size;have hrow2:=qa HR.out hb2;have HR2:=lhd hrow2;clear hrow2;have HB2:=lhd hb2;clear hb2;have HMR2:=lhd hm2;clear hm2;by_cases hfx:f x=true
   ·rw[hfx,if_pos rfl] at HTK;have hll2:((F.take k).filter f).length<=k:=Nat.le_trans (List.length_filter_le _ _) (by rw[List.length_take];omega);have hlk2:(Instr.lookup 181 (.map (some B)) (.int .i64 x.id) false).run Tryz.prog w2.drew = .ok (.agg #[.int .i64 x.id,.int .i64 x.dim,.slice x.a x.n x.c]) w2.drew:=by
     have:=Mp.look (w:=w2.drew) HMR2.out Tryz.underlying3 Tryz.underlying181 (zeroCell _) hkey;rw[HXG.out] at this;exact this
    have za:(w2.alloc (.cells #[.int .i64 x.id,.int .i64 x.dim,.slice x.a x.n x.c] 75)).cell? ⟨w.heap.size+1,0,none⟩=some r:=qk c0 _;have fa:(w2.drew.alloc (.cells #[.int .i64 x.id,.int .i64 x.dim,.slice x.a x.n x.c] 75)).frozen? ⟨w.heap.size+1,0,none⟩=false:=qv ((Below.refl _ w2.drew).alloc (nlr _) _) (World.block_lt_of_cell? w2 _ c0) c1;have FA:=lhd fa;clear fa;obtain⟨i0,hi,hz0,hz1,hz2'⟩:=info_parts Tryz.ke;rw[hfx];go_wp2_with fail
    go_region_law (first
     |(refine step_append_lies _ rfl _ _ 24 rfl (w.heap.size+2) 75 i0 _ 3 40 Tryz.underlying24 hi hz0 hz1 hz2' rfl (by decide) _ _ _ rfl ((World.ownsRow.drew HR2.out).alloc _) ⟨w2.heap.size,0,none⟩ 1 1 x.enc rfl rfl (qnc w2.drew x _) (Ce.xu x) (by decide) (by unfold maxLen;omega) (by omega) (by simp;omega) _ rfl ?_;intro g2 cg w6 hown6 hgrow6 hat6 hlt6;have hgrow7:((w2.alloc (.cells #[.int .i64 x.id,.int .i64 x.dim,.slice x.a x.n x.c] 75)).drew).grownBy w6 r.ownBlock:=hgrow6;clear hgrow6 hat6;have b1:w6.cell? ⟨w.heap.size+1,0,none⟩=some r:=ql hgrow7 (qk c0 _) (fun k e=>by have:=(HR2.out.lt k e).1;show w.heap.size+1≠k;omega);have b2:w6.frozen? ⟨w.heap.size+1,0,none⟩=false:=(hgrow7.frozen_far ⟨w.heap.size+1,0,none⟩ (by simp;omega) (fun e=>by have:=(HR2.out.lt (w.heap.size+1) e.symm).1;omega)).trans (FA.out);have F6:=lhd (aiq hown6 hgrow7);clear hown6 hgrow7))
    all_goals
     go_wp2;go_roundw
     case measure=>simp[vI];omega
     case rel =>
      obtain⟨hown6,hgrow7⟩:=F6.out;have hg6z:(w2.alloc (.cells #[.int .i64 x.id,.int .i64 x.dim,.slice x.a x.n x.c] 75)).heap.size<=w6.heap.size:=hgrow7.size;rw[World.size_alloc] at hg6z;have hBa:Below w2.heap.size w2 ((w2.alloc (.cells #[.int .i64 x.id,.int .i64 x.dim,.slice x.a x.n x.c] 75)).drew):=qb ((Below.refl _ w2).alloc (nlr _) _) 1;have hrb:∀ k,r.ownBlock=some k->w.heap.size+2<=k:=fun k e=>(HR2.out.lt k e).1
      have hB2:Below w.heap.size w w2:=hB.trans (HB2.out.mono hB.size);have hB6:Below w.heap.size w w6:=(hB2.trans (hBa.mono hB2.size)).grown hgrow7 (by simp;omega) (fun k e=>by have:=hrb k e;omega);have hb6:Bv w6 w.heap.size (.slice none 0 0):=by
       have h1:=((HB0.out.q8 HB2.out).q8 hBa)
       refine⟨ql hgrow7 h1.1 (fun k e=>by have:=hrb k e;show w.heap.size≠k;omega),?_⟩;exact(hgrow7.frozen_far ⟨w.heap.size,0,none⟩ (World.block_lt_of_cell? _ _ h1.1) (fun e=>by have:=hrb _ e.symm;simp at this;omega)).trans h1.2
      refine⟨k+1,_,qh (by omega),by omega,hb6.other (by show w.heap.size≠w.heap.size+1;omega) _,Bv.put ⟨b1,b2⟩ _,(show Hid _ from ?_),hB6.setCell (show w.heap.size<=w.heap.size+1 by omega) _,by simp[World.setCell];omega⟩;rw[HTK.out,x9,List.length_append,q1c];exact ownsRow_setCell_below hown6 (show w.heap.size+1 < w.heap.size+2 by omega) _
   ·have hff:f x=false:=by simpa using hfx
    rw[hff] at HTK ⊢;have HT2:Hid ((F.take (k+1)).filter f=(F.take k).filter f):=by show _=_;rw[HTK.out];simp
    clear hfx;go_wp2;go_roundw
    case measure=>simp[vI];omega
    case rel =>
     refine⟨k+1,r,qh (by omega),by omega,HB0.out.q8 HB2.out,⟨c0,c1⟩,(show Hid _ from ?_),hB.trans (HB2.out.mono hB.size),by omega⟩;rw[HT2.out];exact HR2.out
  ·have hkl:k=len:=by omega
   have hmt:F.take k=F:=List.take_of_length_le (by rw[HL.out];omega);have HMT:=lhd hmt;clear hmt hkl;obtain⟨a2,cap2,hr2⟩:=qj HR.out;subst hr2;obtain⟨r0,r1⟩:=HB0.out;go_wp2_with fail;refine bodyPost_ret (v:=.agg #[.slice a2 ((F.take k).filter f).length cap2]) (by simp[results,Tryz.results170,go_sem,(Bv.put (w:=wr) (b:=w.heap.size) ⟨r0,r1⟩ (.slice a2 ((F.take k).filter f).length cap2)).1]) rfl ⟨_,rfl,?_,hB.setCell (nlr _) _⟩;have h1:=qf (ownsRow_setCell_below (a:=⟨w.heap.size,0,none⟩) HR.out (by show w.heap.size < _;omega) (.slice a2 ((F.take k).filter f).length cap2)) (show w.heap.size<=w.heap.size+2 by omega);rw[HMT.out] at h1 ⊢;exact h1
theorem qdg (T B n:Nat) (v:Value) (m:List Ce) (g:Nat) (cb:Array Value) (f:Ce->Bool) (w:World) (q0:w.cell? ⟨T,0,none⟩=some (.map (some B))) (q1:w.cell? ⟨T,1,none⟩=some v) (hmp:Mp Tryz.prog 3 w B n (gOf m))
  (hv:Sl w 1 v (ints ((xi Ce.id m).map Ce.id))) (hml:m.length<=1099511627776) (hmi:∀ x∈m,I64 x.id)
  (eg:∀ args w,(callFunc g args).run Tryz.prog w = .ok (.enter g args) w) (hf:∀ W,Below w.heap.size w W->∀ x∈m,Calls Tryz.prog g (#[x.v]++cb) W fun e w'=>e = .returned (.bool (f x))/\Below W.heap.size W w') :
  Calls Tryz.prog 133 #[.pointer (some ⟨T,0,none⟩),.func (.func g) #[] cb] w fun e w'=>∃ r,e = .returned r ∧
   w'.ownsRow w.heap.size 3 1 r ((xi Ce.id m).filter f).length (ints (((xi Ce.id m).filter f).map Ce.id))/\Below w.heap.size w w':=by
 have hcall:=qnd T B n v m g cb f w q0 q1 hmp hv hml hmi eg hf;have hFl:=Nat.le_trans (List.length_filter_le f (xi Ce.id m)) (Nat.le_trans (q3c (key:=Ce.id) m) hml);obtain⟨G,hG⟩ : ∃ G,G=(xi Ce.id m).filter f:=⟨_,rfl⟩
 rw[<-hG] at hcall hFl ⊢;have HC:=lhd hcall;clear q0 q1 hmp hv hml hmi hf hcall hG;go_enter Tryz.func133,Tryz.ntmps133;go_wp2_with fail;refine HC.out.mono ?_;rintro e w1 ⟨r,rfl,hr,hb1⟩;have hB1:=hb1;obtain⟨a',cap',rfl⟩:=qj hr;obtain⟨len,hlen⟩ : ∃ len,len=G.length:=⟨_,rfl⟩
 rw[<-hlen] at hr hFl ⊢;have HR:=lhd (Sl.qc hr);have HL:=lhd hlen;clear hr hlen hb1;have hfd:=q3b a' len cap';go_wp2;go_loopw [5,7,13] (fun o _ i wr=>∃ k:Nat,i = .int .i64 k/\k<=len/\wr.ownsRow w1.heap.size 3 1 o k (ints ((G.take k).map Ce.id))/\Below w.heap.size w wr/\Below w1.heap.size w1 wr) (fun _ _ i _=>len - (vI i).toNat)
 case atStart=>exact⟨0,rfl,Nat.zero_le _,World.ownsRow_nil _ _ _ _,hB1,Below.refl _ _⟩
 case round =>
  obtain⟨k,rfl,hk,hown,hB,hBB⟩:=hrel;by_cases hlt:k < len
  ·obtain⟨x,hx⟩ : ∃ x,G[k]? = some x:=⟨_,List.getElem?_eq_getElem (by rw[<-HL.out];exact hlt)⟩
   obtain⟨h2,h3,h4,h5,h6⟩:=HR.out.open;obtain⟨ad,rfl⟩ : ∃ ad,a'=some ad:=by
    cases a' with
    | none=>have:=h5 rfl;omega
    | some ad=>exact⟨ad,rfl⟩
   obtain⟨e0,e1,e2⟩:=zh G k x hx;have d0:wr.cell? (ad.add (k*3))=some (.int .i64 x.id):=Cx.q8 hBB (h6 ad rfl _ _ e0);have d1:wr.cell? ⟨(ad.add (k*3)).block,(ad.add (k*3)).off+1,none⟩=some (.int .i64 x.dim):=by rw[qi _ _ _ (by omega)];exact Cx.q8 hBB (h6 ad rfl _ _ e1)
   have d2:wr.cell? ⟨(ad.add (k*3)).block,(ad.add (k*3)).off+2,none⟩=some (.slice x.a x.n x.c):=by rw[qi _ _ _ (by omega)];exact Cx.q8 hBB (h6 ad rfl _ _ e2)
   have htk:(G.take (k+1)).map Ce.id=(G.take k).map Ce.id++[x.id]:=by rw[List.take_add_one,hx];simp
   have HTK:=lhd htk;have hst:w.heap.size<=wr.heap.size:=hB.size;have hBw:Below wr.heap.size wr (wr.alloc (.cells #[.int .i64 x.id,.int .i64 x.dim,.slice x.a x.n x.c] 75)):=(Below.refl _ wr).alloc (nlr _) _;have hown2:=hown.alloc (.cells #[.int .i64 x.id,.int .i64 x.dim,.slice x.a x.n x.c] 75);clear h2 h3 h4 h5 h6 e0 e1 e2 hx htk;go_wp2_with (at_builtin;refine qo (W:=w1) rfl _ _ 22 rfl w1.heap.size 3 Tryz.xg Tryz.underlying22 rfl (by decide) (by decide) _ _ _ rfl hown2 [.int .i64 x.id] (by rw[World.size_alloc];rfl) rfl (q5v _) ?bp2 (hBB.trans (hBw.mono hBB.size)) ?bp3 ?_)
   case bp2=>omega
   case bp3=>have:=hBB.size;simp;omega
   intro v3 w3 hr3 hg3 hBB3;have hB3:Below w.heap.size w w3:=hB1.trans (hBB3.mono hB1.size);go_wp2;go_roundw
   case measure=>simp[vI];omega
   case rel=>exact⟨k+1,qh (by omega),by omega,by rw[HTK.out,j3,List.map_take];exact hr3,hB3,hBB3⟩
  ·have hkl:k=len:=by omega
   have hmt:G.take k=G:=List.take_of_length_le (by rw[<-HL.out];omega);have HMT:=lhd hmt;clear hmt;have HKL:=lhd hkl;clear hkl;go_wp2;go_ret;refine⟨_,rfl,?_,hB⟩;rw[HMT.out,HKL.out,HL.out] at hown;exact qf hown hB1.size
theorem qne (x:Ce) (bk:Nat) (dim:Int) (w:World) (hc:w.cell? ⟨bk,0,none⟩=some (.int .i64 dim)) :
  Calls Tryz.prog 134 #[x.v,.pointer (some ⟨bk,0,none⟩)] w fun e w'=>e = .returned (.bool (x.dim == dim))/\Below w.heap.size w w':=by
 have h1:(w.alloc (.cells #[.int .i64 x.id,.int .i64 x.dim,.slice x.a x.n x.c] 75)).cell? ⟨bk,0,none⟩=some (.int .i64 dim):=qk hc _;unfold Ce.v;go_enter Tryz.func134,Tryz.ntmps134;go_wp2;go_ret;exact⟨rfl,(Below.refl _ w).alloc (nlr _) _⟩
theorem qow (v:Value) (l:List Ce) (dim:Int) (w:World) (h:SlC w v l) (hl:l.length<=1099511627776) (hok:COk l) :
  Calls Tryz.prog 77 #[.agg #[v],.int .i64 dim] w fun e w'=>∃ r,e = .returned r/\w'.ownsRow w.heap.size 3 1 r (q04 (l.map Ce.cl) dim).length (ints (q04 (l.map Ce.cl) dim))/\Below w.heap.size w w':=by
 obtain⟨a,n,cap,rfl⟩:=qg h.1;have HH:=lhd h;clear h;have HOK:=lhd hok;clear hok;go_enter Tryz.func77,Tryz.ntmps77;go_wp2_with fail;refine(qnb _ l _ ((HH.out.alloc _).alloc _) hl HOK.out).mono ?_;rintro e w1 ⟨T,rfl,⟨B,n1,v1,m,t1,t2,t3,t4,t5,t6,t7,t8⟩,hb1⟩;simp only [World.size_alloc] at t1 t2 hb1;have hz1:w.heap.size+1+1<=w1.heap.size:=by have:=hb1.size;simpa using this
 have hB1:Below w.heap.size w w1:=(((Below.refl _ w).alloc (nlr _) _).alloc (by simp) _).trans (hb1.mono (by omega));have hd:w1.cell? ⟨w.heap.size+1,0,none⟩=some (.int .i64 dim):=by
  have:=qd (w.alloc (.cells #[.slice a n cap] 26)) #[.int .i64 dim] 3 (0,0) 0;rw[World.size_alloc] at this;exact q1n hb1 (by simp) this
 have hml:m.length<=1099511627776:=by
  have:=congrArg List.length t7;rw[q0z,List.length_map,List.length_map] at this;omega
 have hmi:∀ x∈m,I64 x.id:=fun x hx=>by
  have h1:x.cl∈canon (l.map Ce.cl):=by rw[<-t7];exact List.mem_map_of_mem hx
  obtain⟨y,hy,he⟩:=List.mem_map.1 h1;obtain⟨z,hz,rfl⟩:=List.mem_map.1 ((q2m _ y).1 hy);have h2:=congrArg Cl.id he;have h3:z.id=x.id:=h2;rw[<-h3];exact(HOK.out z hz).1.1
 have hcall:=qdg T B n1 v1 m 134 #[.pointer (some ⟨w.heap.size+1,0,none⟩)] (fun x=>x.dim == dim) w1 t3 t4 t5 t6 hml hmi Tryz.call134 (fun W hW x _=>qne x (w.heap.size+1) dim W (Cx.q8 hW hd));have heq:((xi Ce.id m).filter (fun x=>x.dim == dim)).map Ce.id=q04 (l.map Ce.cl) dim:=by
  unfold q04 cellsOf;rw[<-t7,q63 (key:=Ce.id) Ce.cl (fun _=>rfl),List.filter_map,List.map_map];rfl
 have HC:=lhd hcall;have HEQ:=lhd heq;clear hcall heq t1 t2 t3 t4 t5 t6 t7 t8 hd hml hmi;go_wp2_with fail;refine HC.out.mono ?_;rintro e w2 ⟨r,rfl,hr,hb2⟩;go_wp2;go_ret;refine⟨r,rfl,?_,hB1.trans (hb2.mono hB1.size)⟩;have hlen:=congrArg List.length HEQ.out;rw[List.length_map] at hlen;rw[<-hlen,<-HEQ.out];exact qf hr hB1.size
end Go.Proofs.YtlhicnfeajejhaaGreatDoor
namespace Go.Cx
open Go.RowKit
end Go.Cx
namespace Go.Proofs.YtlhicnfeajejhaaGreatDoor
open Go.RowKit Go.Cx
attribute [local go_sem ↓] Go.wp_at_zero Go.wp_at_succ
def Tm.v (t:Tm):Value:=.agg #[.int .i64 t.c,.bool t.n,.string t.m]
theorem q21 (w:World):(zeroValue 4).run Tryz.prog w = .ok (.bool false) w:=Tryz.zeroValue4 w
end Go.Proofs.YtlhicnfeajejhaaGreatDoor
