/- Steps towards SequenceChecks. Conditions: none. -/
import Derived.Lib.IndexBytes
import Derived.Test.YtmkpbhaoalbhjaaGreatDoorXMc
set_option maxRecDepth 1000000
set_option maxHeartbeats 0
open Go.Value renaming slice→O,agg→I,pointer→σ,bool→τ,int→H,string→ω
open Option renaming none→Z,some→Y
open Go renaming undef→V,World→δ,Value→ε
open Go.IntKind renaming i64→φ
namespace Go.Cx
theorem qa0 (l:List UInt8):qy (l.dropWhile (· == 0))=qy l:=by
 induction l with
 |nil=>rfl
 |cons c l ih =>
  rw[List.dropWhile_cons];by_cases h:c=0
  ·rw[if_pos (by simp[h]),ih,q5l,h];simp
  ·rw[if_neg (by simpa using h)]
theorem qbt (l:List UInt8):∀c t,l.dropWhile (· == 0)=c :: t->c≠0:=by
 induction l with
 |nil=>intro c t h;simp at h
 |cons d l ih =>
  intro c t h;rw[List.dropWhile_cons]at h;by_cases hd:d=0
  ·rw[if_pos (by simp[hd])]at h;exact ih c t h
  ·rw[if_neg (by simpa using hd)]at h;injection h with h1 h2;rw[<-h1];exact hd
theorem qa1 (l:List UInt8):l.dropWhile (· == 0)=bytesOf (qy l):=by rw[<-qa0 l];exact(q30 _ (qbt l)).symm
def wb (x:Nat):List UInt8:=[UInt8.ofNat (x / 16777216),UInt8.ofNat (x / 65536),UInt8.ofNat (x / 256),UInt8.ofNat x]
theorem qgr (x:Nat)(h:x<4294967296):qy (wb x)=x:=by simp[wb,qy,List.foldl];omega
theorem qa2 (zs:List Nat)(h:InR 4294967296 zs)(k:Nat)(hk:k<=zs.length) :
  qy (((List.range k).map fun j=>zs.getD (zs.length-1-j) 0).flatMap wb)=val 4294967296 (zs.drop (zs.length-k)):=by
 induction k with
 |zero=>simp[qy,val]
 |succ k ih =>
  have hi:=ih (by omega);rw[bD,gW,List.flatMap_append,ki,hi];have e1:zs.length-(k+1)=zs.length-1-k:=by omega
  have e2:zs.length-k=zs.length-1-k+1:=by omega
  rw[e1,yj zs (zs.length-1-k) (by omega),<-e2];simp only [List.map_cons,List.map_nil,List.flatMap_cons,List.flatMap_nil,List.append_nil];rw[qgr _ (xr h (by omega) _)];show _*256^4+_=zs.getD _ 0+4294967296*val _ _;omega
theorem q4x (n:Nat):(⟨(bytesOf n).toArray⟩ : ByteArray)=⟨#[]⟩↔n=0:=by
 constructor
 ·intro h;have:=congrArg (fun b:ByteArray=>b.data.toList) h;exact(q03 n).1 (by simpa using this)
 ·intro h;rw[h,q3k]
end Go.Cx
namespace Go.Proofs.YtmkpbhaoalbhjaaGreatDoor
open Go.RowKit Go.Cx
theorem q5t {s t:ByteArray}(h:s.data.toList=t.data.toList):s=t:=by cases s;cases t;simp at h;simp[h]
theorem qey (t:ByteArray):(t.extract 1 t.size).data.toList=t.data.toList.drop 1:=Lib.extract_to_end t 1
theorem qgs (s:ByteArray)(w:δ) :
  Calls Tryz.prog 151 #[ω s,H .u8 0] w fun e w'=>e=.returned (ω ⟨(s.data.toList.dropWhile (· == 0)).toArray⟩)/\w=w':=by
 go_enter Tryz.func151,Tryz.ntmps151;go_wp2
 go_loop [0] (fun v=>∃t:ByteArray,v=ω t/\t.size<=s.size/\t.data.toList.dropWhile (· == 0)=s.data.toList.dropWhile (· == 0)) (fun v=>match v with | ω t=>t.size|_=>0)
 case atStart=>exact⟨s,rfl,nlr _,rfl⟩
 case round =>
  obtain⟨t,rfl,kO,ht⟩:=hrel;have Ht:=lhd ht;clear ht;have hsz:t.data.toList.length=t.size:=by simp
  by_cases h0:0<t.size
  ·have e0:=qjv t 0 h0;have wE:t.data.toList=t[0] :: t.data.toList.drop 1:=by
    rw[e0];cases h:t.data.toList with
    |nil=>rw[h]at hsz;simp at hsz;omega
    |cons c l=>simp
   have qS:=lhd wE;clear wE;have WK:=lhd hsz;clear hsz;clear e0;by_cases hz:t[0]=0
   ·have wF:(((t[0]).toNat:Int) == 0)=true:=by rw[hz];rfl
    have Hz:=lhd hz;clear hz;go_wp2
    go_round
    case rel =>
     refine⟨_,rfl,by simp;omega,?_⟩;rw[qey,<-Ht.out]
     conv=>rhs;rw[qS.out]
     rw[List.dropWhile_cons,if_pos (by rw[Hz.out];rfl)]
    case measure=>simp;omega
   ·have wF:(((t[0]).toNat:Int) == 0)=false:=by simp;intro h;exact hz (by rw[<-UInt8.toNat_inj];simpa using h)
    have Hz:=lhd hz;clear hz;go_wp2;go_ret;refine⟨?_,rfl⟩;refine qbo (congrArg ω (q5t ?_));show _=List.dropWhile _ _;rw[<-Ht.out]
    conv=>rhs;rw[qS.out,List.dropWhile_cons,if_neg (by simpa using Hz.out),<-qS.out]
  ·have C4:t.size=0:=by omega
   go_wp2;go_ret;refine⟨?_,rfl⟩;refine qbo (congrArg ω (q5t ?_));show _=List.dropWhile _ _;rw[<-Ht.out];have:t.data.toList=[]:=List.length_eq_zero_iff.1 (by rw[hsz,C4]);show t.data.toList=_;rw[this];rfl
theorem qez (s:ByteArray)(w:δ) :
  Calls Tryz.prog 125 #[ω s,ω ⟨#[0]⟩] w fun e w'=>e=.returned (ω ⟨(s.data.toList.dropWhile (· == 0)).toArray⟩)/\w=w':=by
 by_cases he:s.data.toList=[]
 ·have ah:s.toList.isEmpty=true:=by rw[Lib.toList_data,he];rfl
  go_enter Tryz.func125,Tryz.ntmps125;go_wp2_with fail;go_ret;refine⟨qbo (congrArg ω (q5t ?_)),rfl⟩;show s.data.toList=_;rw[he];rfl
 ·have ah:s.toList.isEmpty=false:=by rw[Lib.toList_data];simpa using he
  have z0:(((⟨#[0]⟩ : ByteArray)[0]'(by decide)).toNat)=0:=rfl;clear he;go_enter Tryz.func125,Tryz.ntmps125;go_wp2_with fail;refine(qgs _ _).mono ?_;rintro e w' ⟨rfl,rfl⟩;go_wp2_with fail;go_ret;exact⟨rfl,rfl⟩
open Go.Shelf
attribute [local go_sem] Oper.semAt_some
theorem qa3 (n:Nat)(hn:1<=n)(Bs n₀:Nat)(a:Option Addr)(len cap:Nat)(zs:List Nat)(w:δ)(hS:Sl w 1 (O a len cap) (du zs))(hn₀:∀ad,a=Y ad->len≠0->ad.block<n₀)
  (Bi:w Bs=O a len cap) :
  SeqStopsK Fence.wide n Tryz.prog 150 #[σ Bs] (fun x:Nat×Nat=>#[(x.1:Int),H .u64 (x.2:Int)]) (kh n₀ Bs) (fun ys=>ys=back zs zs.length) (fun _=>True) zs.length w:=fun l At Jx W hW _ _ hY h0=>by
 refine(qn3 n hn l Bs n₀ a len cap zs W (hS.keep hW) hn₀ At Jx hY (keep hW Bi) h0).mono ?_;rintro e W' ⟨he,⟨ys,hy,hj⟩|⟨pre,_,hj⟩⟩
 ·exact⟨he,.inl ⟨_,hy,hj⟩⟩
 ·exact⟨he,.inr ⟨_,trivial,hj⟩⟩
theorem qf0 (a:Option Addr)(len cap:Nat)(w:δ) :
  Calls Tryz.prog 124 #[O a len cap] w fun e w'=>e=.returned (.func (.func 150) #[] #[σ w])/\w'=w.alloc (.cells #[O a len cap] 138):=by
 go_enter Tryz.func124,Tryz.ntmps124;go_wp2;go_ret;exact⟨rfl,rfl⟩
def bks (pre:List (Nat×Nat)):List UInt8:=pre.flatMap fun x=>[UInt8.ofNat (x.2 / 16777216),UInt8.ofNat (x.2 / 65536),UInt8.ofNat (x.2 / 256),UInt8.ofNat x.2]
theorem qbu (pre:List (Nat×Nat)):(bks pre).length=4*pre.length:=by
 induction pre with
 |nil=>rfl
 |cons x l ih=>simp only [bks,List.flatMap_cons,List.length_append,List.length_cons,List.length_nil]at *;omega
theorem qgt (pre:List (Nat×Nat))(x:Nat×Nat):bks (pre++[x])=bks pre++[UInt8.ofNat (x.2 / 16777216),UInt8.ofNat (x.2 / 65536),UInt8.ofNat (x.2 / 256),UInt8.ofNat x.2]:=by simp[bks]
theorem qgu (zs:List Nat)(k:Nat):bks (back zs k)=((List.range k).map fun j=>zs.getD (zs.length-1-j) 0).flatMap wb:=by simp[bks,back,wb,List.flatMap_map]
theorem qk2 (zs:List Nat)(rz:InR 4294967296 zs):(bks (back (trim zs) (trim zs).length)).dropWhile (· == 0)=bytesOf (val 4294967296 zs):=by rw[qa1,qgu,qa2 _ (q9o rz) _ (nlr _),Nat.sub_self,List.drop_zero,q9n]
theorem qou (neg:Bool)(n:Nat):wv (sg neg n)=I #[τ (neg && decide (n≠0)),ω ⟨(bytesOf n).toArray⟩]:=by
 show I #[τ (decide (sg neg n<0)),ω (mg (sg neg n))]=_;rw[qme];by_cases h:n=0
 ·subst h;rw[qkq];simp
 ·rw[qgg neg n h];simp[h]
theorem qn4 (n:Nat):((UInt8.ofNat n).toNat:Int)=(n:Int)%256:=by simp
theorem qd9 {w W:δ}{o:Obj}{D:Nat}{q:Bool}{t:ByteArray}{ts:Array ε}{x y:ε}{R:ε}
  (hB:Below (w+1) (w.alloc o) W) (hD:w<=D) (hK:W.heap[D]? =Y (.deferred (Y [])))
  (q0:W w=Y x) (q1:W ⟨w,1,Z⟩=Y y)
  (Jf:∀C1:δ,C1 w=τ q->C1 ⟨w,1,Z⟩=ω t->(results Tryz.f90 ts).run Tryz.prog C1=.ok R C1) :
  bodyPostM Fence.wide 9 Tryz.prog Tryz.f90 (fun e w'=>e=.returned R/\Below w w w') Exit.ret
   { tmps:=ts,defers:=[{ target:=.collected D,args:=#[] }] } ((W.setCell w (τ q)).setCell ⟨w,1,Z⟩ (ω t)):=by
 have oQ:=((KeepsOthers.setCell W w (τ q)).trans (KeepsOthers.setCell _ ⟨w,1,Z⟩ (ω t))).same D _ hK rfl;refine⟨by simp,.inl ⟨_,_,rfl,run_takeDeferred oQ,?_⟩⟩;have k0:=cell_kept (a:=w) ((World.cell?_setCell_other (W.setCell w (τ q)) ⟨w,1,Z⟩ w (ω t) (by simp)).trans (World.cell?_setCell_same' W w (τ q) (by rw[q0];rfl))) (grownBy_putObj' _ D (.deferred Z)) (fun r e=>by cases e;exact⟨_,oQ,rfl⟩);have k1:=cell_kept (a:=⟨w,1,Z⟩) (World.cell?_setCell_same' (W.setCell w (τ q)) ⟨w,1,Z⟩ (ω t) (by rw[World.cell?_setCell_other W w ⟨w,1,Z⟩ _ (by simp),q1];rfl)) (grownBy_putObj' _ D (.deferred Z)) (fun r e=>by cases e;exact⟨_,oQ,rfl⟩);have B1:=(q6s hB (Nat.le_succ _)).setCell (p:=w) (nlr _) (τ q);have B2:=B1.setCell (p:=⟨w,1,Z⟩) (nlr _) (ω t);have B3:=B2.grown (grownBy_putObj' _ D (.deferred Z)) B2.size (fun k hk=>by cases hk;exact hD);exact⟨R,Jf _ k0 k1,rfl,B3⟩
theorem qmg (neg:Bool)(v:ε)(zs:List Nat)(w:δ)(h:Sl w 1 v (du zs))(rz:InR 4294967296 zs)(bz:zs.length<=1099511627776) :
  Calls Tryz.prog 90 #[v,τ neg] w fun e w'=>e=.returned (wv (sg neg (val 4294967296 zs)))/\Below w w w':=by
 rw[qou];refine(callsIn_wide (n:=9)).1 ?_;obtain⟨i0,hi,dv,dB,de⟩:=info_parts Tryz.q4c;refine callsIn_of_wp_marks Tryz.func90 rfl trivial ?_ rfl;simp only [Tryz.ntmps90,List.size_toArray,List.length_cons,List.length_nil,Nat.reduceAdd,Nat.reduceSub,Array.replicate_succ,Array.replicate_zero,List.push_toArray,List.append_toArray,List.nil_append,List.cons_append]
 gi_wp2_with fail
 refine⟨trivial,(callsIn_wide.2 (q7i _ _ _ (h.alloc _))).mono ?_⟩;rintro e w' ⟨u,rfl,hu,rfl⟩;have Jg:=hu;obtain⟨a,len,cap,rfl,h1,h2,h3,h4,h5⟩:=hu;unfold maxLen at h2;rw[q18,gK]at h3;have kO:=q02 zs;have hlen:len<=1099511627776:=by omega
 have H3:=lhd h3;clear h3;have H4:=lhd h4;clear h4;clear h5
 gi_wp2_with (gi_at_make;refine wpListIn_make_own _ rfl _ _ 22 rfl (w+1) 5 i0 (H .u8 0) 1 Tryz.underlying22 hi dv dB _ _ _ (4*len) rfl rfl (by omega) (by rw[de];omega) (by unfold maxLen;omega) (by simp) ?_)
 intro w1 wG qU;have ae:Below (w+1) (w.alloc (.cells #[τ false,ω ⟨#[]⟩] 110)) w1:=(q9).grown qU (by simp) (fun k hk=>by cases hk);have Ng:Sl w1 1 (O a len cap) (du (trim zs)):=Jg.keep (by simpa using ae);clear qU
 gi_wp2_with fail
 refine⟨trivial,(callsIn_wide.2 (qf0 _ _ _ _)).mono ?_⟩;rintro e w' ⟨rfl,rfl⟩
 gi_wp2_with fail
 obtain⟨W2,aY⟩:=x4 ((w1.alloc (.cells #[O (w.heap.size+1:Nat) 0 (4*len)] 22)).alloc (.cells #[O a len cap] 138));rw[<-aY];have QY:W2.heap.size=w1+2:=by rw[aY];simp
 have QZ:w.heap.size+1<=w1:=by have:=ae.size;simpa using this
 have bO:Boxed W2 w1 22 (O (w+1:Nat) 0 (4*len)):=by rw[aY];exact(Boxed.new w1 _ _).alloc _
 have bS:Boxed W2 (w1+1) 138 (O a len cap):=by have:=Boxed.new (w1.alloc (.cells #[O (w+1:Nat) 0 (4*len)] 22)) 138 (O a len cap);rw[World.size_alloc]at this;rw[aY];exact this
 have aj:Below (w+1) (w.alloc (.cells #[τ false,ω ⟨#[]⟩] 110)) W2:=by rw[aY];exact(ae.alloc QZ _).alloc (by simp;omega) _
 have dK:W2.ownsRow (w+1) 5 1 (O (w+1:Nat) 0 (4*len)) 0 []:=by rw[aY];exact(wG.alloc _).alloc _
 have Ra:Sl W2 1 (O a len cap) (du (trim zs)):=by rw[aY];exact(Ng.alloc _).alloc _
 have hblk:∀ad,a=Y ad->len≠0->ad.block<w+1:=by intro ad bR iV;obtain⟨_,_,_,_,h6⟩:=Jg.open;have:=World.block_lt_of_cell? _ _ (h6 ad bR 0 _ (zu (trim zs) 0 (by have:=H3.out;omega)));rw[q7k]at this;simpa using this
 clear aY wG Ng Jg;refine wpIn_rangeFunc_ownG rfl (by omega) (gf:=150) (lb:=#[σ (w1+1:Nat)]) rfl trivial (enters_of Tryz.func150 (by kernel_rfl) rfl)
  (qa3 (9-1) (by omega) (w1+1) (w+1) a len cap (trim zs) W2 Ra hblk bS.cell) (fun h k=>kh.trans h k) (kh.put (by omega) (by omega)) q9 (fun _=>rfl)
  (fun pre W=>((∃v,Boxed W w1 22 v/\W.ownsRow (w+1) 5 1 v (bks pre).length (u8s (bks pre))/\True)/\Boxed W (w1+1) 138 (O a len cap))/\Below (w+1) (w.alloc (.cells #[τ false,ω ⟨#[]⟩] 110)) W)
  (fun _ _ _=>False)
  (OwnFrom.and (OwnFrom.and (Own.from (holdsRow_own (w+1) w1 22 5 1 (fun pre=>(bks pre).length) (fun pre=>u8s (bks pre)) (fun _ _=>True)) _) (Own.from (boxed_own _ _ (fun _=>O a len cap)) _)) (ownFrom_below (by simp) (by omega)))
  (fun _ _ _ _ _ hs _ _=>hs)
  ⟨⟨⟨_,bO,dK,trivial⟩,bS⟩,aj⟩
  (fun x=>{ tmps:=#[O a len cap,τ neg,V,V,σ (Y ⟨w.heap.size,0,Z⟩),
     σ (Y ⟨w1.heap.size,0,Z⟩),V,H .u64 (x.2:Int),V,v,O a len cap,
     O a len cap,H φ (len:Int),H φ (4*(len:Int)),
     O (Y ⟨w.heap.size+1,0,Z⟩) 0 (4*len),O a len cap,
     .func (.func 150) #[] #[σ (Y ⟨w1.heap.size+1,0,Z⟩)],H φ (x.1:Int),H .u64 (x.2:Int),
     V,V,V,V,V,V,V,V,V,V,V,V,V,V,V,
     V,V,V,V,V,V,V,V,V],defers:=[] }) ?assign ?body ?done ?stop
 case assign =>
  intro l x W K hK
  gi_wp2
  exact hK
 case body =>
  rintro l pre x W ⟨⟨⟨v,hv,al,-⟩,nh⟩,hB⟩ ak;have hc:=hv.cell;have bX:=qbu pre;have mi:=kO;have Jh:w.heap.size+1<=W:=gd (by simp) hB.size;have Rb:pre.length<len:=by rw[H3.out]at ak;exact ak
  have Rc:=lhd bX;clear bX;have b4:(bks pre).length<=4398046511104:=by have:=Rc.out;omega
  gi_wp2_with (gi_at_builtin;refine wpListIn_append_own _ rfl _ _ 22 rfl (w+1) 5 i0 (H .u8 0) 1 1 Tryz.underlying22 hi dv dB de rfl (by decide) _ _ _ rfl (al.alloc _) W 4 4 [H .u8 ((x.2:Int) / 16777216%256),H .u8 ((x.2:Int) / 65536%256),H .u8 ((x.2:Int) / 256%256),H .u8 ((x.2:Int)%256)] rfl rfl ?a1 ?a2 ?a3 ?a4 ?a5 ?_)
  case a1=>intro j u hj;rw[Addr.add_lit,Nat.zero_add,qd];simpa using hj
  case a3=>unfold maxLen;omega
  case a4=>omega
  case a5=>simp;omega
  case a2=>intro u hu;simp at hu;rcases hu with rfl|rfl|rfl|rfl <;> rfl
  intro v' w3 wH wI _;obtain⟨g',dQ,rfl⟩:=ownsRow_succ wH;obtain⟨yH,lv,cE,lK,aw⟩:=hv.appended (by decide) al Jh (by omega) wH wI;have C5:=((nh.alloc _).kept wI (nh.not_row (by decide) al)).other (B':=w1) (by omega) (O g' ((bks pre).length+4) dQ);have fx:=yH.cell;have WL:=yH.frozen
  gi_wp2
  refine⟨lK.from _,fun k hk=>?keepS,⟨⟨⟨_,lv,?row,trivial⟩,C5⟩,hB.trans aw⟩⟩
  case row =>rw[qgt,gw];simp only [u8s,List.map_append,List.map_cons,List.map_nil,qn4]at cE ⊢;exact cE
  case keepS =>
   rcases hk with hk|rfl
   ·exact aw.block k hk
   ·exact C5.trans nh.symm
 case done =>
  rintro D ys W hD iT ⟨⟨⟨v,hv,al,-⟩,nh⟩,hB⟩ hK;have hc:=hv.cell;have Jh:w.heap.size+1<=W:=gd (by simp) hB.size;subst iT;have nC:=q1s (P:=Tryz.prog) 22 9 Tryz.underlying22 Tryz.underlying5 Tryz.underlying9 al;have q0:W w=τ false:=(hB.cell (by simp)).trans (qd w _ _ _ 0);have q1:W ⟨w,1,Z⟩=ω ⟨#[]⟩:=(hB.cell (by simp)).trans (qd w _ _ _ 1);have r0:W.frozen? w=false:=(hB.frozen (by simp)).trans (jz (heap_alloc_new w _) 0);have r1:W.frozen? ⟨w,1,Z⟩=false:=(hB.frozen (by simp)).trans (jz (heap_alloc_new w _) 1)
  gi_wp2_with fail
  refine⟨trivial,(callsIn_wide.2 (qez _ _)).mono ?_⟩;rintro e w' ⟨rfl,rfl⟩;simp only [qk2 zs rz];have lx:(⟨(bytesOf (val 4294967296 zs)).toArray⟩ : ByteArray)=⟨#[]⟩↔val 4294967296 zs=0:=q4x _;have nf:(!(bytesOf (val 4294967296 zs)).isEmpty)=decide (val 4294967296 zs≠0):=by
   have:=q03 (val 4294967296 zs);by_cases h0:val 4294967296 zs=0
   ·rw[this.2 h0];simp[h0]
   ·have h1:bytesOf (val 4294967296 zs)≠[]:=fun h=>h0 (this.1 h)
    simp[h0,h1]
  have Hn:=lhd nf;clear nf lx;have Nh:w<=D:=by omega
  cases neg with
  |false =>
   gi_wp2_with fail
   refine qd9 hB Nh hK q0 q1 ?_;intro C1 v0 v1;simp[results,Tryz.f90,go_sem,v0,v1]
  |true =>
   gi_wp2_with fail
   rw[Bool.true_and,<-Hn.out];refine qd9 hB Nh hK q0 q1 ?_;intro C1 v0 v1;simp[results,Tryz.f90,go_sem,v0,v1]
 case stop =>rintro D c pre W _ _ h _;exact h.elim
end Go.Proofs.YtmkpbhaoalbhjaaGreatDoor
namespace Go.Proofs.YtmkpbhaoalbhjaaGreatDoor
open Go.RowKit Go.Cx
attribute [local go_sem ↓] Go.wp_at_zero Go.wp_at_succ
theorem vp (s:ByteArray):(dig 4294967296 (qy s.data.toList)).length<=(s.size+3) / 4:=by
 refine q36 4294967296 (by omega) _ _ ?_;have h1:=q5m s.data.toList;have h3:s.data.toList.length=s.size:=by simp
 rw[h3]at h1;have h2:(256:Nat)^s.size<=256^(4*((s.size+3) / 4)):=bE (by omega) (by omega);rw[Nat.pow_mul,show (256:Nat)^4=4294967296 by decide]at h2;omega
theorem q8g (neg:Bool)(v:ε)(n:Nat)(w:δ)(h:Sl w 1 v (du (dig 4294967296 n)))(bz:(dig 4294967296 n).length<=1099511627776) :
  Calls Tryz.prog 90 #[v,τ neg] w fun e w'=>e=.returned (wv (sg neg n))/\Below w w w':=by
 have:=qmg neg v _ w h (zb 4294967296 (by omega) n) bz
 rwa [xw 4294967296 (by omega)]at this
theorem qn5 (n:Bool)(s:ByteArray)(w:δ)(hs:s.size<=1099511627776) :
  Calls Tryz.prog 161 #[I #[τ n,ω s]] w fun e w'=>e=.returned (ve (iv n s):Int)/\Below w w w':=by
 have jS:=q42 4294967296 (qy s.data.toList) (by omega);go_enter Tryz.func161,Tryz.ntmps161;go_wp2_with fail;obtain⟨W,hW⟩:=x4 (w.alloc (.cells #[τ n,ω s] 110));rw[<-hW];have b0:Bx W w n s:=hW ▸ Bx.new w n s _;have hw:Below w w W:=hW ▸ (q9).alloc (nlr _) _;have hz:w.heap.size+1<=W:=by rw[hW];simp
 clear hW;refine(qgq _ _ _ hs).mono ?_;rintro e w1 ⟨u,rfl,hu,ae⟩;have aF:Below (w+1) W w1:=ae.mono hz;obtain⟨p0,p1,-,-⟩:=b0.keep aF (by omega);obtain⟨a,k,cap,rfl,h1,h2,h3,h4,h5⟩:=hu;unfold maxLen at h2;rw[q18,gK]at h3;have C6:=lhd jS;clear jS;have H3:=lhd h3;clear h3;clear h4 h5;by_cases hk:k=0
 ·subst hk;have h0:iv n s=0:=by have:qy s.data.toList=0:=C6.out.1 (List.length_eq_zero_iff.1 H3.out);rw[jq,this,qkq]
  have H0:=lhd h0;clear h0;go_wp2;go_ret;exact⟨by rw[H0.out];rfl,hw.trans (aF.mono (by omega))⟩
 ·have ox:((k:Int) == 0)=false:=by simp;omega
  have ah:qy s.data.toList≠0:=by intro e;have h:=C6.out.2 e;have h3:=H3.out;rw[h]at h3;exact hk h3.symm
  have Ni:=lhd ah;clear ah;cases n with
  |true =>go_wp2;go_ret;refine⟨?_,hw.trans (aF.mono (by omega))⟩;have:=Ni.out;rw[ve,jq,sg,if_neg (by simp;omega),if_pos (by simp;omega)];rfl
  |false =>go_wp2;go_ret;refine⟨?_,hw.trans (aF.mono (by omega))⟩;have:=Ni.out;rw[ve,jq,sg,if_neg (by simp;omega),if_neg (by simp)];rfl
theorem qmh (n m:Bool)(s t:ByteArray)(w:δ)(hs:s.size<=1099511627775)(ht:t.size<=1099511627775) :
  Calls Tryz.prog 146 #[I #[τ n,ω s],I #[τ m,ω t]] w fun e w'=>e=.returned (wv (iv n s*iv m t))/\Below w w w':=by
 have hl:=vp s;have nc:=vp t;generalize hx:qy s.data.toList=x at *;generalize hy:qy t.data.toList=y at *;have Hx:=lhd hx;clear hx;have Hy:=lhd hy;clear hy;have hxy:(dig 4294967296 (x*y)).length<=1099511627776:=by have h1:=zy 4294967296 (by omega) x;have h2:=zy 4294967296 (by omega) y;have h3:=Nat.mul_lt_mul'' h1 h2;rw[<-Nat.pow_add]at h3;have:=q36 4294967296 (by omega) _ _ h3;omega
 go_enter Tryz.func146,Tryz.ntmps146;go_wp2_with fail;obtain⟨W,hW⟩:=x4 (((w.alloc (.cells #[τ n,ω s] 110)).alloc (.cells #[τ m,ω t] 110)).alloc (.cells #[τ false,ω ⟨#[]⟩] 110));rw[<-hW];have b0:Bx W w n s:=hW ▸ ((Bx.new w n s _).alloc (by simp) _).alloc (by simp;omega) _;have b1:Bx W (w+1) m t:=by rw[hW];have:=Bx.new (w.alloc (.cells #[τ n,ω s] 110)) m t 110;exact(by simpa using this:Bx _ (w+1) m t).alloc (by simp) _
 have b2:Bx W (w+1+1) false ⟨#[]⟩:=by rw[hW];have:=Bx.new ((w.alloc (.cells #[τ n,ω s] 110)).alloc (.cells #[τ m,ω t] 110)) false ⟨#[]⟩ 110;simpa using this
 have hw:Below w w W:=hW ▸ (((q9).alloc (nlr _) _).alloc (by simp) _).alloc (by simp;omega) _;have hz:w.heap.size+3<=W:=by rw[hW];simp
 clear hW;have ⟨p0,p1,_,_⟩:=b0;have ⟨q0,q1,_,_⟩:=b1;have ml:True:=trivial
 go_region_held3 (fun w'=>w' w=τ n/\w' ⟨w,1,Z⟩=ω s/\w' (w+1:Nat)=τ m/\w' ⟨w+1,1,Z⟩=ω t)
  (first|exact⟨by assumption,by assumption,by assumption,by assumption⟩|(refine⟨?_,?_,?_,?_⟩ <;> exact xe (xe (by assumption) (by simp <;> omega)) (by simp <;> omega)))
  (first
   |(go_at_call 91;have _t:=ml;refine(qgq _ _ _ (by omega)).mono ?_;rintro e w1 ⟨u,rfl,hu,ae⟩;rw[Hx.out]at hu;have aF:Below (w+3) W w1:=xt (ae.mono (by simpa using hz));obtain⟨a0,a1,-,-⟩:=b0.keep aF (by omega);obtain⟨a2,a3,-,-⟩:=b1.keep aF (by omega);clear _t ml)
   |(go_at_call 91;refine(qgq _ _ _ (by omega)).mono ?_;rintro e w2 ⟨v,rfl,hv,aj⟩;rw[Hy.out]at hv;have fz:=hu.keep aj;have aI:Below (w+3) W w2:=bump aF hz aj;obtain⟨c0,c1,-,-⟩:=b0.keep aI (by omega);obtain⟨c2,c3,-,-⟩:=b1.keep aI (by omega))
   |(go_at_call 156;refine(qpz _ _ _ _ _ fz hv (zb 4294967296 (by omega) x) (zb 4294967296 (by omega) y) (by omega) (by omega)).mono ?_;rintro e w3 ⟨r,rfl,hr,aw⟩;rw[xw 4294967296 (by omega),xw 4294967296 (by omega)]at hr;have aJ:Below (w+3) W w3:=bump aI hz aw;obtain⟨d0,d1,-,-⟩:=b0.keep aJ (by omega);obtain⟨d2,d3,-,-⟩:=b1.keep aJ (by omega))
   |(go_at_call 90;refine(q8g _ _ _ _ hr hxy).mono ?_;rintro e w4 ⟨rfl,aN⟩;have iD:Below (w+3) W w4:=bump aJ hz aN;obtain⟨s0,s1,-,-⟩:=b0.keep iD (by omega);obtain⟨s2,s3,-,-⟩:=b1.keep iD (by omega);obtain⟨t0,t1,t2,t3⟩:=b2.keep iD (by omega)))
 go_wp2;have C7:(!(n == m))=(n != m):=by cases n <;> cases m <;> rfl
 refine bodyPost_ret (v:=wv (sg (!(n == m)) (x*y))) (by simp[results,Tryz.results146,go_sem,t0,t1]) rfl ⟨?_,?_⟩
 ·rw[C7,qgl,jq,jq,Hx.out,Hy.out]
 ·exact((hw.trans (iD.mono (by omega))).setCell (by simp <;> omega) _).setCell (by simp <;> omega) _
theorem qa4 (B:Nat)(hB:2<=B)(x y K:Nat)(hx:(dig B x).length<=K)(hy:(dig B y).length<=K):(dig B (x+y)).length<=K+1:=by have h1:=zy B hB x;have h2:=zy B hB y;refine q36 B hB _ _ ?_;have h3:B^(dig B x).length<=B^K:=bE (by omega) hx;have h4:B^(dig B y).length<=B^K:=bE (by omega) hy;have h5:B^K*2<=B^K*B:=Nat.mul_le_mul_left _ hB;rw[Nat.pow_succ];omega
theorem qov (n m:Bool)(s t:ByteArray)(w:δ)(hs:s.size<=1099511627776)(ht:t.size<=1099511627776) :
  Calls Tryz.prog 164 #[I #[τ n,ω s],I #[τ m,ω t]] w fun e w'=>e=.returned (wv (iv n s+iv m t))/\Below w w w':=by
 have hl:=vp s;have nc:=vp t;generalize hx:qy s.data.toList=x at *;generalize hy:qy t.data.toList=y at *;have Hx:=lhd hx;clear hx;have Hy:=lhd hy;clear hy;have cC:(dig 4294967296 (x+y)).length<=1099511627776:=gd (qa4 4294967296 (by omega) x y 1099511627775 (by omega) (by omega)) (by omega);go_enter Tryz.func164,Tryz.ntmps164;go_wp2_with fail;obtain⟨W,hW⟩:=x4 (((w.alloc (.cells #[τ n,ω s] 110)).alloc (.cells #[τ m,ω t] 110)).alloc (.cells #[τ false,ω ⟨#[]⟩] 110));rw[<-hW];have b0:Bx W w n s:=hW ▸ ((Bx.new w n s _).alloc (by simp) _).alloc (by simp;omega) _;have b1:Bx W (w+1) m t:=by rw[hW];have:=Bx.new (w.alloc (.cells #[τ n,ω s] 110)) m t 110;exact(by simpa using this:Bx _ (w+1) m t).alloc (by simp) _
 have b2:Bx W (w+1+1) false ⟨#[]⟩:=by rw[hW];have:=Bx.new ((w.alloc (.cells #[τ n,ω s] 110)).alloc (.cells #[τ m,ω t] 110)) false ⟨#[]⟩ 110;simpa using this
 have hw:Below w w W:=hW ▸ (((q9).alloc (nlr _) _).alloc (by simp) _).alloc (by simp;omega) _;have hz:w.heap.size+3<=W:=by rw[hW];simp
 clear hW;have ⟨p0,p1,_,_⟩:=b0;have ⟨q0,q1,_,_⟩:=b1;have ml:True:=trivial
 go_region_held3 (fun w'=>w' w=τ n/\w' ⟨w,1,Z⟩=ω s/\w' (w+1:Nat)=τ m/\w' ⟨w+1,1,Z⟩=ω t)
  (first|exact⟨by assumption,by assumption,by assumption,by assumption⟩|(refine⟨?_,?_,?_,?_⟩ <;> exact xe (xe (by assumption) (by simp <;> omega)) (by simp <;> omega)))
  (first
   |(go_at_call 91;have _t:=ml;refine(qgq _ _ _ (by omega)).mono ?_;rintro e w1 ⟨u,rfl,hu,ae⟩;rw[Hx.out]at hu;have aF:Below (w+3) W w1:=xt (ae.mono (by simpa using hz));obtain⟨a0,a1,-,-⟩:=b0.keep aF (by omega);obtain⟨a2,a3,-,-⟩:=b1.keep aF (by omega);clear _t ml)
   |(go_at_call 91;refine(qgq _ _ _ (by omega)).mono ?_;rintro e w2 ⟨v,rfl,hv,aj⟩;rw[Hy.out]at hv;have fz:=hu.keep aj;have aI:Below (w+3) W w2:=bump aF hz aj;obtain⟨f0,f1,-,-⟩:=b0.keep aI (by omega);obtain⟨f2,f3,-,-⟩:=b1.keep aI (by omega)))
 have de:w.heap.size+3<=w2:=gd hz aI.size;have c0:=b0.keep aI (by omega);have c1:=b1.keep aI (by omega);have c2:=b2.keep aI (by omega);have ⟨q0,q1,_,_⟩:=c0;have ⟨r0,r1,_,_⟩:=c1;by_cases oy:n=m
 ·subst oy;have G8:(n == n)=true:=by simp
  go_wp2_with fail
  go_region_held3 (fun w'=>w' w=τ n) (first|assumption|exact xe (xe (by assumption) (by simp <;> omega)) (by simp <;> omega))
   (first
    |(go_at_call 93;refine(qpy _ _ _ _ _ fz.drew hv.drew (zb 4294967296 (by omega) x) (zb 4294967296 (by omega) y) (by omega) (by omega)).mono ?_;rintro e w3 ⟨r,rfl,hr,aw⟩;rw[xw 4294967296 (by omega),xw 4294967296 (by omega)]at hr;have aJ:Below (w+3) w2 w3:=xt (aw.mono (by simpa using de));obtain⟨a0,-,-,-⟩:=c0.keep aJ (by omega))
    |(go_at_call 90;refine(q8g _ _ _ _ hr cC).mono ?_;rintro e w4 ⟨rfl,aN⟩;have iD:Below (w+3) w2 w4:=bump aJ de aN;obtain⟨s0,-,-,-⟩:=c0.keep iD (by omega);obtain⟨t0,t1,t2,t3⟩:=c2.keep iD (by omega)))
  go_wp2;refine bodyPost_ret (v:=wv (sg n (x+y))) (by simp[results,Tryz.results164,go_sem,t0,t1]) rfl ⟨?_,?_⟩
  ·rw[qgk,jq,jq,Hx.out,Hy.out]
  ·exact((hw.trans ((aI.trans iD).mono (by omega))).setCell (by simp <;> omega) _).setCell (by simp <;> omega) _
 ·have G8:(n == m)=false:=by simpa using oy
  go_wp2_with fail;refine(qpx _ _ x y _ fz hv).mono ?_;rintro e w3 ⟨rfl,aw⟩;have aJ:Below (w+3) w2 w3:=aw.mono de;have iP:w.heap.size+3<=w3:=gd de aJ.size;have Nj:=fz.keep aw;have Bl:=hv.keep aw;have d0:=c0.keep aJ (by omega);have d1:=c1.keep aJ (by omega);have d2:=c2.keep aJ (by omega);clear q0 q1 r0 r1;have ⟨q0,q1,_,_⟩:=d0;have ⟨r0,r1,_,_⟩:=d1;by_cases hxy:y<=x
  ·have fX:=qd6 hxy;go_wp2_with fail
   go_region_held3 (fun w'=>w' w=τ n) (first|assumption|exact xe (xe (by assumption) (by simp <;> omega)) (by simp <;> omega))
    (first
     |(go_at_call 94;refine(qot _ _ _ _ _ Nj.drew Bl.drew hxy (by omega)).mono ?_;rintro e w4 ⟨r,rfl,hr,aN⟩;have iD:Below (w+3) w3 w4:=xt (aN.mono (by simpa using iP));obtain⟨a0,-,-,-⟩:=d0.keep iD (by omega))
     |(go_at_call 90;refine(q8g _ _ _ _ hr (gd (j4 4294967296 (by omega) _ _ (Nat.sub_le x y)) (by omega))).mono ?_;rintro e w5 ⟨rfl,aC⟩;have aS:Below (w+3) w3 w5:=bump iD iP aC;obtain⟨s0,-,-,-⟩:=d0.keep aS (by omega);obtain⟨t0,t1,t2,t3⟩:=d2.keep aS (by omega)))
   go_wp2;refine bodyPost_ret (v:=wv (sg n (x-y))) (by simp[results,Tryz.results164,go_sem,t0,t1]) rfl ⟨?_,?_⟩
   ·rw[q8f n m x y oy hxy,jq,jq,Hx.out,Hy.out]
   ·exact((hw.trans (((aI.trans aJ).trans aS).mono (by omega))).setCell (by simp <;> omega) _).setCell (by simp <;> omega) _
  ·have fX:=q9x (show x<y by omega);go_wp2_with fail
   go_region_held3 (fun w'=>w' (w+1:Nat)=τ m) (first|assumption|exact xe (xe (by assumption) (by simp <;> omega)) (by simp <;> omega))
    (first
     |(go_at_call 94;refine(qot _ _ _ _ _ Bl.drew Nj.drew (by omega) (by omega)).mono ?_;rintro e w4 ⟨r,rfl,hr,aN⟩;have iD:Below (w+3) w3 w4:=xt (aN.mono (by simpa using iP));obtain⟨a0,-,-,-⟩:=d1.keep iD (by omega))
     |(go_at_call 90;refine(q8g _ _ _ _ hr (gd (j4 4294967296 (by omega) _ _ (Nat.sub_le y x)) (by omega))).mono ?_;rintro e w5 ⟨rfl,aC⟩;have aS:Below (w+3) w3 w5:=bump iD iP aC;obtain⟨s0,-,-,-⟩:=d1.keep aS (by omega);obtain⟨t0,t1,t2,t3⟩:=d2.keep aS (by omega)))
   go_wp2;refine bodyPost_ret (v:=wv (sg m (y-x))) (by simp[results,Tryz.results164,go_sem,t0,t1]) rfl ⟨?_,?_⟩
   ·rw[q8f m n y x (fun e=>oy e.symm) (by omega),jq,jq,Hx.out,Hy.out,Int.add_comm]
   ·exact((hw.trans (((aI.trans aJ).trans aS).mono (by omega))).setCell (by simp <;> omega) _).setCell (by simp <;> omega) _
end Go.Proofs.YtmkpbhaoalbhjaaGreatDoor
namespace Go.Proofs.YtmkpbhaoalbhjaaGreatDoor
open Go.RowKit Go.Cx
theorem Sl.lit (w:δ)(t:TypeId)(xs:List ε)(hx:xs.length<=1099511627776):Sl (w.alloc (.cells xs.toArray t)) 1 (O w xs.length xs.length) xs :=
 ⟨_,_,_,rfl,nlr _,by unfold maxLen;omega,by simp,fun h=>by simp at h,fun a ha i u hu=>by
  injection ha with ha;subst ha
  rw[Addr.add_lit,Nat.zero_add,qd];simpa using hu⟩
theorem val_two (y:Nat):val 4294967296 [y%4294967296,y / 4294967296]=y:=by simp only [val];omega
theorem qgv (x:Int)(w:δ)(h1 : -9223372036854775808<=x)(h2:x<=9223372036854775807) :
  Calls Tryz.prog 64 #[x] w fun e w'=>e=.returned (wv x)/\Below w w w':=by
 have ug:sg (decide (x<0)) x.natAbs=x:=by
  unfold sg;by_cases h:x<0
  ·rw[if_pos (by simpa using h)];omega
  ·rw[if_neg (by simpa using h)];omega
 have Re:=lhd ug;clear ug;have h0:∃y:Nat,x.natAbs=y/\y<=9223372036854775808:=⟨_,rfl,by omega⟩
 obtain⟨y,hy,G9⟩:=h0;have hand:bits BinOp.and .u64 (y:Int) 4294967295=(y:Int)%4294967296:=q9y y (by omega);by_cases hx:x<0
 all_goals
  go_enter Tryz.func64,Tryz.ntmps64;go_wp2_with fail
  first
   |rw[qd7 x h1 hx,hy]
   |(have hxy:x=(y:Int):=by omega
     subst hxy)
  rw[hand];have hS:Sl ((w.alloc (.cells #[τ false,ω ⟨#[]⟩] 110)).alloc (.cells #[H .u64 ((y:Int)%4294967296),H .u64 ((y:Int) / 4294967296)] 135)) 1 (O (w+1:Nat) 2 2) (du [y%4294967296,y / 4294967296]):=by
   have:=Sl.lit (w.alloc (.cells #[τ false,ω ⟨#[]⟩] 110)) 135 [H .u64 ((y:Int)%4294967296),H .u64 ((y:Int) / 4294967296)] (by simp);rw[show (w.alloc (.cells #[τ false,ω ⟨#[]⟩] 110)).heap.size=w+1 by simp]at this;have e:du [y%4294967296,y / 4294967296]=[H .u64 ((y:Int)%4294967296),H .u64 ((y:Int) / 4294967296)]:=by simp[du]
   rw[e];exact this
  refine(qmg _ _ [y%4294967296,y / 4294967296] _ hS (q9m (Nat.mod_lt _ (by omega)) (q2g (by omega))) (by simp)).mono ?_;rintro e w2 ⟨rfl,aj⟩;rw[val_two];have aI:Below (w+1) (w.alloc (.cells #[τ false,ω ⟨#[]⟩] 110)) w2:=((q9).alloc (by simp) _).trans (aj.mono (by simp));obtain⟨t0,t1,t2,t3⟩:=(Bx.new w false ⟨#[]⟩ 110).keep aI (by omega);go_wp2_with fail;have hB:=(q6s aI (Nat.le_succ _):Below w w w2)
  first
   |(refine bodyPost_ret (v:=wv (sg true y)) ?_ rfl ⟨?_,(hB.setCell (by simp) _).setCell (by simp) _⟩
     ·(simp[results,Tryz.results64,go_sem,t0,t1];done))
   |(refine bodyPost_ret (v:=wv (sg false y)) ?_ rfl ⟨?_,(hB.setCell (by simp) _).setCell (by simp) _⟩
     ·(simp[results,Tryz.results64,go_sem,t0,t1];done))
  have e:=Re.out
  first
   |(rw[hy,show decide (x<0)=true by simpa using hx]at e;rw[e])
   |(rw[Int.natAbs_natCast,show decide ((y:Int)<0)=false by simp]at e;rw[e])
