/- Steps towards MorseChecks. Conditions: none. -/
import Derived.Lib.IndexBytes
import Derived.Test.YtlhicnfeajejhaaGreatDoorFMc
set_option maxRecDepth 1000000
set_option maxHeartbeats 16000000
namespace Go.Cx
theorem qa0 (l:List UInt8):qy (l.dropWhile (· == 0))=qy l:=by
 induction l with
 | nil=>rfl
 | cons c l ih =>
  rw[List.dropWhile_cons];by_cases h:c=0
  ·rw[if_pos (by simp[h]),ih,q5l,h];simp
  ·rw[if_neg (by simpa using h)]
theorem qbt (l:List UInt8):∀ c t,l.dropWhile (· == 0)=c :: t->c≠0:=by
 induction l with
 | nil=>intro c t h;simp at h
 | cons d l ih =>
  intro c t h;rw[List.dropWhile_cons] at h;by_cases hd:d=0
  ·rw[if_pos (by simp[hd])] at h;exact ih c t h
  ·rw[if_neg (by simpa using hd)] at h;injection h with h1 h2;rw[<-h1];exact hd
theorem qa1 (l:List UInt8):l.dropWhile (· == 0)=bytesOf (qy l):=by
 rw[<-qa0 l];exact(q30 _ (qbt l)).symm
def wb (x:Nat):List UInt8:=[UInt8.ofNat (x / 16777216),UInt8.ofNat (x / 65536),UInt8.ofNat (x / 256),UInt8.ofNat x]
theorem qgr (x:Nat) (h:x < 4294967296):qy (wb x)=x:=by
 simp[wb,qy,List.foldl];omega
theorem qa2 (zs:List Nat) (h:InR 4294967296 zs) (k:Nat) (hk:k<=zs.length) :
  qy (((List.range k).map fun j=>zs.getD (zs.length - 1 - j) 0).flatMap wb)=val 4294967296 (zs.drop (zs.length - k)):=by
 induction k with
 | zero=>simp[qy,val]
 | succ k ih =>
  have hi:=ih (by omega);rw[bp,bo,List.flatMap_append,ki,hi];have e1:zs.length - (k+1)=zs.length - 1 - k:=by omega
  have e2:zs.length - k=zs.length - 1 - k+1:=by omega
  rw[e1,yj zs (zs.length - 1 - k) (by omega),<-e2];simp only [List.map_cons,List.map_nil,List.flatMap_cons,List.flatMap_nil,List.append_nil];rw[qgr _ (xr h (by omega) _)];show _*256 ^ 4+_=zs.getD _ 0+4294967296*val _ _;omega
theorem q4x (n:Nat):(⟨(bytesOf n).toArray⟩ : ByteArray)=⟨#[]⟩↔n=0:=by
 constructor
 ·intro h;have:=congrArg (fun b:ByteArray=>b.data.toList) h;exact(q03 n).1 (by simpa using this)
 ·intro h;rw[h,q3k]
end Go.Cx
namespace Go.Proofs.YtlhicnfeajejhaaGreatDoor
open Go.RowKit Go.Cx
theorem q5t {s t:ByteArray} (h:s.data.toList=t.data.toList):s=t:=by
 cases s;cases t;simp at h;simp[h]
theorem qey (t:ByteArray):(t.extract 1 t.size).data.toList=t.data.toList.drop 1:=Lib.extract_to_end t 1
theorem qgs (s:ByteArray) (w:World) :
  Calls Tryz.prog 193 #[.string s,.int .u8 0] w fun e w'=>e = .returned (.string ⟨(s.data.toList.dropWhile (· == 0)).toArray⟩)/\w=w':=by
 go_enter Tryz.func193,Tryz.ntmps193;go_wp2
 go_loop [0] (fun v=>∃ t:ByteArray,v = .string t/\t.size<=s.size/\t.data.toList.dropWhile (· == 0)=s.data.toList.dropWhile (· == 0)) (fun v=>match v with | .string t=>t.size | _=>0)
 case atStart=>exact⟨s,rfl,nlr _,rfl⟩
 case round =>
  obtain⟨t,rfl,oM,ht⟩:=hrel;have Ht:=lhd ht;clear ht;have ao:t.data.toList.length=t.size:=by simp
  by_cases h0:0 < t.size
  ·have e0:=qjv t 0 h0;have tF:t.data.toList=t[0] :: t.data.toList.drop 1:=by
    rw[e0];cases h:t.data.toList with
    | nil=>rw[h] at ao;simp at ao;omega
    | cons c l=>simp
   have oO:=lhd tF;clear tF;have Va:=lhd ao;clear ao;clear e0;by_cases hz:t[0]=0
   ·have Qe:(((t[0]).toNat:Int) == 0)=true:=by rw[hz];rfl
    have Hz:=lhd hz;clear hz;go_wp2
    go_round
    case rel =>
     refine⟨_,rfl,by simp;omega,?_⟩;rw[qey,<-Ht.out]
     conv=>rhs;rw[oO.out]
     rw[List.dropWhile_cons,if_pos (by rw[Hz.out];rfl)]
    case measure=>simp;omega
   ·have Qe:(((t[0]).toNat:Int) == 0)=false:=by
     simp;intro h;exact hz (by rw[<-UInt8.toNat_inj];simpa using h)
    have Hz:=lhd hz;clear hz;go_wp2;go_ret;refine⟨?_,rfl⟩;refine qbo (congrArg Value.string (q5t ?_));show _=List.dropWhile _ _;rw[<-Ht.out]
    conv=>rhs;rw[oO.out,List.dropWhile_cons,if_neg (by simpa using Hz.out),<-oO.out]
  ·have Qf:t.size=0:=by omega
   go_wp2;go_ret;refine⟨?_,rfl⟩;refine qbo (congrArg Value.string (q5t ?_));show _=List.dropWhile _ _;rw[<-Ht.out];have:t.data.toList=[]:=List.length_eq_zero_iff.1 (by rw[ao,Qf]);show t.data.toList=_;rw[this];rfl
theorem qez (s:ByteArray) (w:World) :
  Calls Tryz.prog 177 #[.string s,.string ⟨#[0]⟩] w fun e w'=>e = .returned (.string ⟨(s.data.toList.dropWhile (· == 0)).toArray⟩)/\w=w':=by
 by_cases he:s.data.toList=[]
 ·have ak:s.toList.isEmpty=true:=by rw[Lib.toList_data,he];rfl
  go_enter Tryz.func177,Tryz.ntmps177;go_wp2_with fail;go_ret;refine⟨qbo (congrArg Value.string (q5t ?_)),rfl⟩;show s.data.toList=_;rw[he];rfl
 ·have ak:s.toList.isEmpty=false:=by rw[Lib.toList_data];simpa using he
  have z0:(((⟨#[0]⟩ : ByteArray)[0]'(by decide)).toNat)=0:=rfl;clear he;go_enter Tryz.func177,Tryz.ntmps177;go_wp2_with fail;refine(qgs _ _).mono ?_;rintro e w' ⟨rfl,rfl⟩;go_wp2_with fail;go_ret;exact⟨rfl,rfl⟩
open Go.Shelf
attribute [local go_sem] Oper.semAt_some
theorem qa3 (n:Nat) (hn:1<=n) (Bs n₀:Nat) (a:Option Addr) (len cap:Nat) (zs:List Nat) (w:World) (hS:Sl w 1 (.slice a len cap) (du zs)) (hn₀:∀ ad,a=some ad->len≠0->ad.block < n₀)
  (zN:w.cell? ⟨Bs,0,none⟩=some (.slice a len cap)) :
  SeqStopsK Fence.wide n Tryz.prog 192 #[.pointer (some ⟨Bs,0,none⟩)] (fun x:Nat×Nat=>#[Value.int .i64 (x.1:Int),.int .u64 (x.2:Int)]) (kh n₀ Bs) (fun ys=>ys=back zs zs.length) (fun _=>True) zs.length w:=fun l J Jx W hW _ _ hY h0=>by
 refine(qn3 n hn l Bs n₀ a len cap zs W (hS.q8 hW) hn₀ J Jx hY (q8 hW zN) h0).mono ?_;rintro e W' ⟨he,⟨ys,hy,hj⟩ | ⟨pre,_,hj⟩⟩
 ·exact⟨he,.inl ⟨_,hy,hj⟩⟩
 ·exact⟨he,.inr ⟨_,trivial,hj⟩⟩
theorem qf0 (a:Option Addr) (len cap:Nat) (w:World) :
  Calls Tryz.prog 176 #[.slice a len cap] w fun e w'=>e = .returned (.func (.func 192) #[] #[.pointer (some ⟨w.heap.size,0,none⟩)])/\w'=w.alloc (.cells #[.slice a len cap] 164):=by
 go_enter Tryz.func176,Tryz.ntmps176;go_wp2;go_ret;exact⟨rfl,rfl⟩
def bks (pre:List (Nat×Nat)):List UInt8:=pre.flatMap fun x=>[UInt8.ofNat (x.2 / 16777216),UInt8.ofNat (x.2 / 65536),UInt8.ofNat (x.2 / 256),UInt8.ofNat x.2]
theorem qbu (pre:List (Nat×Nat)):(bks pre).length=4*pre.length:=by
 induction pre with
 | nil=>rfl
 | cons x l ih=>simp only [bks,List.flatMap_cons,List.length_append,List.length_cons,List.length_nil] at *;omega
theorem qgt (pre:List (Nat×Nat)) (x:Nat×Nat):bks (pre++[x])=bks pre++[UInt8.ofNat (x.2 / 16777216),UInt8.ofNat (x.2 / 65536),UInt8.ofNat (x.2 / 256),UInt8.ofNat x.2]:=by simp[bks]
theorem qgu (zs:List Nat) (k:Nat):bks (back zs k)=((List.range k).map fun j=>zs.getD (zs.length - 1 - j) 0).flatMap wb:=by
 simp[bks,back,wb,List.flatMap_map]
theorem qk2 (zs:List Nat) (rz:InR 4294967296 zs):(bks (back (trim zs) (trim zs).length)).dropWhile (· == 0)=bytesOf (val 4294967296 zs):=by
 rw[qa1,qgu,qa2 _ (q9o rz) _ (nlr _),Nat.sub_self,List.drop_zero,q9n]
theorem qou (neg:Bool) (n:Nat):wv (sg neg n) = .agg #[.bool (neg && decide (n≠0)),.string ⟨(bytesOf n).toArray⟩]:=by
 show Value.agg #[.bool (decide (sg neg n < 0)),.string (mg (sg neg n))]=_;rw[qme];by_cases h:n=0
 ·subst h;rw[q57];simp
 ·rw[qgg neg n h];simp[h]
theorem qn4 (n:Nat):((UInt8.ofNat n).toNat:Int)=(n:Int) % 256:=by simp
theorem qd9 {w W:World} {o:Obj} {D:Nat} {q:Bool} {t:ByteArray} {ts:Array Value} {x y:Value} {R:Value}
  (hB:Below (w.heap.size+1) (w.alloc o) W) (hD:w.heap.size<=D) (hK:W.heap[D]? = some (.deferred (some [])))
  (q0:W.cell? ⟨w.heap.size,0,none⟩=some x) (q1:W.cell? ⟨w.heap.size,1,none⟩=some y)
  (Gm:∀ V:World,V.cell? ⟨w.heap.size,0,none⟩=some (.bool q)->V.cell? ⟨w.heap.size,1,none⟩=some (.string t)->(results Tryz.f145 ts).run Tryz.prog V = .ok R V) :
  bodyPostM Fence.wide 9 Tryz.prog Tryz.f145 (fun e w'=>e = .returned R/\Below w.heap.size w w') Exit.ret
   { tmps:=ts,defers:=[{ target:=.collected D,args:=#[] }] } ((W.setCell ⟨w.heap.size,0,none⟩ (.bool q)).setCell ⟨w.heap.size,1,none⟩ (.string t)):=by
 have oQ:=((KeepsOthers.setCell W ⟨w.heap.size,0,none⟩ (.bool q)).trans (KeepsOthers.setCell _ ⟨w.heap.size,1,none⟩ (.string t))).same D _ hK rfl;refine⟨by simp,.inl ⟨_,_,rfl,run_takeDeferred oQ,?_⟩⟩;have k0:=cell_kept (a:=⟨w.heap.size,0,none⟩) ((World.cell?_setCell_other (W.setCell ⟨w.heap.size,0,none⟩ (.bool q)) ⟨w.heap.size,1,none⟩ ⟨w.heap.size,0,none⟩ (.string t) (by simp)).trans (World.cell?_setCell_same' W ⟨w.heap.size,0,none⟩ (.bool q) (by rw[q0];rfl))) (grownBy_putObj' _ D (.deferred none)) (fun r e=>by cases e;exact⟨_,oQ,rfl⟩);have k1:=cell_kept (a:=⟨w.heap.size,1,none⟩) (World.cell?_setCell_same' (W.setCell ⟨w.heap.size,0,none⟩ (.bool q)) ⟨w.heap.size,1,none⟩ (.string t) (by rw[World.cell?_setCell_other W ⟨w.heap.size,0,none⟩ ⟨w.heap.size,1,none⟩ _ (by simp),q1];rfl)) (grownBy_putObj' _ D (.deferred none)) (fun r e=>by cases e;exact⟨_,oQ,rfl⟩);have B1:=(vv hB (Nat.le_succ _)).setCell (p:=⟨w.heap.size,0,none⟩) (nlr _) (.bool q);have B2:=B1.setCell (p:=⟨w.heap.size,1,none⟩) (nlr _) (.string t);have B3:=B2.grown (grownBy_putObj' _ D (.deferred none)) B2.size (fun k hk=>by cases hk;exact hD);exact⟨R,Gm _ k0 k1,rfl,B3⟩
theorem qmg (neg:Bool) (v:Value) (zs:List Nat) (w:World) (h:Sl w 1 v (du zs)) (rz:InR 4294967296 zs) (bz:zs.length<=1099511627776) :
  Calls Tryz.prog 145 #[v,.bool neg] w fun e w'=>e = .returned (wv (sg neg (val 4294967296 zs)))/\Below w.heap.size w w':=by
 rw[qou];refine(callsIn_wide (n:=9)).1 ?_;obtain⟨i0,hi,bL,bT,cp⟩:=info_parts Tryz.q4c;refine callsIn_of_wp_marks Tryz.func145 rfl trivial ?_ rfl;simp only [Tryz.ntmps145,List.size_toArray,List.length_cons,List.length_nil,Nat.reduceAdd,Nat.reduceSub,Array.replicate_succ,Array.replicate_zero,List.push_toArray,List.append_toArray,List.nil_append,List.cons_append]
 gi_wp2_with fail
 refine⟨trivial,(callsIn_wide.2 (q7i _ _ _ (h.alloc _))).mono ?_⟩;rintro e w' ⟨u,rfl,hu,rfl⟩;have Gn:=hu;obtain⟨a,len,cap,rfl,h1,h2,h3,h4,h5⟩:=hu;unfold maxLen at h2;rw[q18,gK] at h3;have oM:=q02 zs;have hlen:len<=1099511627776:=by omega
 have H3:=lhd h3;clear h3;have H4:=lhd h4;clear h4;clear h5
 gi_wp2_with (gi_at_make;refine wpListIn_make_own _ rfl _ _ 170 rfl (w.heap.size+1) 5 i0 (.int .u8 0) 1 Tryz.underlying170 hi bL bT _ _ _ (4*len) rfl rfl (by omega) (by rw[cp];omega) (by unfold maxLen;omega) (by simp) ?_)
 intro w1 bX fl;have ai:Below (w.heap.size+1) (w.alloc (.cells #[.bool false,.string ⟨#[]⟩] 38)) w1:=(Below.refl _ _).grown fl (by simp) (fun k hk=>by cases hk);have rT:Sl w1 1 (.slice a len cap) (du (trim zs)):=Gn.q8 (by simpa using ai);clear fl
 gi_wp2_with fail
 refine⟨trivial,(callsIn_wide.2 (qf0 _ _ _ _)).mono ?_⟩;rintro e w' ⟨rfl,rfl⟩
 gi_wp2_with fail
 obtain⟨W2,fh⟩ : ∃ W2:World,W2=(w1.alloc (.cells #[.slice (some ⟨w.heap.size+1,0,none⟩) 0 (4*len)] 170)).alloc (.cells #[.slice a len cap] 164):=⟨_,rfl⟩
 rw[<-fh];have Qg:W2.heap.size=w1.heap.size+2:=by rw[fh];simp
 have Qh:w.heap.size+1<=w1.heap.size:=by have:=ai.size;simpa using this
 have bO:Boxed W2 w1.heap.size 170 (.slice (some ⟨w.heap.size+1,0,none⟩) 0 (4*len)):=by rw[fh];exact(Boxed.new w1 _ _).alloc _
 have bS:Boxed W2 (w1.heap.size+1) 164 (.slice a len cap):=by
  have:=Boxed.new (w1.alloc (.cells #[.slice (some ⟨w.heap.size+1,0,none⟩) 0 (4*len)] 170)) 164 (.slice a len cap);rw[World.size_alloc] at this;rw[fh];exact this
 have ag:Below (w.heap.size+1) (w.alloc (.cells #[.bool false,.string ⟨#[]⟩] 38)) W2:=by rw[fh];exact(ai.alloc Qh _).alloc (by simp;omega) _
 have bR:W2.ownsRow (w.heap.size+1) 5 1 (.slice (some ⟨w.heap.size+1,0,none⟩) 0 (4*len)) 0 []:=by rw[fh];exact(bX.alloc _).alloc _
 have tG:Sl W2 1 (.slice a len cap) (du (trim zs)):=by rw[fh];exact(rT.alloc _).alloc _
 have hblk:∀ ad,a=some ad->len≠0->ad.block < w.heap.size+1:=by
  intro ad bI dO;obtain⟨_,_,_,_,h6⟩:=Gn.open;have:=World.block_lt_of_cell? _ _ (h6 ad bI 0 _ (zu (trim zs) 0 (by have:=H3.out;omega)));rw[q7k] at this;simpa using this
 clear fh bX rT Gn;refine wpIn_rangeFunc_ownG rfl (by omega) (gf:=192) (lb:=#[.pointer (some ⟨w1.heap.size+1,0,none⟩)]) rfl trivial (enters_of Tryz.func192 (by kernel_rfl) rfl)
  (qa3 (9 - 1) (by omega) (w1.heap.size+1) (w.heap.size+1) a len cap (trim zs) W2 tG hblk bS.cell) (fun h k=>kh.trans h k) (kh.put (by omega) (by omega)) (Below.refl _ _) (fun _=>rfl)
  (fun pre W=>((∃ v,Boxed W w1.heap.size 170 v/\W.ownsRow (w.heap.size+1) 5 1 v (bks pre).length (u8s (bks pre))/\True)/\Boxed W (w1.heap.size+1) 164 (.slice a len cap))/\Below (w.heap.size+1) (w.alloc (.cells #[.bool false,.string ⟨#[]⟩] 38)) W)
  (fun _ _ _=>False)
  (OwnFrom.and (OwnFrom.and (Own.from (holdsRow_own (w.heap.size+1) w1.heap.size 170 5 1 (fun pre=>(bks pre).length) (fun pre=>u8s (bks pre)) (fun _ _=>True)) _) (Own.from (boxed_own _ _ (fun _=>.slice a len cap)) _)) (ownFrom_below (by simp) (by omega)))
  (fun _ _ _ _ _ hs _ _=>hs)
  ⟨⟨⟨_,bO,bR,trivial⟩,bS⟩,ag⟩
  (fun x=>{ tmps:=#[.slice a len cap,.bool neg,undef,undef,.pointer (some ⟨w.heap.size,0,none⟩),
     .pointer (some ⟨w1.heap.size,0,none⟩),undef,.int .u64 (x.2:Int),undef,v,.slice a len cap,
     .slice a len cap,.int .i64 (len:Int),.int .i64 (4*(len:Int)),
     .slice (some ⟨w.heap.size+1,0,none⟩) 0 (4*len),.slice a len cap,
     .func (.func 192) #[] #[.pointer (some ⟨w1.heap.size+1,0,none⟩)],.int .i64 (x.1:Int),.int .u64 (x.2:Int),
     undef,undef,undef,undef,undef,undef,undef,undef,undef,undef,undef,undef,undef,undef,undef,
     undef,undef,undef,undef,undef,undef,undef,undef,undef],defers:=[] }) ?assign ?body ?done ?stop
 case assign =>
  intro l x W K hK
  gi_wp2
  exact hK
 case body =>
  rintro l pre x W ⟨⟨⟨v,hv,au,-⟩,oR⟩,hB⟩ hlt;have hc:=hv.cell;have ou:=qbu pre;have Li:=oM;have tH:w.heap.size+1<=W.heap.size:=gn (by simp) hB.size;have Gp:pre.length < len:=by rw[H3.out] at hlt;exact hlt
  have Qi:=lhd ou;clear ou;have b4:(bks pre).length<=4398046511104:=by have:=Qi.out;omega
  gi_wp2_with (gi_at_builtin;refine wpListIn_append_own _ rfl _ _ 170 rfl (w.heap.size+1) 5 i0 (.int .u8 0) 1 1 Tryz.underlying170 hi bL bT cp rfl (by decide) _ _ _ rfl (au.alloc _) ⟨W.heap.size,0,none⟩ 4 4 [.int .u8 ((x.2:Int) / 16777216 % 256),.int .u8 ((x.2:Int) / 65536 % 256),.int .u8 ((x.2:Int) / 256 % 256),.int .u8 ((x.2:Int) % 256)] rfl rfl ?a1 ?a2 ?a3 ?a4 ?a5 ?_)
  case a1=>intro j u hj;rw[Addr.add_lit,Nat.zero_add,qd];simpa using hj
  case a3=>unfold maxLen;omega
  case a4=>omega
  case a5=>simp;omega
  case a2=>intro u hu;simp at hu;rcases hu with rfl | rfl | rfl | rfl <;> rfl
  intro v' w3 lW oN _;obtain⟨g',bE,rfl⟩:=ownsRow_succ lW;obtain⟨hv1,hv2,cB,dG,ct⟩:=hv.appended (by decide) au tH (by omega) lW oN;have AR:=((oR.alloc _).kept oN (oR.not_row (by decide) au)).other (B':=w1.heap.size) (by omega) (.slice (some ⟨g',0,none⟩) ((bks pre).length+4) bE);have eI:=hv1.cell;have Vb:=hv1.frozen
  gi_wp2
  refine⟨dG.from _,fun k hk=>?keepS,⟨⟨⟨_,hv2,?row,trivial⟩,AR⟩,hB.trans ct⟩⟩
  case row =>
   rw[qgt,gl];simp only [u8s,List.map_append,List.map_cons,List.map_nil,qn4] at cB ⊢;exact cB
  case keepS =>
   rcases hk with hk | rfl
   ·exact ct.block k hk
   ·exact AR.trans oR.symm
 case done =>
  rintro D ys W hD dW ⟨⟨⟨v,hv,au,-⟩,oR⟩,hB⟩ hK;have hc:=hv.cell;have tH:w.heap.size+1<=W.heap.size:=gn (by simp) hB.size;subst dW;have AN:=q1s (P:=Tryz.prog) 170 9 Tryz.underlying170 Tryz.underlying5 Tryz.underlying9 au;have q0:W.cell? ⟨w.heap.size,0,none⟩=some (.bool false):=(hB.cell (by simp)).trans (qd w _ _ _ 0);have q1:W.cell? ⟨w.heap.size,1,none⟩=some (.string ⟨#[]⟩):=(hB.cell (by simp)).trans (qd w _ _ _ 1);have r0:W.frozen? ⟨w.heap.size,0,none⟩=false:=(hB.frozen (by simp)).trans (jz (heap_alloc_new w _) 0);have r1:W.frozen? ⟨w.heap.size,1,none⟩=false:=(hB.frozen (by simp)).trans (jz (heap_alloc_new w _) 1)
  gi_wp2_with fail
  refine⟨trivial,(callsIn_wide.2 (qez _ _)).mono ?_⟩;rintro e w' ⟨rfl,rfl⟩;simp only [qk2 zs rz];have Qj:(⟨(bytesOf (val 4294967296 zs)).toArray⟩ : ByteArray)=⟨#[]⟩↔val 4294967296 zs=0:=q4x _;have kH:(!(bytesOf (val 4294967296 zs)).isEmpty)=decide (val 4294967296 zs≠0):=by
   have:=q03 (val 4294967296 zs);by_cases h0:val 4294967296 zs=0
   ·rw[this.2 h0];simp[h0]
   ·have h1:bytesOf (val 4294967296 zs)≠[]:=fun h=>h0 (this.1 h)
    simp[h0,h1]
  have Hn:=lhd kH;clear kH Qj;have AS:w.heap.size<=D:=by omega
  cases neg with
  | false =>
   gi_wp2_with fail
   refine qd9 hB AS hK q0 q1 ?_;intro V v0 v1;simp[results,Tryz.f145,go_sem,v0,v1]
  | true =>
   gi_wp2_with fail
   rw[Bool.true_and,<-Hn.out];refine qd9 hB AS hK q0 q1 ?_;intro V v0 v1;simp[results,Tryz.f145,go_sem,v0,v1]
 case stop =>
  rintro D c pre W _ _ h _;exact h.elim
end Go.Proofs.YtlhicnfeajejhaaGreatDoor
namespace Go.Proofs.YtlhicnfeajejhaaGreatDoor
open Go.RowKit Go.Cx
attribute [local go_sem ↓] Go.wp_at_zero Go.wp_at_succ
theorem vp (s:ByteArray):(dig 4294967296 (qy s.data.toList)).length<=(s.size+3) / 4:=by
 refine y9 4294967296 (by omega) _ _ ?_;have h1:=q5m s.data.toList;have h3:s.data.toList.length=s.size:=by simp
 rw[h3] at h1;have h2:(256:Nat) ^ s.size<=256 ^ (4*((s.size+3) / 4)):=bt (by omega) (by omega);rw[Nat.pow_mul,show (256:Nat) ^ 4=4294967296 by decide] at h2;omega
theorem q8g (neg:Bool) (v:Value) (n:Nat) (w:World) (h:Sl w 1 v (du (dig 4294967296 n))) (bz:(dig 4294967296 n).length<=1099511627776) :
  Calls Tryz.prog 145 #[v,.bool neg] w fun e w'=>e = .returned (wv (sg neg n))/\Below w.heap.size w w':=by
 have:=qmg neg v _ w h (zb 4294967296 (by omega) n) bz
 rwa [xw 4294967296 (by omega)] at this
theorem qn5 (n:Bool) (s:ByteArray) (w:World) (hs:s.size<=1099511627776) :
  Calls Tryz.prog 137 #[.agg #[.bool n,.string s]] w fun e w'=>e = .returned (.int .i64 (ve (iv n s)))/\Below w.heap.size w w':=by
 have jF:=q15 4294967296 (qy s.data.toList) (by omega);go_enter Tryz.func137,Tryz.ntmps137;go_wp2_with fail;obtain⟨W,hW⟩ : ∃ W:World,W=w.alloc (.cells #[.bool n,.string s] 38):=⟨_,rfl⟩
 rw[<-hW];have b0:Bx W w.heap.size n s:=hW ▸ Bx.new w n s _;have hw:Below w.heap.size w W:=hW ▸ (Below.refl _ _).alloc (nlr _) _;have hz:w.heap.size+1<=W.heap.size:=by rw[hW];simp
 clear hW;refine(qgq _ _ _ hs).mono ?_;rintro e w1 ⟨u,rfl,hu,ai⟩;have al:Below (w.heap.size+1) W w1:=ai.mono hz;obtain⟨p0,p1,-,-⟩:=b0.q8 al (by omega);obtain⟨a,k,cap,rfl,h1,h2,h3,h4,h5⟩:=hu;unfold maxLen at h2;rw[q18,gK] at h3;have AU:=lhd jF;clear jF;have H3:=lhd h3;clear h3;clear h4 h5;by_cases hk:k=0
 ·subst hk;have h0:iv n s=0:=by
   have:qy s.data.toList=0:=AU.out.1 (List.length_eq_zero_iff.1 H3.out);rw[jq,this,q57]
  have H0:=lhd h0;clear h0;go_wp2;go_ret;exact⟨by rw[H0.out];rfl,hw.trans (al.mono (by omega))⟩
 ·have rU:((k:Int) == 0)=false:=by simp;omega
  have ak:qy s.data.toList≠0:=by
   intro e;have h:=AU.out.2 e;have h3:=H3.out;rw[h] at h3;exact hk h3.symm
  have Lt:=lhd ak;clear ak;cases n with
  | true =>
   go_wp2;go_ret;refine⟨?_,hw.trans (al.mono (by omega))⟩;have:=Lt.out;rw[ve,jq,sg,if_neg (by simp;omega),if_pos (by simp;omega)];rfl
  | false =>
   go_wp2;go_ret;refine⟨?_,hw.trans (al.mono (by omega))⟩;have:=Lt.out;rw[ve,jq,sg,if_neg (by simp;omega),if_neg (by simp)];rfl
theorem qmh (n m:Bool) (s t:ByteArray) (w:World) (hs:s.size<=1099511627775) (ht:t.size<=1099511627775) :
  Calls Tryz.prog 88 #[.agg #[.bool n,.string s],.agg #[.bool m,.string t]] w fun e w'=>e = .returned (wv (iv n s*iv m t))/\Below w.heap.size w w':=by
 have hl:=vp s;have rP:=vp t;generalize hx:qy s.data.toList=x at *;generalize hy:qy t.data.toList=y at *;have Hx:=lhd hx;clear hx;have Hy:=lhd hy;clear hy;have hxy:(dig 4294967296 (x*y)).length<=1099511627776:=by
  have h1:=zy 4294967296 (by omega) x;have h2:=zy 4294967296 (by omega) y;have h3:=Nat.mul_lt_mul'' h1 h2;rw[<-Nat.pow_add] at h3;have:=y9 4294967296 (by omega) _ _ h3;omega
 go_enter Tryz.func88,Tryz.ntmps88;go_wp2_with fail;obtain⟨W,hW⟩ : ∃ W:World,W=((w.alloc (.cells #[.bool n,.string s] 38)).alloc (.cells #[.bool m,.string t] 38)).alloc (.cells #[.bool false,.string ⟨#[]⟩] 38):=⟨_,rfl⟩
 rw[<-hW];have b0:Bx W w.heap.size n s:=hW ▸ ((Bx.new w n s _).alloc (by simp) _).alloc (by simp;omega) _;have b1:Bx W (w.heap.size+1) m t:=by rw[hW];have:=Bx.new (w.alloc (.cells #[.bool n,.string s] 38)) m t 38;exact(by simpa using this:Bx _ (w.heap.size+1) m t).alloc (by simp) _
 have b2:Bx W (w.heap.size+1+1) false ⟨#[]⟩:=by rw[hW];have:=Bx.new ((w.alloc (.cells #[.bool n,.string s] 38)).alloc (.cells #[.bool m,.string t] 38)) false ⟨#[]⟩ 38;simpa using this
 have hw:Below w.heap.size w W:=hW ▸ (((Below.refl _ _).alloc (nlr _) _).alloc (by simp) _).alloc (by simp;omega) _;have hz:w.heap.size+3<=W.heap.size:=by rw[hW];simp
 clear hW;have ⟨p0,p1,_,_⟩:=b0;have ⟨q0,q1,_,_⟩:=b1;have dZ:True:=trivial
 go_region_held3 (fun w'=>w'.cell? ⟨w.heap.size,0,none⟩=some (.bool n)/\w'.cell? ⟨w.heap.size,1,none⟩=some (.string s)/\w'.cell? ⟨w.heap.size+1,0,none⟩=some (.bool m)/\w'.cell? ⟨w.heap.size+1,1,none⟩=some (.string t))
  (first | exact⟨by assumption,by assumption,by assumption,by assumption⟩ | (refine⟨?_,?_,?_,?_⟩ <;> exact xe (xe (by assumption) (by simp <;> omega)) (by simp <;> omega)))
  (first
   |(go_at_call 143;have _t:=dZ;refine(qgq _ _ _ (by omega)).mono ?_;rintro e w1 ⟨u,rfl,hu,ai⟩;rw[Hx.out] at hu;have al:Below (w.heap.size+3) W w1:=xt (ai.mono (by simpa using hz));obtain⟨a0,a1,-,-⟩:=b0.q8 al (by omega);obtain⟨a2,a3,-,-⟩:=b1.q8 al (by omega);clear _t dZ)
   |(go_at_call 143;refine(qgq _ _ _ (by omega)).mono ?_;rintro e w2 ⟨v,rfl,hv,ag⟩;rw[Hy.out] at hv;have AW:=hu.q8 ag;have aw:Below (w.heap.size+3) W w2:=bump al hz ag;obtain⟨c0,c1,-,-⟩:=b0.q8 aw (by omega);obtain⟨c2,c3,-,-⟩:=b1.q8 aw (by omega))
   |(go_at_call 144;refine(qpz _ _ _ _ _ AW hv (zb 4294967296 (by omega) x) (zb 4294967296 (by omega) y) (by omega) (by omega)).mono ?_;rintro e w3 ⟨r,rfl,hr,ct⟩;rw[xw 4294967296 (by omega),xw 4294967296 (by omega)] at hr;have aB:Below (w.heap.size+3) W w3:=bump aw hz ct;obtain⟨d0,d1,-,-⟩:=b0.q8 aB (by omega);obtain⟨d2,d3,-,-⟩:=b1.q8 aB (by omega))
   |(go_at_call 145;refine(q8g _ _ _ _ hr hxy).mono ?_;rintro e w4 ⟨rfl,cP⟩;have bU:Below (w.heap.size+3) W w4:=bump aB hz cP;obtain⟨s0,s1,-,-⟩:=b0.q8 bU (by omega);obtain⟨s2,s3,-,-⟩:=b1.q8 bU (by omega);obtain⟨t0,t1,t2,t3⟩:=b2.q8 bU (by omega)))
 go_wp2;have Qk:(!(n == m))=(n != m):=by cases n <;> cases m <;> rfl
 refine bodyPost_ret (v:=wv (sg (!(n == m)) (x*y))) (by simp[results,Tryz.results88,go_sem,t0,t1]) rfl ⟨?_,?_⟩
 ·rw[Qk,qgl,jq,jq,Hx.out,Hy.out]
 ·exact((hw.trans (bU.mono (by omega))).setCell (by simp <;> omega) _).setCell (by simp <;> omega) _
theorem qa4 (B:Nat) (hB:2<=B) (x y K:Nat) (hx:(dig B x).length<=K) (hy:(dig B y).length<=K):(dig B (x+y)).length<=K+1:=by
 have h1:=zy B hB x;have h2:=zy B hB y;refine y9 B hB _ _ ?_;have h3:B ^ (dig B x).length<=B ^ K:=bt (by omega) hx;have h4:B ^ (dig B y).length<=B ^ K:=bt (by omega) hy;have h5:B ^ K*2<=B ^ K*B:=Nat.mul_le_mul_left _ hB;rw[Nat.pow_succ];omega
theorem qov (n m:Bool) (s t:ByteArray) (w:World) (hs:s.size<=1099511627776) (ht:t.size<=1099511627776) :
  Calls Tryz.prog 96 #[.agg #[.bool n,.string s],.agg #[.bool m,.string t]] w fun e w'=>e = .returned (wv (iv n s+iv m t))/\Below w.heap.size w w':=by
 have hl:=vp s;have rP:=vp t;generalize hx:qy s.data.toList=x at *;generalize hy:qy t.data.toList=y at *;have Hx:=lhd hx;clear hx;have Hy:=lhd hy;clear hy;have fQ:(dig 4294967296 (x+y)).length<=1099511627776:=gn (qa4 4294967296 (by omega) x y 1099511627775 (by omega) (by omega)) (by omega);go_enter Tryz.func96,Tryz.ntmps96;go_wp2_with fail;obtain⟨W,hW⟩ : ∃ W:World,W=((w.alloc (.cells #[.bool n,.string s] 38)).alloc (.cells #[.bool m,.string t] 38)).alloc (.cells #[.bool false,.string ⟨#[]⟩] 38):=⟨_,rfl⟩
 rw[<-hW];have b0:Bx W w.heap.size n s:=hW ▸ ((Bx.new w n s _).alloc (by simp) _).alloc (by simp;omega) _;have b1:Bx W (w.heap.size+1) m t:=by rw[hW];have:=Bx.new (w.alloc (.cells #[.bool n,.string s] 38)) m t 38;exact(by simpa using this:Bx _ (w.heap.size+1) m t).alloc (by simp) _
 have b2:Bx W (w.heap.size+1+1) false ⟨#[]⟩:=by rw[hW];have:=Bx.new ((w.alloc (.cells #[.bool n,.string s] 38)).alloc (.cells #[.bool m,.string t] 38)) false ⟨#[]⟩ 38;simpa using this
 have hw:Below w.heap.size w W:=hW ▸ (((Below.refl _ _).alloc (nlr _) _).alloc (by simp) _).alloc (by simp;omega) _;have hz:w.heap.size+3<=W.heap.size:=by rw[hW];simp
 clear hW;have ⟨p0,p1,_,_⟩:=b0;have ⟨q0,q1,_,_⟩:=b1;have dZ:True:=trivial
 go_region_held3 (fun w'=>w'.cell? ⟨w.heap.size,0,none⟩=some (.bool n)/\w'.cell? ⟨w.heap.size,1,none⟩=some (.string s)/\w'.cell? ⟨w.heap.size+1,0,none⟩=some (.bool m)/\w'.cell? ⟨w.heap.size+1,1,none⟩=some (.string t))
  (first | exact⟨by assumption,by assumption,by assumption,by assumption⟩ | (refine⟨?_,?_,?_,?_⟩ <;> exact xe (xe (by assumption) (by simp <;> omega)) (by simp <;> omega)))
  (first
   |(go_at_call 143;have _t:=dZ;refine(qgq _ _ _ (by omega)).mono ?_;rintro e w1 ⟨u,rfl,hu,ai⟩;rw[Hx.out] at hu;have al:Below (w.heap.size+3) W w1:=xt (ai.mono (by simpa using hz));obtain⟨a0,a1,-,-⟩:=b0.q8 al (by omega);obtain⟨a2,a3,-,-⟩:=b1.q8 al (by omega);clear _t dZ)
   |(go_at_call 143;refine(qgq _ _ _ (by omega)).mono ?_;rintro e w2 ⟨v,rfl,hv,ag⟩;rw[Hy.out] at hv;have AW:=hu.q8 ag;have aw:Below (w.heap.size+3) W w2:=bump al hz ag;obtain⟨f0,f1,-,-⟩:=b0.q8 aw (by omega);obtain⟨f2,f3,-,-⟩:=b1.q8 aw (by omega)))
 have cp:w.heap.size+3<=w2.heap.size:=gn hz aw.size;have c0:=b0.q8 aw (by omega);have c1:=b1.q8 aw (by omega);have c2:=b2.q8 aw (by omega);have ⟨q0,q1,_,_⟩:=c0;have ⟨r0,r1,_,_⟩:=c1;by_cases AX:n=m
 ·subst AX;have mX:(n == n)=true:=by simp
  go_wp2_with fail
  go_region_held3 (fun w'=>w'.cell? ⟨w.heap.size,0,none⟩=some (.bool n)) (first | assumption | exact xe (xe (by assumption) (by simp <;> omega)) (by simp <;> omega))
   (first
    |(go_at_call 147;refine(qpy _ _ _ _ _ AW.drew hv.drew (zb 4294967296 (by omega) x) (zb 4294967296 (by omega) y) (by omega) (by omega)).mono ?_;rintro e w3 ⟨r,rfl,hr,ct⟩;rw[xw 4294967296 (by omega),xw 4294967296 (by omega)] at hr;have aB:Below (w.heap.size+3) w2 w3:=xt (ct.mono (by simpa using cp));obtain⟨a0,-,-,-⟩:=c0.q8 aB (by omega))
    |(go_at_call 145;refine(q8g _ _ _ _ hr fQ).mono ?_;rintro e w4 ⟨rfl,cP⟩;have bU:Below (w.heap.size+3) w2 w4:=bump aB cp cP;obtain⟨s0,-,-,-⟩:=c0.q8 bU (by omega);obtain⟨t0,t1,t2,t3⟩:=c2.q8 bU (by omega)))
  go_wp2;refine bodyPost_ret (v:=wv (sg n (x+y))) (by simp[results,Tryz.results96,go_sem,t0,t1]) rfl ⟨?_,?_⟩
  ·rw[qgk,jq,jq,Hx.out,Hy.out]
  ·exact((hw.trans ((aw.trans bU).mono (by omega))).setCell (by simp <;> omega) _).setCell (by simp <;> omega) _
 ·have mX:(n == m)=false:=by simpa using AX
  go_wp2_with fail;refine(qpx _ _ x y _ AW hv).mono ?_;rintro e w3 ⟨rfl,ct⟩;have aB:Below (w.heap.size+3) w2 w3:=ct.mono cp;have kI:w.heap.size+3<=w3.heap.size:=gn cp aB.size;have Lu:=AW.q8 ct;have hv3:=hv.q8 ct;have d0:=c0.q8 aB (by omega);have d1:=c1.q8 aB (by omega);have d2:=c2.q8 aB (by omega);clear q0 q1 r0 r1;have ⟨q0,q1,_,_⟩:=d0;have ⟨r0,r1,_,_⟩:=d1;by_cases hxy:y<=x
  ·have aY:=qd6 hxy;go_wp2_with fail
   go_region_held3 (fun w'=>w'.cell? ⟨w.heap.size,0,none⟩=some (.bool n)) (first | assumption | exact xe (xe (by assumption) (by simp <;> omega)) (by simp <;> omega))
    (first
     |(go_at_call 149;refine(qot _ _ _ _ _ Lu.drew hv3.drew hxy (by omega)).mono ?_;rintro e w4 ⟨r,rfl,hr,cP⟩;have bU:Below (w.heap.size+3) w3 w4:=xt (cP.mono (by simpa using kI));obtain⟨a0,-,-,-⟩:=d0.q8 bU (by omega))
     |(go_at_call 145;refine(q8g _ _ _ _ hr (gn (j4 4294967296 (by omega) _ _ (Nat.sub_le x y)) (by omega))).mono ?_;rintro e w5 ⟨rfl,ib⟩;have aT:Below (w.heap.size+3) w3 w5:=bump bU kI ib;obtain⟨s0,-,-,-⟩:=d0.q8 aT (by omega);obtain⟨t0,t1,t2,t3⟩:=d2.q8 aT (by omega)))
   go_wp2;refine bodyPost_ret (v:=wv (sg n (x - y))) (by simp[results,Tryz.results96,go_sem,t0,t1]) rfl ⟨?_,?_⟩
   ·rw[q8f n m x y AX hxy,jq,jq,Hx.out,Hy.out]
   ·exact((hw.trans (((aw.trans aB).trans aT).mono (by omega))).setCell (by simp <;> omega) _).setCell (by simp <;> omega) _
  ·have aY:=q9x (show x < y by omega);go_wp2_with fail
   go_region_held3 (fun w'=>w'.cell? ⟨w.heap.size+1,0,none⟩=some (.bool m)) (first | assumption | exact xe (xe (by assumption) (by simp <;> omega)) (by simp <;> omega))
    (first
     |(go_at_call 149;refine(qot _ _ _ _ _ hv3.drew Lu.drew (by omega) (by omega)).mono ?_;rintro e w4 ⟨r,rfl,hr,cP⟩;have bU:Below (w.heap.size+3) w3 w4:=xt (cP.mono (by simpa using kI));obtain⟨a0,-,-,-⟩:=d1.q8 bU (by omega))
     |(go_at_call 145;refine(q8g _ _ _ _ hr (gn (j4 4294967296 (by omega) _ _ (Nat.sub_le y x)) (by omega))).mono ?_;rintro e w5 ⟨rfl,ib⟩;have aT:Below (w.heap.size+3) w3 w5:=bump bU kI ib;obtain⟨s0,-,-,-⟩:=d1.q8 aT (by omega);obtain⟨t0,t1,t2,t3⟩:=d2.q8 aT (by omega)))
   go_wp2;refine bodyPost_ret (v:=wv (sg m (y - x))) (by simp[results,Tryz.results96,go_sem,t0,t1]) rfl ⟨?_,?_⟩
   ·rw[q8f m n y x (fun e=>AX e.symm) (by omega),jq,jq,Hx.out,Hy.out,Int.add_comm]
   ·exact((hw.trans (((aw.trans aB).trans aT).mono (by omega))).setCell (by simp <;> omega) _).setCell (by simp <;> omega) _
end Go.Proofs.YtlhicnfeajejhaaGreatDoor
namespace Go.Proofs.YtlhicnfeajejhaaGreatDoor
open Go.RowKit Go.Cx
theorem Sl.lit (w:World) (t:TypeId) (xs:List Value) (hx:xs.length<=1099511627776):Sl (w.alloc (.cells xs.toArray t)) 1 (.slice (some ⟨w.heap.size,0,none⟩) xs.length xs.length) xs :=
 ⟨_,_,_,rfl,nlr _,by unfold maxLen;omega,by simp,fun h=>by simp at h,fun a ha i u hu=>by
  injection ha with ha;subst ha
  rw[Addr.add_lit,Nat.zero_add,qd];simpa using hu⟩
theorem val_two (y:Nat):val 4294967296 [y % 4294967296,y / 4294967296]=y:=by
 simp only [val];omega
theorem qgv (x:Int) (w:World) (h1 : -9223372036854775808<=x) (h2:x<=9223372036854775807) :
  Calls Tryz.prog 89 #[.int .i64 x] w fun e w'=>e = .returned (wv x)/\Below w.heap.size w w':=by
 have cr:sg (decide (x < 0)) x.natAbs=x:=by
  unfold sg;by_cases h:x < 0
  ·rw[if_pos (by simpa using h)];omega
  ·rw[if_neg (by simpa using h)];omega
 have Gf:=lhd cr;clear cr;have h0:∃ y:Nat,x.natAbs=y/\y<=9223372036854775808:=⟨_,rfl,by omega⟩
 obtain⟨y,hy,vP⟩:=h0;have hand:bits BinOp.and .u64 (y:Int) 4294967295=(y:Int) % 4294967296:=q9y y (by omega);by_cases hx:x < 0
 all_goals
  go_enter Tryz.func89,Tryz.ntmps89;go_wp2_with fail
  first
   | rw[qd7 x h1 hx,hy]
   |(have hxy:x=(y:Int):=by omega
     subst hxy)
  rw[hand];have hS:Sl ((w.alloc (.cells #[.bool false,.string ⟨#[]⟩] 38)).alloc (.cells #[.int .u64 ((y:Int) % 4294967296),.int .u64 ((y:Int) / 4294967296)] 113)) 1 (.slice (some ⟨w.heap.size+1,0,none⟩) 2 2) (du [y % 4294967296,y / 4294967296]):=by
   have:=Sl.lit (w.alloc (.cells #[.bool false,.string ⟨#[]⟩] 38)) 113 [.int .u64 ((y:Int) % 4294967296),.int .u64 ((y:Int) / 4294967296)] (by simp);rw[show (w.alloc (.cells #[.bool false,.string ⟨#[]⟩] 38)).heap.size=w.heap.size+1 by simp] at this;have e:du [y % 4294967296,y / 4294967296]=[.int .u64 ((y:Int) % 4294967296),.int .u64 ((y:Int) / 4294967296)]:=by simp[du]
   rw[e];exact this
  refine(qmg _ _ [y % 4294967296,y / 4294967296] _ hS (q9m (Nat.mod_lt _ (by omega)) (q2g (by omega))) (by simp)).mono ?_;rintro e w2 ⟨rfl,ag⟩;rw[val_two];have aw:Below (w.heap.size+1) (w.alloc (.cells #[.bool false,.string ⟨#[]⟩] 38)) w2:=((Below.refl _ _).alloc (by simp) _).trans (ag.mono (by simp));obtain⟨t0,t1,t2,t3⟩:=(Bx.new w false ⟨#[]⟩ 38).q8 aw (by omega);go_wp2_with fail;have hB:=(vv aw (Nat.le_succ _):Below w.heap.size w w2)
  first
   |(refine bodyPost_ret (v:=wv (sg true y)) ?_ rfl ⟨?_,(hB.setCell (by simp) _).setCell (by simp) _⟩
     ·(simp[results,Tryz.results89,go_sem,t0,t1];done))
   |(refine bodyPost_ret (v:=wv (sg false y)) ?_ rfl ⟨?_,(hB.setCell (by simp) _).setCell (by simp) _⟩
     ·(simp[results,Tryz.results89,go_sem,t0,t1];done))
  have e:=Gf.out
  first
   |(rw[hy,show decide (x < 0)=true by simpa using hx] at e;rw[e])
   |(rw[Int.natAbs_natCast,show decide ((y:Int) < 0)=false by simp] at e;rw[e])
end Go.Proofs.YtlhicnfeajejhaaGreatDoor
