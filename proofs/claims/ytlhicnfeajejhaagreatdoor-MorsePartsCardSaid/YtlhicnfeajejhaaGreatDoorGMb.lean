/- Steps towards MorseParts. Conditions: none. -/
import Derived.Deep.DrawnRows
import Derived.Deep.RegionHeld3
import Derived.Test.YtlhicnfeajejhaaGreatDoorGMa
set_option maxRecDepth 1000000
set_option maxHeartbeats 16000000
namespace Go.Proofs.YtlhicnfeajejhaaGreatDoor
open Go.RowKit Go.Cx
theorem q5q {X:Int} : ∀ u∈[Value.int .u8 X],u.oneCell'=true:=by intro u hu;simp at hu;subst hu;rfl
theorem qer (t:List Nat) (j:Nat) (bs:List UInt8) (hj:j < t.length) (hr:InR 65536 t) (hv:qy bs=val 65536 (t.drop (j+1))) :
  qy (bs++[UInt8.ofNat (t.getD j 0 / 256),UInt8.ofNat (t.getD j 0 % 256)])=val 65536 (t.drop j):=by
 have hd:=xr hr (by omega) j;rw[yj t j hj,val,<-hv,ki];simp only [qy,List.foldl_cons,List.foldl_nil,UInt8.toNat_ofNat',List.length_cons,List.length_nil];omega
theorem qmx {x:Int} {d:Nat} (h:x=d) (hd:d < 256):Value.int .u8 x = .int .u8 ((UInt8.ofNat d).toNat:Int):=by subst h;rw[UInt8.toNat_ofNat',Nat.mod_eq_of_lt hd]
theorem q5r {w:World} {b e n:Nat} {v:Value} {l:List UInt8} {X:Int} {d:Nat} (h:w.ownsRow b e 1 v n (u8s l++[.int .u8 X])) (hx:X=d) (hd:d < 256):w.ownsRow b e 1 v n (u8s (l++[UInt8.ofNat d])):=by rw[qmx hx hd] at h;rw[qbp];exact h
def q0s (bs:List UInt8):Prop:=∀ c t,bs=c :: t->c≠0
theorem q0s.append {a b:List UInt8} (h:q0s a) (ha:a≠[]):q0s (a++b):=by
 intro c t e;cases a with
 | nil=>exact absurd rfl ha
 | cons x l=>simp at e;exact e.1 ▸ h x l rfl
theorem q0s.one {d:Nat} {b:List UInt8} (h0:0 < d) (h:d < 256):q0s (UInt8.ofNat d :: b):=by intro c t e;simp at e;rw[<-e.1];intro e2;have:=congrArg UInt8.toNat e2;rw[UInt8.toNat_ofNat',Nat.mod_eq_of_lt h] at this;simp at this;omega
theorem q8e (neg:Bool) (v:Value) (zs:List Nat) (w:World) (h:Sl w 1 v (dv zs)) (rz:InR 65536 zs) (bz:zs.length<=1099511627776) :
  Calls Tryz.prog 90 #[.bool neg,v] w fun e w'=>e = .returned (wv (sg neg (val 65536 zs)))/\BwQ w w':=by
 have ht:=ze 65536 (by omega) zs rz;have mO:=q02 zs;have i7:trim zs≠[]->val 65536 zs≠0:=by rw[ht];intro h e;exact h ((q15 65536 _ (by omega)).2 e)
 generalize GP:trim zs=t at *;have rt:InR 65536 t:=GP ▸ q9o rz;have vt:val 65536 t=val 65536 zs:=by rw[<-GP,q9n]
 have Ht:=lhd ht;clear ht;have NH:=lhd GP;clear GP;have Vt:=lhd vt;clear vt;have Dm:=lhd i7;clear i7;by_cases he:t=[]
 ·subst he;have v0:val 65536 zs=0:=by rw[<-Vt.out];rfl
  go_enter Tryz.func90,Tryz.ntmps90;go_wp2_with (go_at_call 146;refine(q3n _ _ _ (h.alloc _)).mono ?_;rintro e w' ⟨u,rfl,fI,rfl⟩;rw[NH.out] at fI;obtain⟨a,n,cap,rfl,h1,h2,h3,_⟩:=fI;have pt:n=0:=(by simpa [dv,q2y,ints] using h3.symm);subst pt);refine bodyPost_ret (v:=.agg #[.bool false,.string ⟨#[]⟩]) (by simp[results,Tryz.results90,go_sem]) rfl ⟨?_,?_⟩
  ·rw[v0,q57,qd5]
  ·exact bal _ _
 ·have al:val 65536 zs≠0:=Dm.out he;have SG:0 < t.length:=by cases t with | nil=>exact absurd rfl he | cons=>simp
  go_enter Tryz.func90,Tryz.ntmps90;go_wp2_with fail;refine(q3n _ _ _ (h.alloc _)).mono ?_;rintro e w' ⟨u,rfl,fI,rfl⟩;rw[NH.out] at fI;obtain⟨a,n,cap,rfl,h1,h2,h3,h4,h5⟩:=fI;unfold maxLen at h2;rw[q1u,gL] at h3;have hb:n<=1099511627776:=by omega
  have cW:0 < n:=by omega
  have H3:=lhd h3;clear h3;have H5:=lhd h5;clear h5;obtain⟨ad,rfl⟩:=sadq h4 (by omega)
  clear h4 h;have Dn:((n:Int) == 0)=false:=by simp;omega
  go_wp2_with fail;go_loopw [5,6] (fun b i wr=>∃ (j:Nat) (bs:List UInt8),i = .int .i64 ((j:Int) - 1)/\j<=n/\qy bs=val 65536 (t.drop j)/\(j < n->bs≠[])/\(j=n->bs=[])/\q0s bs/\bs.length<=2*(n - j) ∧
    wr.ownsRow (w.heap.size+1) 5 1 b bs.length (u8s bs)/\Below (w.heap.size+1) (w.alloc (.cells #[.bool false,.string ⟨#[]⟩] 38)) wr) (fun _ i _=>(intOf i+1).toNat)
  case atStart=>exact⟨n,[],rfl,nlr _,by rw[gY (by have:=H3.out;omega)];rfl,by omega,fun _=>rfl,(fun c t e=>by cases e),by simp,World.ownsRow_nil _ _ _ _,Below.refl _ _⟩
  case round =>
   obtain⟨j,bs,rfl,hj,hv,Dp,zS,hh,mj,ah,ck⟩:=hrel;have Hv:=lhd hv;clear hv;have Jo:=lhd Dp;clear Dp;have Jp:=lhd zS;clear zS;have Hh:=lhd hh;clear hh;have az:w.heap.size+1<=wr.heap.size:=gl (by simp) ck.size;by_cases h0:0 < j
   ·obtain⟨m,rfl⟩ : ∃ m,j=m+1:=⟨j - 1,by omega⟩
    have e1:((m+1:Nat):Int) - 1=m:=by omega
    rw[e1];have aX:=qer t m bs (by have:=H3.out;omega) rt Hv.out;have c1:wr.cell? (ad.add m)=some (.int .i64 (t.getD m 0:Nat)):=q1n ck (by simp) (H5.out ad rfl m _ (vd t m (by have:=H3.out;omega)));obtain⟨p,hp⟩ : ∃ p,t.getD m 0=p:=⟨_,rfl⟩
    have nQ:p < 65536:=hp ▸ xr rt (by omega) m;rw[hp] at c1 aX;have Hp:=lhd hp;clear hp;have wR:=lhd aX;clear aX;have wS:∀ w1,Below (w.heap.size+1) (w.alloc (.cells #[.bool false,.string ⟨#[]⟩] 38)) w1->w1.cell? (ad.add m)=some (.int .i64 (p:Nat)):=fun w1 ai=>by
     have:=q1n ai (by simp) (H5.out ad rfl m _ (vd t m (by have:=H3.out;omega)))
     rwa [Hp.out] at this
    have Cw:=lhd wS;clear wS;have two:∀ v' w1,w1.ownsRow (w.heap.size+1) 5 1 v' (bs.length+1+1) (u8s (bs++[UInt8.ofNat (p / 256)]++[UInt8.ofNat (p % 256)]))->Below (w.heap.size+1) (w.alloc (.cells #[.bool false,.string ⟨#[]⟩] 38)) w1 →
      q0s (bs++[UInt8.ofNat (p / 256)]++[UInt8.ofNat (p % 256)]) →
      ∃ (j:Nat) (bs:List UInt8),Value.int .i64 ((m:Int) - 1) = .int .i64 ((j:Int) - 1)/\j<=n/\qy bs=val 65536 (t.drop j)/\(j < n->bs≠[])/\(j=n->bs=[])/\q0s bs/\bs.length<=2*(n - j) ∧
       w1.ownsRow (w.heap.size+1) 5 1 v' bs.length (u8s bs)/\Below (w.heap.size+1) (w.alloc (.cells #[.bool false,.string ⟨#[]⟩] 38)) w1:=by
     intro v' w1 ho ai SH;refine⟨m,bs++[UInt8.ofNat (p / 256)]++[UInt8.ofNat (p % 256)],rfl,by omega,by simpa using wR.out,by simp,by omega,SH,by simp;omega,by simpa using ho,ai⟩
    have Two:=lhd two;clear two;by_cases fA:m+1 < n
    ·have hz:((m:Int) < (n:Int) - 1):=by omega
     go_wp2_with (at_builtin;refine qo rfl _ _ 170 rfl (w.heap.size+1) 5 Tryz.q4c Tryz.underlying170 rfl (by decide) (by decide) _ _ _ rfl ah [.int .u8 _] rfl rfl q5q ?a3 ck az ?_)
     case a3=>omega
     intro v' w1 cN jA ai;have zT:w.heap.size+1<=w1.heap.size:=gl (by simp) ai.size;have ow:=q5r (d:=p / 256) cN (by simp[go_sem]) (by omega);have c2:=Cw.out w1 ai;clear cN ah c1;go_wp2_with (at_builtin;refine qo rfl _ _ 170 rfl (w.heap.size+1) 5 Tryz.q4c Tryz.underlying170 rfl (by decide) (by decide) _ _ _ rfl ow [.int .u8 _] rfl rfl q5q ?b3 ai zT ?_)
     case b3=>omega
     intro v2 w2 aY zU aj;go_wp2;go_roundw
     case measure=>simp[intOf]
     case rel=>exact Two.out _ _ (q5r (d:=p % 256) aY (by simp[go_sem]) (by omega)) aj ((Hh.out.append (Jo.out fA)).append (by simp))
    ·have Jq:m+1=n:=by omega
     have aF:¬ ((m:Int) < (n:Int) - 1):=by omega
     have kI:=Jp.out Jq;subst kI;have Jr:p≠0:=by
      rw[<-Hp.out];have pZ:trim t=t:=by rw[Ht.out];exact qgc 65536 _ (by omega)
      have:=qeq t pZ SG
      rwa [H3.out,show n - 1=m by omega] at this
     have XP:=lhd Jq;clear Jq;by_cases NI:256<=p
     ·have hz:((256:Int)<=p):=by omega
      go_wp2_with (at_builtin;refine qo rfl _ _ 170 rfl (w.heap.size+1) 5 Tryz.q4c Tryz.underlying170 rfl (by decide) (by decide) _ _ _ rfl ah [.int .u8 _] rfl rfl q5q ?d3 ck az ?_);intro v' w1 cN jA ai;have zT:w.heap.size+1<=w1.heap.size:=gl (by simp) ai.size;have ow:=q5r (d:=p / 256) cN (by simp[go_sem]) (by omega);have c2:=Cw.out w1 ai;clear cN ah c1;go_wp2_with (at_builtin;refine qo rfl _ _ 170 rfl (w.heap.size+1) 5 Tryz.q4c Tryz.underlying170 rfl (by decide) (by decide) _ _ _ rfl ow [.int .u8 _] rfl rfl q5q ?f3 ai zT ?_)
      case f3=>simp
      intro v2 w2 aY zU aj;go_wp2;go_roundw
      case measure=>simp[intOf]
      case rel=>exact Two.out _ _ (q5r (d:=p % 256) aY (by simp[go_sem]) (by omega)) aj (q0s.one (by omega) (by omega))
     ·have hz:¬ ((256:Int)<=p):=by omega
      go_wp2_with (at_builtin;refine qo rfl _ _ 170 rfl (w.heap.size+1) 5 Tryz.q4c Tryz.underlying170 rfl (by decide) (by decide) _ _ _ rfl ah [.int .u8 _] rfl rfl q5q ?g3 ck az ?_);intro v' w1 cN jA ai;go_wp2;go_roundw
      case measure=>simp[intOf]
      case rel =>
       refine⟨m,[UInt8.ofNat p],rfl,by omega,?_,by simp,by omega,q0s.one (by omega) (by omega),by simp;omega,?_,ai⟩
       ·rw[<-wR.out];simp only [qy,List.nil_append,List.foldl_cons,List.foldl_nil,UInt8.toNat_ofNat'];omega
       ·have:=q5r (d:=p) cN (by omega) (by omega);simpa using this
   ·have oq:j=0:=by omega
    subst oq;have jY:qy bs=val 65536 zs:=by have:=Hv.out;rw[List.drop_zero] at this;rw[this,Vt.out]
    have SI:=lhd jY;clear jY;have Dq:=q1s (P:=Tryz.prog) 170 9 Tryz.underlying170 Tryz.underlying5 Tryz.underlying9 ah;have q0:wr.cell? ⟨w.heap.size,0,none⟩=some (.bool false):=(ck.cell (by simp)).trans (qd w _ _ _ 0);have q1:wr.cell? ⟨w.heap.size,1,none⟩=some (.string ⟨#[]⟩):=(ck.cell (by simp)).trans (qd w _ _ _ 1);have r0:wr.frozen? ⟨w.heap.size,0,none⟩=false:=(ck.frozen (by simp)).trans (jz (heap_alloc_new w _) 0);have r1:wr.frozen? ⟨w.heap.size,1,none⟩=false:=(ck.frozen (by simp)).trans (jz (heap_alloc_new w _) 1);go_wp2;refine bodyPost_ret (v:=.agg #[.bool neg,.string ⟨bs.toArray⟩]) (by simp[results,Tryz.results90,go_sem,q0,q1]) rfl ⟨?_,?_⟩
    ·have e1:=q30 bs Hh.out;rw[SI.out] at e1;unfold wv;rw[qgg neg _ al,qme,e1]
    ·have:=vv ck (Nat.le_succ _);exact(this.setCell (by simp) _).setCell (by simp) _
theorem qgh (l:List Nat) (j x:Nat):dv (l.set j x)=(dv l).set j (.int .i64 (x:Int)):=by simp[dv,q2y,ints,List.map_set]
theorem qgi (n:Nat):List.replicate n (Value.int .i64 0)=dv (List.replicate n 0):=by simp[dv,q2y,ints]
theorem q7h (B n:Nat):val B (List.replicate n 0)=0:=by
 induction n with
 | zero=>rfl
 | succ n ih=>simp[List.replicate_succ,val,ih]
theorem q3a (n i:Nat):(List.replicate n (0:Nat)).getD i 0=0:=by simp only [List.getD,List.getElem?_replicate];split <;> rfl
theorem qgj (v u:Value) (zs ys:List Nat) (w:World) (h:Sl w 1 v (dv zs)) (k:Sl w 1 u (dv ys)) (rz:InR 65536 zs) (ry:InR 65536 ys)
  (bz:zs.length<=1099511627776) (zP:ys.length<=1099511627776) :
  Calls Tryz.prog 95 #[v,u] w fun e w'=>∃ r,e = .returned r/\Sl w' 1 r (dv (dig 65536 (val 65536 zs*val 65536 ys)))/\BwQ w w':=by
 obtain⟨a,len,cap,rfl,hl,hm,hz,hn,hc⟩:=h;obtain⟨b,ag,bU,rfl,ou,l5,dB,fw,hc'⟩:=k;rw[q1u,gL] at hz dB;unfold maxLen at hm l5;rw[hz] at bz;rw[dB] at zP;have Hz:=lhd hz;clear hz;have ec:=lhd dB;clear dB;have Hc:=lhd hc;clear hc;have nO:=lhd hc';clear hc';have Hn:=lhd hn;clear hn;have nP:=lhd fw;clear fw;obtain⟨i0,hi,aF,bR,bV⟩:=info_parts Tryz.xg;go_enter Tryz.func95,Tryz.ntmps95;go_wp2_with (at_make;refine wpList_make_full _ rfl _ _ 22 rfl w.heap.size 3 i0 (.int .i64 0) 1 Tryz.underlying22 hi aF bR _ _ _ _ (len+ag) rfl rfl (by omega) (by omega) (by rw[bV];omega) (by unfold maxLen;omega) (nlr _) ?_);intro w0 bN bP;have cW:BwQ w w0:=(Below.refl _ _).grown bP (nlr _) (fun k hk=>by cases hk);rw[toList_madeCells_one,qgi] at bN;clear bP;go_wp2;go_loopw [6] (fun i wr=>∃ (k:Nat) (l:List Nat),i = .int .i64 k/\k<=len/\l.length=len+ag/\InR 65536 l/\val 65536 l=val 65536 (zs.take k)*val 65536 ys/\(∀ j,k+ag<=j->l.getD j 0=0) ∧
   wr.ownsRow w.heap.size 3 1 (.slice (some ⟨w.heap.size,0,none⟩) (len+ag) (len+ag)) (len+ag) (dv l)/\BwQ w wr) (fun i _=>len - (intOf i).toNat)
 case atStart=>exact⟨0,_,rfl,go _,by simp,fun d hd=>by simp at hd;omega,by simp[q7h,val],fun j _=>q3a _ _,bN,cW⟩
 case round =>
  obtain⟨i,l,rfl,hi,bL,hr,hv,hzero,ah,hb⟩:=hrel;have cF:=lhd bL;clear bL;have Hv:=lhd hv;clear hv;have dC:=lhd hzero;clear hzero;clear bN cW;by_cases hlt:i < len
  ·obtain⟨ad,rfl⟩:=sadq Hn.out (by omega)
   obtain⟨wo,de⟩ : ∃ wo:World,wo=wr:=⟨_,rfl⟩
   subst de;go_wp2;obtain⟨p,hp⟩ : ∃ p,zs.getD i 0=p:=⟨_,rfl⟩
   have nQ:p < 65536:=hp ▸ xr rz (by omega) i;have Hp:=lhd hp;clear hp;go_loopw [7,8] (fun c q wr=>∃ (k d:Nat) (l:List Nat),q = .int .i64 k/\c = .int .i64 d/\k<=ag/\d < 65536/\l.length=len+ag/\InR 65536 l/\val 65536 l+65536 ^ (i+k)*d=mulR 65536 zs ys i k/\(∀ j,i+ag<=j->l.getD j 0=0) ∧
    wr.ownsRow w.heap.size 3 1 (.slice (some ⟨w.heap.size,0,none⟩) (len+ag) (len+ag)) (len+ag) (dv l)/\BwQ w wr) (fun _ q _=>ag - (intOf q).toNat)
   case atStart=>exact⟨0,0,l,rfl,rfl,go _,by omega,cF.out,hr,by rw[q7e,Nat.mul_zero,Nat.add_zero];exact Hv.out,dC.out,ah,hb⟩
   case round =>
    obtain⟨k,d,l2,rfl,rfl,hk,hd,bL,cC,hv,hzero,aY,aj⟩:=hrel;clear ah hb hr cF Hv dC;have cF:=lhd bL;clear bL;have Hv:=lhd hv;clear hv;have dC:=lhd hzero;clear hzero;by_cases bF:k < ag
    ·obtain⟨bd,rfl⟩:=sadq nP.out (by omega)
     have c1:wr.cell? (ad.add i)=some (.int .i64 (zs.getD i 0:Nat)):=q8 aj (Hc.out ad rfl i _ (vd zs i (by have:=Hz.out;omega)));have c2:wr.cell? (bd.add k)=some (.int .i64 (ys.getD k 0:Nat)):=q8 aj (nO.out bd rfl k _ (vd ys k (by have:=ec.out;omega)));have c3:wr.cell? ⟨w.heap.size,i+k,none⟩=some (.int .i64 (l2.getD (i+k) 0:Nat)):=(aY.cellAt (i+k) (by omega)).trans (vd l2 (i+k) (by have:=cF.out;omega));have f3:wr.frozen? ⟨w.heap.size,i+k,none⟩=false:=aY.frozenAt (i+k);rw[Hp.out] at c1;obtain⟨q,hq⟩ : ∃ q,ys.getD k 0=q:=⟨_,rfl⟩
     have fW:q < 65536:=hq ▸ xr ry (by omega) k;rw[hq] at c2;have Hq:=lhd hq;clear hq;obtain⟨o,ho⟩ : ∃ o,l2.getD (i+k) 0=o:=⟨_,rfl⟩
     have SJ:o < 65536:=ho ▸ xr cC (by omega) (i+k);rw[ho] at c3;have Ho:=lhd ho;clear ho;obtain⟨t,ht⟩ : ∃ t,p*q=t:=⟨_,rfl⟩
     have GQ:t<=65535*65535:=by rw[<-ht];exact Nat.mul_le_mul (by omega) (by omega)
     have rG:(p:Int)*q=t:=by rw[<-ht];simp
     have Ht:=lhd ht;clear ht;have s1:IntKind.i64.wrap ((i:Int)+k)=(i:Int)+k:=IntWalk.i64_in _ (by omega);have s2:IntKind.i64.wrap (t:Int)=t:=IntWalk.i64_in _ (by omega);have s3:IntKind.i64.wrap ((o:Int)+t)=(o:Int)+t:=IntWalk.i64_in _ (by omega);have s4:IntKind.i64.wrap ((o:Int)+t+d)=(o:Int)+t+d:=IntWalk.i64_in _ (by omega);have i1:(0:Int)<=(i:Int)+k:=by omega
     have i2:(i:Int)+k < (len:Int)+ag:=by omega
     have i3:((i:Int)+k).toNat=i+k:=by omega
     have i4:(0:Int)<=i:=by omega
     have i5:(0:Int)<=k:=by omega
     go_wp2
     go_quiet (fail)
     clear s2 s3 s4 rG;have ik:=((qep aY nq).stored (i+k) (.int .i64 (((o:Int)+t+d) % 65536))).1;have aQ:=(qb aj nq).setCell (p:=⟨w.heap.size,i+k,none⟩) (nlr _) (.int .i64 (((o:Int)+t+d) % 65536));go_wp2;go_roundw
     case measure=>simp[intOf];omega
     case rel =>
      have az:=q9u 65536 l2 (i+k) d t _ (by have:=cF.out;omega) Hv.out;rw[Ho.out] at az;refine⟨k+1,(o+t+d) / 65536,l2.set (i+k) ((o+t+d) % 65536),qh (by omega),qh (by omega),by omega,by omega,by simp[cF.out],y6 cC _ (Nat.mod_lt _ (by omega)),?_,?_,?_,aQ⟩
      ·rw[q7d,Hp.out,Hq.out,Ht.out,<-Nat.add_assoc];exact az
      ·intro j hj;rw[q1t _ _ _ _ (by omega)];exact dC.out j hj
      ·rw[qgh];have e:(((o+t+d) % 65536:Nat):Int)=((o:Int)+t+d) % 65536:=by omega
       rw[e];exact ik
    ·have ox:k=ag:=by omega
     have c3:wr.cell? ⟨w.heap.size,i+k,none⟩=some (.int .i64 (l2.getD (i+k) 0:Nat)):=(aY.cellAt (i+k) (by omega)).trans (vd l2 (i+k) (by have:=cF.out;omega));have f3:wr.frozen? ⟨w.heap.size,i+k,none⟩=false:=aY.frozenAt (i+k);rw[ox] at c3 f3;have i1:(0:Int)<=(i:Int)+ag:=by omega
     have i2:(i:Int)+ag < (len:Int)+ag:=by omega
     have ik:=(aY.stored (i+ag) (.int .i64 (d:Int))).1;have aQ:=aj.setCell (p:=⟨w.heap.size,i+ag,none⟩) (nlr _) (.int .i64 (d:Int));have zV:=lhd ox;clear ox;go_wp2;go_roundw
     case measure=>simp[intOf];omega
     case rel =>
      have hv2:=Hv.out;rw[zV.out] at hv2;have mP:=qd4 65536 l2 (i+ag) d _ (by have:=cF.out;omega) (dC.out _ (nlr _)) hv2;refine⟨i+1,l2.set (i+ag) d,qh (by omega),by omega,by simp[cF.out],y6 cC _ hd,?_,?_,?_,aQ⟩
      ·rw[mP,<-ec.out,q9v]
      ·intro j hj;rw[q1t _ _ _ _ (by omega)];exact dC.out j (by omega)
      ·rw[qgh];exact ik
  ·have ed:i=len:=by omega
   subst ed;go_wp2_with (go_at_call 146;refine(q3n _ _ _ (Sl.qc ah)).mono ?_;rintro e w' ⟨u,rfl,fI,rfl⟩);go_ret;refine⟨_,rfl,?_,hb⟩;have hv2:=Hv.out;rw[xo _ zs _ (by have:=Hz.out;omega)] at hv2;rw[ze 65536 (by omega) _ hr,hv2] at fI;exact fI
attribute [local go_sem ↓] Go.wp_at_zero Go.wp_at_succ
def Bx (w:World) (b:Nat) (n:Bool) (s:ByteArray):Prop :=
 w.cell? ⟨b,0,none⟩=some (.bool n)/\w.cell? ⟨b,1,none⟩=some (.string s)/\w.frozen? ⟨b,0,none⟩=false/\w.frozen? ⟨b,1,none⟩=false
theorem Bx.new (w:World) (n:Bool) (s:ByteArray) (t:TypeId):Bx (w.alloc (.cells #[.bool n,.string s] t)) w.heap.size n s :=
 ⟨qd w _ _ _ 0,qd w _ _ _ 1,jz (heap_alloc_new w _) 0,jz (heap_alloc_new w _) 1⟩
theorem Bx.q8 {w w':World} {b:Nat} {n:Bool} {s:ByteArray} (h:Bx w b n s) {B:Nat} (hb:Below B w w') (hB:b < B):Bx w' b n s :=
 ⟨(hb.cell (by exact hB)).trans h.1,(hb.cell (by exact hB)).trans h.2.1,(hb.frozen (by exact hB)).trans h.2.2.1,(hb.frozen (by exact hB)).trans h.2.2.2⟩
theorem Bx.alloc {w:World} {b:Nat} {n:Bool} {s:ByteArray} (h:Bx w b n s) (hb:b < w.heap.size) (o:Obj):Bx (w.alloc o) b n s :=
 h.q8 (bal w o) hb
theorem js (s:ByteArray):(dig 65536 (qy s.data.toList)).length<=(s.size+1) / 2:=by
 refine y9 65536 (by omega) _ _ ?_;have h1:=q5m s.data.toList;have h3:s.data.toList.length=s.size:=by simp
 rw[h3] at h1;have h2:(256:Nat) ^ s.size<=256 ^ (2*((s.size+1) / 2)):=bw (by omega) (by omega);rw[Nat.pow_mul,show (256:Nat) ^ 2=65536 by decide] at h2;omega
theorem q3o (neg:Bool) (v:Value) (n:Nat) (w:World) (h:Sl w 1 v (dv (dig 65536 n))) (bz:(dig 65536 n).length<=1099511627776) :
  Calls Tryz.prog 90 #[.bool neg,v] w fun e w'=>e = .returned (wv (sg neg n))/\BwQ w w':=by
 have:=q8e neg v _ w h (zb 65536 (by omega) n) bz
 rwa [xw 65536 (by omega)] at this
theorem xt {B:Nat} {w w':World} (h:Below B w.drew w'):Below B w w':=((Below.refl _ w).drew).trans h
theorem bump {W w1 w2:World} {B:Nat} (h1:Below B W w1) (hz:B<=W.heap.size) (h2:BwQ w1 w2):Below B W w2:=h1.trans (h2.mono (gl hz h1.size))
theorem qgk (n:Bool) (x y:Nat):sg n (x+y)=sg n x+sg n y:=by unfold sg;cases n <;> simp <;> omega
theorem q8f (n m:Bool) (x y:Nat) (h:n≠m) (hxy:y<=x):sg n (x - y)=sg n x+sg m y:=by unfold sg;cases n <;> cases m <;> simp at*<;> omega
theorem qgl (n m:Bool) (x y:Nat):sg (n != m) (x*y)=sg n x*sg m y:=by unfold sg;cases n <;> cases m <;> simp[Int.neg_mul,Int.mul_neg]
theorem qmy (n:Bool) (x:Nat):sg (!n) x = -(sg n x):=by unfold sg;cases n <;> simp
theorem qd6 {x y:Nat} (h:y<=x):0<=q5o x y:=by unfold q5o;split <;> (try split) <;> omega
theorem q9x {x y:Nat} (h:x < y):q5o x y < 0:=by rw[q3l h];omega
theorem qpw (neg:Bool) (s:ByteArray) (w:World) (hs:s.size<=1099511627776) :
  Calls Tryz.prog 174 #[.agg #[.bool neg,.string s]] w fun e w'=>e = .returned (wv (-(iv neg s)))/\BwQ w w':=by
 have hl:=js s;go_enter Tryz.func174,Tryz.ntmps174;go_wp2;obtain⟨W,hW⟩ : ∃ W:World,W=(w.alloc (.cells #[.bool neg,.string s] 38)).alloc (.cells #[.bool false,.string ⟨#[]⟩] 38):=⟨_,rfl⟩
 rw[<-hW];have b0:Bx W w.heap.size neg s:=hW ▸ (Bx.new w neg s _).alloc (by simp) _;have b1:Bx W (w.heap.size+1) false ⟨#[]⟩:=by rw[hW];have:=Bx.new (w.alloc (.cells #[.bool neg,.string s] 38)) false ⟨#[]⟩ 38;simpa using this
 have hw:BwQ w W:=hW ▸ (bal _ _).alloc (by simp) _;have hz:w.heap.size+2<=W.heap.size:=by rw[hW];simp
 clear hW;have ⟨p0,p1,_,_⟩:=b0
 go_region_held3 (fun w'=>w'.cell? ⟨w.heap.size,0,none⟩=some (.bool neg)/\w'.cell? ⟨w.heap.size,1,none⟩=some (.string s)) (first | exact⟨by assumption,by assumption⟩ | go_keep)
  (first
   |(go_at_call 91;refine(kz _ _ _ hs).mono ?_;rintro e w1 ⟨u,rfl,hu,ai⟩;have ak:Below (w.heap.size+2) W w1:=xt (ai.mono (by simpa using hz));obtain⟨q0,q1,-,-⟩:=b0.q8 ak (by omega))
   |(go_at_call 90;refine(q3o _ _ _ _ hu (by omega)).mono ?_;rintro e w2 ⟨rfl,aj⟩;have aw:Below (w.heap.size+2) W w2:=bump ak hz aj;obtain⟨s0,s1,-,-⟩:=b0.q8 aw (by omega);obtain⟨t0,t1,t2,t3⟩:=b1.q8 aw (by omega)))
 go_wp2;refine bodyPost_ret (v:=wv (sg (!neg) (qy s.data.toList))) (by simp[results,Tryz.results174,go_sem,t0,t1]) rfl ⟨?_,?_⟩
 ·rw[qmy];rfl
 ·exact((hw.trans (aw.mono (by omega))).setCell (by simp) _).setCell (by simp) _
theorem q1v (n m:Bool) (s t:ByteArray) (w:World) (hs:s.size<=1099511627776) (ht:t.size<=1099511627776) :
  Calls Tryz.prog 33 #[.agg #[.bool n,.string s],.agg #[.bool m,.string t]] w fun e w'=>e = .returned (wv (iv n s+iv m t))/\BwQ w w':=by
 have hl:=js s;have ou:=js t;generalize hx:qy s.data.toList=x at *;generalize hy:qy t.data.toList=y at *;have Hx:=lhd hx;clear hx;have Hy:=lhd hy;clear hy;go_enter Tryz.func33,Tryz.ntmps33;go_wp2_with fail;obtain⟨W,hW⟩ : ∃ W:World,W=((w.alloc (.cells #[.bool n,.string s] 38)).alloc (.cells #[.bool m,.string t] 38)).alloc (.cells #[.bool false,.string ⟨#[]⟩] 38):=⟨_,rfl⟩
 rw[<-hW];have b0:Bx W w.heap.size n s:=hW ▸ ((Bx.new w n s _).alloc (by simp) _).alloc (by simp;omega) _;have b1:Bx W (w.heap.size+1) m t:=by rw[hW];have:=Bx.new (w.alloc (.cells #[.bool n,.string s] 38)) m t 38;exact(by simpa using this:Bx _ (w.heap.size+1) m t).alloc (by simp) _
 have b2:Bx W (w.heap.size+1+1) false ⟨#[]⟩:=by rw[hW];have:=Bx.new ((w.alloc (.cells #[.bool n,.string s] 38)).alloc (.cells #[.bool m,.string t] 38)) false ⟨#[]⟩ 38;simpa using this
 have hw:BwQ w W:=hW ▸ ((bal _ _).alloc (by simp) _).alloc (by simp;omega) _;have hz:w.heap.size+3<=W.heap.size:=by rw[hW];simp
 clear hW;refine(kz _ _ _ hs).mono ?_;rintro e w1 ⟨u,rfl,hu,ai⟩;rw[Hx.out] at hu;have ak:Below (w.heap.size+3) W w1:=ai.mono hz;obtain⟨p0,p1,-,-⟩:=b1.q8 ak (by omega);go_wp2_with fail;refine(kz _ _ _ ht).mono ?_;rintro e w2 ⟨v,rfl,hv,aj⟩;rw[Hy.out] at hv;have aw:Below (w.heap.size+3) W w2:=bump ak hz aj;have bV:w.heap.size+3<=w2.heap.size:=gl hz aw.size;have rU:=hu.q8 aj;clear hu p0 p1;have c0:=b0.q8 aw (by omega);have c1:=b1.q8 aw (by omega);have c2:=b2.q8 aw (by omega);have ⟨q0,q1,_,_⟩:=c0;have ⟨r0,r1,_,_⟩:=c1;by_cases ug:n=m
 ·subst ug;have hbb:(n == n)=true:=by simp
  go_wp2_with fail
  go_region_held3 (fun w'=>w'.cell? ⟨w.heap.size,0,none⟩=some (.bool n)) (first | assumption | exact xe (xe (by assumption) (by simp <;> omega)) (by simp <;> omega))
   (first
    |(go_at_call 92;refine(qjx _ _ _ _ _ rU.drew hv.drew (zb 65536 (by omega) x) (zb 65536 (by omega) y) (by omega) (by omega)).mono ?_;rintro e w3 ⟨r,rfl,l,hr,cP,eW,hlen,aQ⟩;have Js:=lhd eW;clear eW;have ar:Below (w.heap.size+3) w2 w3:=xt (aQ.mono (by simpa using bV));obtain⟨a0,-,-,-⟩:=c0.q8 ar (by omega))
    |(go_at_call 90;refine(q8e _ _ _ _ (Sl.qc hr) cP (by omega)).mono ?_;rintro e w4 ⟨rfl,aM⟩;have aD:Below (w.heap.size+3) w2 w4:=bump ar bV aM;obtain⟨s0,-,-,-⟩:=c0.q8 aD (by omega);obtain⟨t0,t1,t2,t3⟩:=c2.q8 aD (by omega)))
  go_wp2;refine bodyPost_ret (v:=wv (sg n (val 65536 l))) (by simp[results,Tryz.results33,go_sem,t0,t1]) rfl ⟨?_,?_⟩
  ·rw[Js.out,xw 65536 (by omega),xw 65536 (by omega),qgk,jq,jq,Hx.out,Hy.out]
  ·exact((hw.trans ((aw.trans aD).mono (by omega))).setCell (by simp <;> omega) _).setCell (by simp <;> omega) _
 ·have hbb:(n == m)=false:=by simpa using ug
  go_wp2_with fail;refine(qbs _ _ x y _ rU hv).mono ?_;rintro e w3 ⟨rfl,aQ⟩;have ar:Below (w.heap.size+3) w2 w3:=aQ.mono bV;have kK:w.heap.size+3<=w3.heap.size:=gl bV ar.size;have Dr:=rU.q8 aQ;have hv3:=hv.q8 aQ;have d0:=c0.q8 ar (by omega);have d1:=c1.q8 ar (by omega);have d2:=c2.q8 ar (by omega);clear q0 q1 r0 r1;have ⟨q0,q1,_,_⟩:=d0;have ⟨r0,r1,_,_⟩:=d1;by_cases hxy:y<=x
  ·have bY:=qd6 hxy;go_wp2_with fail
   go_region_held3 (fun w'=>w'.cell? ⟨w.heap.size,0,none⟩=some (.bool n)) (first | assumption | exact xe (xe (by assumption) (by simp <;> omega)) (by simp <;> omega))
    (first
     |(go_at_call 94;refine(q9w _ _ _ _ _ Dr.drew hv3.drew hxy (by omega)).mono ?_;rintro e w4 ⟨r,rfl,hr,aM⟩;have aD:Below (w.heap.size+3) w3 w4:=xt (aM.mono (by simpa using kK));obtain⟨a0,-,-,-⟩:=d0.q8 aD (by omega))
     |(go_at_call 90;refine(q3o _ _ _ _ hr (gl (j4 65536 (by omega) _ _ (Nat.sub_le x y)) (by omega))).mono ?_;rintro e w5 ⟨rfl,cU⟩;have aB:Below (w.heap.size+3) w3 w5:=bump aD kK cU;obtain⟨s0,-,-,-⟩:=d0.q8 aB (by omega);obtain⟨t0,t1,t2,t3⟩:=d2.q8 aB (by omega)))
   go_wp2;refine bodyPost_ret (v:=wv (sg n (x - y))) (by simp[results,Tryz.results33,go_sem,t0,t1]) rfl ⟨?_,?_⟩
   ·rw[q8f n m x y ug hxy,jq,jq,Hx.out,Hy.out]
   ·exact((hw.trans (((aw.trans ar).trans aB).mono (by omega))).setCell (by simp <;> omega) _).setCell (by simp <;> omega) _
  ·have bY:=q9x (show x < y by omega);go_wp2_with fail
   go_region_held3 (fun w'=>w'.cell? ⟨w.heap.size+1,0,none⟩=some (.bool m)) (first | assumption | exact xe (xe (by assumption) (by simp <;> omega)) (by simp <;> omega))
    (first
     |(go_at_call 94;refine(q9w _ _ _ _ _ hv3.drew Dr.drew (by omega) (by omega)).mono ?_;rintro e w4 ⟨r,rfl,hr,aM⟩;have aD:Below (w.heap.size+3) w3 w4:=xt (aM.mono (by simpa using kK));obtain⟨a0,-,-,-⟩:=d1.q8 aD (by omega))
     |(go_at_call 90;refine(q3o _ _ _ _ hr (gl (j4 65536 (by omega) _ _ (Nat.sub_le y x)) (by omega))).mono ?_;rintro e w5 ⟨rfl,cU⟩;have aB:Below (w.heap.size+3) w3 w5:=bump aD kK cU;obtain⟨s0,-,-,-⟩:=d1.q8 aB (by omega);obtain⟨t0,t1,t2,t3⟩:=d2.q8 aB (by omega)))
   go_wp2;refine bodyPost_ret (v:=wv (sg m (y - x))) (by simp[results,Tryz.results33,go_sem,t0,t1]) rfl ⟨?_,?_⟩
   ·rw[q8f m n y x (fun e=>ug e.symm) (by omega),jq,jq,Hx.out,Hy.out,Int.add_comm]
   ·exact((hw.trans (((aw.trans ar).trans aB).mono (by omega))).setCell (by simp <;> omega) _).setCell (by simp <;> omega) _
theorem qmz (n m:Bool) (s t:ByteArray) (w:World) (hs:s.size<=1099511627775) (ht:t.size<=1099511627775) :
  Calls Tryz.prog 34 #[.agg #[.bool n,.string s],.agg #[.bool m,.string t]] w fun e w'=>e = .returned (wv (iv n s*iv m t))/\BwQ w w':=by
 have hl:=js s;have ou:=js t;generalize hx:qy s.data.toList=x at *;generalize hy:qy t.data.toList=y at *;have Hx:=lhd hx;clear hx;have Hy:=lhd hy;clear hy;have hxy:(dig 65536 (x*y)).length<=1099511627776:=by have h1:=zy 65536 (by omega) x;have h2:=zy 65536 (by omega) y;have h3:=Nat.mul_lt_mul'' h1 h2;rw[<-Nat.pow_add] at h3;have:=y9 65536 (by omega) _ _ h3;omega
 go_enter Tryz.func34,Tryz.ntmps34;go_wp2_with fail;obtain⟨W,hW⟩ : ∃ W:World,W=((w.alloc (.cells #[.bool n,.string s] 38)).alloc (.cells #[.bool m,.string t] 38)).alloc (.cells #[.bool false,.string ⟨#[]⟩] 38):=⟨_,rfl⟩
 rw[<-hW];have b0:Bx W w.heap.size n s:=hW ▸ ((Bx.new w n s _).alloc (by simp) _).alloc (by simp;omega) _;have b1:Bx W (w.heap.size+1) m t:=by rw[hW];have:=Bx.new (w.alloc (.cells #[.bool n,.string s] 38)) m t 38;exact(by simpa using this:Bx _ (w.heap.size+1) m t).alloc (by simp) _
 have b2:Bx W (w.heap.size+1+1) false ⟨#[]⟩:=by rw[hW];have:=Bx.new ((w.alloc (.cells #[.bool n,.string s] 38)).alloc (.cells #[.bool m,.string t] 38)) false ⟨#[]⟩ 38;simpa using this
 have hw:BwQ w W:=hW ▸ ((bal _ _).alloc (by simp) _).alloc (by simp;omega) _;have hz:w.heap.size+3<=W.heap.size:=by rw[hW];simp
 clear hW;have ⟨p0,p1,_,_⟩:=b0;have ⟨q0,q1,_,_⟩:=b1;have cp:True:=trivial
 go_region_held3 (fun w'=>w'.cell? ⟨w.heap.size,0,none⟩=some (.bool n)/\w'.cell? ⟨w.heap.size,1,none⟩=some (.string s)/\w'.cell? ⟨w.heap.size+1,0,none⟩=some (.bool m)/\w'.cell? ⟨w.heap.size+1,1,none⟩=some (.string t))
  (first | exact⟨by assumption,by assumption,by assumption,by assumption⟩ | (refine⟨?_,?_,?_,?_⟩ <;> exact xe (xe (by assumption) (by simp <;> omega)) (by simp <;> omega)))
  (first
   |(go_at_call 91;have _t:=cp;refine(kz _ _ _ (by omega)).mono ?_;rintro e w1 ⟨u,rfl,hu,ai⟩;rw[Hx.out] at hu;have ak:Below (w.heap.size+3) W w1:=xt (ai.mono (by simpa using hz));obtain⟨a0,a1,-,-⟩:=b0.q8 ak (by omega);obtain⟨a2,a3,-,-⟩:=b1.q8 ak (by omega);clear _t cp)
   |(go_at_call 91;refine(kz _ _ _ (by omega)).mono ?_;rintro e w2 ⟨v,rfl,hv,aj⟩;rw[Hy.out] at hv;have rU:=hu.q8 aj;have aw:Below (w.heap.size+3) W w2:=bump ak hz aj;obtain⟨c0,c1,-,-⟩:=b0.q8 aw (by omega);obtain⟨c2,c3,-,-⟩:=b1.q8 aw (by omega))
   |(go_at_call 95;refine(qgj _ _ _ _ _ rU hv (zb 65536 (by omega) x) (zb 65536 (by omega) y) (by omega) (by omega)).mono ?_;rintro e w3 ⟨r,rfl,hr,aQ⟩;rw[xw 65536 (by omega),xw 65536 (by omega)] at hr;have ar:Below (w.heap.size+3) W w3:=bump aw hz aQ;obtain⟨d0,d1,-,-⟩:=b0.q8 ar (by omega);obtain⟨d2,d3,-,-⟩:=b1.q8 ar (by omega))
   |(go_at_call 90;refine(q3o _ _ _ _ hr hxy).mono ?_;rintro e w4 ⟨rfl,aM⟩;have aD:Below (w.heap.size+3) W w4:=bump ar hz aM;obtain⟨s0,s1,-,-⟩:=b0.q8 aD (by omega);obtain⟨s2,s3,-,-⟩:=b1.q8 aD (by omega);obtain⟨t0,t1,t2,t3⟩:=b2.q8 aD (by omega)))
 go_wp2;have Jt:(!(n == m))=(n != m):=by cases n <;> cases m <;> rfl
 refine bodyPost_ret (v:=wv (sg (!(n == m)) (x*y))) (by simp[results,Tryz.results34,go_sem,t0,t1]) rfl ⟨?_,?_⟩
 ·rw[Jt,qgl,jq,jq,Hx.out,Hy.out]
 ·exact((hw.trans (aD.mono (by omega))).setCell (by simp <;> omega) _).setCell (by simp <;> omega) _
def ve (x:Int):Int:=if x=0 then 0 else if x < 0 then -1 else 1
theorem q2j (n:Bool) (s:ByteArray) (w:World) (hs:s.size<=1099511627776) :
  Calls Tryz.prog 140 #[.agg #[.bool n,.string s]] w fun e w'=>e = .returned (.int .i64 (ve (iv n s)))/\BwQ w w':=by
 have il:=q15 65536 (qy s.data.toList) (by omega);go_enter Tryz.func140,Tryz.ntmps140;go_wp2_with fail;obtain⟨W,hW⟩ : ∃ W:World,W=w.alloc (.cells #[.bool n,.string s] 38):=⟨_,rfl⟩
 rw[<-hW];have b0:Bx W w.heap.size n s:=hW ▸ Bx.new w n s _;have hw:BwQ w W:=hW ▸ bal _ _;have hz:w.heap.size+1<=W.heap.size:=by rw[hW];simp
 clear hW;refine(kz _ _ _ hs).mono ?_;rintro e w1 ⟨u,rfl,hu,ai⟩;have ak:Below (w.heap.size+1) W w1:=ai.mono hz;obtain⟨p0,p1,-,-⟩:=b0.q8 ak (by omega);obtain⟨a,k,cap,rfl,h1,h2,h3,h4,h5⟩:=hu;unfold maxLen at h2;rw[q1u,gL] at h3;have rV:=lhd il;clear il;have H3:=lhd h3;clear h3;clear h4 h5;by_cases hk:k=0
 ·subst hk;have h0:iv n s=0:=by have:qy s.data.toList=0:=rV.out.1 (List.length_eq_zero_iff.1 H3.out);rw[jq,this,q57]
  have H0:=lhd h0;clear h0;go_wp2;go_ret;exact⟨by rw[H0.out];rfl,hw.trans (ak.mono (by omega))⟩
 ·have px:((k:Int) == 0)=false:=by simp;omega
  have al:qy s.data.toList≠0:=by intro e;have h:=rV.out.2 e;have h3:=H3.out;rw[h] at h3;exact hk h3.symm
  have Ds:=lhd al;clear al;cases n with
  | true =>go_wp2;go_ret;refine⟨?_,hw.trans (ak.mono (by omega))⟩;have:=Ds.out;rw[ve,jq,sg,if_neg (by simp;omega),if_pos (by simp;omega)];rfl
  | false =>go_wp2;go_ret;refine⟨?_,hw.trans (ak.mono (by omega))⟩;have:=Ds.out;rw[ve,jq,sg,if_neg (by simp;omega),if_neg (by simp)];rfl
end Go.Proofs.YtlhicnfeajejhaaGreatDoor
namespace Go.Proofs.YtlhicnfeajejhaaGreatDoor
open Go.RowKit Go.Cx
theorem qd7 (x:Int) (h1 : -9223372036854775808<=x) (h2:x < 0):IntKind.u64.wrap (-IntKind.u64.wrap x)=(x.natAbs:Int):=by simp[IntKind.wrap,IntKind.bits,IntKind.signed];omega
theorem qgm (l:List Nat) (k n:Nat) (hv:val 65536 l+65536 ^ l.length*k=n) (hk:0 < k) (hn:n < 18446744073709551616):l.length < 4:=by
 rcases gP l.length 4 with h | h
 ·exact h
 ·exfalso
  have h1:65536 ^ 4<=65536 ^ l.length:=bw (by omega) h;have h2:65536 ^ l.length*1<=65536 ^ l.length*k:=Nat.mul_le_mul_left _ hk;have h3:(65536:Nat) ^ 4=18446744073709551616:=by decide
  omega
theorem qes (l:List Nat) (k n:Nat) (hv:val 65536 l+65536 ^ l.length*k=n):val 65536 (l++[k % 65536])+65536 ^ (l++[k % 65536]).length*(k / 65536)=n:=by rw[vu,gc,List.length_singleton,Nat.pow_succ,Nat.mul_assoc,Nat.add_assoc,<-Nat.mul_add,Nat.mod_add_div,hv]
theorem q58 (x:Int) (w:World) (h1 : -9223372036854775808<=x) (h2:x<=9223372036854775807) :
  Calls Tryz.prog 29 #[.int .i64 x] w fun e w'=>e = .returned (wv x)/\BwQ w w':=by
 have bX:sg (decide (x < 0)) x.natAbs=x:=by
  unfold sg;by_cases h:x < 0
  ·rw[if_pos (by simpa using h)];omega
  ·rw[if_neg (by simpa using h)];omega
 have Ju:=lhd bX;clear bX;have h0:∃ y:Nat,x.natAbs=y/\y<=9223372036854775808:=⟨_,rfl,by omega⟩
 obtain⟨y,hy,wT⟩:=h0;by_cases hx:x < 0
 all_goals
  go_enter Tryz.func29,Tryz.ntmps29;go_wp2_with fail
  first
   | rw[qd7 x h1 hx,hy]
   |(have hxy:x=(y:Int):=by omega
     subst hxy)
  have Hy:=lhd hy;clear hy;go_loopw [3,4] (fun o m wr=>∃ (k:Nat) (l:List Nat),m = .int .u64 k/\k<=9223372036854775808/\l.length<=4/\InR 65536 l/\val 65536 l+65536 ^ l.length*k=y/\wr.ownsRow (w.heap.size+1) 3 1 o l.length (dv l) ∧
   Below (w.heap.size+1) (w.alloc (.cells #[.bool false,.string ⟨#[]⟩] 38)) wr) (fun _ m _=>(intOf m).toNat)
  case atStart=>exact⟨y,[],rfl,wT,by simp,q3j _,by simp[val],World.ownsRow_nil _ _ _ _,Below.refl _ _⟩
  case round =>
   obtain⟨k,l,rfl,hk,hl,hr,hv,ah,hb⟩:=hrel;have az:w.heap.size+1<=wr.heap.size:=gl (by simp) hb.size;have Hv:=lhd hv;clear hv;by_cases dH:0 < k
   ·have NJ:=qgm l k y Hv.out dH (by omega);go_wp2_with (at_builtin;refine qo rfl _ _ 22 rfl (w.heap.size+1) 3 Tryz.xg Tryz.underlying22 rfl (by decide) (by decide) _ _ _ rfl ah [.int .i64 _] rfl rfl kj (by omega) hb az ?_);intro v' w1 aW dA ck;go_wp2;go_roundw
    case measure=>simp[intOf];omega
    case rel =>refine⟨k / 65536,l++[k % 65536],by first | rfl | (congr 1),by omega,by simp;omega,q01 hr (q2g (Nat.mod_lt _ (by omega))),qes l k y Hv.out,?_,ck⟩;have:=q17 (d:=k % 65536) aW (by first | rfl | omega);simpa using this
   ·have ig:k=0:=by omega
    subst ig;have NK:val 65536 l=y:=by have:=Hv.out;omega
    have NJ:l.length<=1099511627776:=by omega
    have c0:Bx wr w.heap.size false ⟨#[]⟩:=(Bx.new w false ⟨#[]⟩ 38).q8 hb (by omega);have SK:=lhd NK;clear NK;go_wp2_with fail;refine(q8e _ _ _ _ (Sl.qc ah) hr NJ).mono ?_;rintro e w2 ⟨rfl,aj⟩;rw[SK.out];have aw:Below (w.heap.size+1) wr w2:=aj.mono az;obtain⟨t0,t1,t2,t3⟩:=c0.q8 aw (by omega);go_wp2_with fail;have hB:=(vv (hb.trans aw) (Nat.le_succ _):BwQ w w2)
    first
     |(refine bodyPost_ret (v:=wv (sg true y)) ?_ rfl ⟨?_,(hB.setCell (by simp) _).setCell (by simp) _⟩
       ·(simp[results,Tryz.results29,go_sem,t0,t1];done))
     |(refine bodyPost_ret (v:=wv (sg (decide ((y:Int) < 0)) y)) ?_ rfl ⟨?_,(hB.setCell (by simp) _).setCell (by simp) _⟩
       ·(simp[results,Tryz.results29,go_sem,t0,t1];done))
    have e:=Ju.out
    first
     |(rw[Hy.out,show decide (x < 0)=true by simpa using hx] at e;rw[e])
     |(rw[Int.natAbs_natCast] at e;rw[e])
end Go.Proofs.YtlhicnfeajejhaaGreatDoor
