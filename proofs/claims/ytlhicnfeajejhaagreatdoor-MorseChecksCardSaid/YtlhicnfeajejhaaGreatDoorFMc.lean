/- Steps towards MorseChecks. Conditions: none. -/
import Derived.LoopIn
import Derived.LoopNIn
import Derived.OwnWalkIn
import Derived.RangeFuncBound
import Derived.RangeFuncNested
import Derived.Shelf.RegionOpen
import Derived.Test.YtlhicnfeajejhaaGreatDoorFMb
set_option maxRecDepth 1000000
set_option maxHeartbeats 16000000
namespace Go.Proofs.YtlhicnfeajejhaaGreatDoor
open Go.RowKit Go.Cx
def du (l:List Nat):List Value:=l.map fun (d:Nat)=>.int .u64 (d:Int)
theorem zu (l:List Nat) (k:Nat) (h:k < l.length):(du l)[k]? = some (.int .u64 (l.getD k 0:Nat)):=by
 simp[du,List.getD,h]
theorem q18 (l:List Nat):(du l).length=l.length:=by simp[du]
theorem qjy (l:List Nat) (k:Nat):du (l.take k)=(du l).take k:=by simp[du,List.map_take]
theorem q5s (l:List Nat) (j x:Nat):du (l.set j x)=(du l).set j (.int .u64 (x:Int)):=by simp[du,List.map_set]
theorem q1w (n:Nat):List.replicate n (Value.int .u64 0)=du (List.replicate n 0):=by simp[du]
theorem Tryz.q59:(Tryz.prog.info? 113).map (fun i=>(i.zero,i.size,i.bytes))=some (some (.int .u64 0),1,8):=by kernel_rfl
theorem q7i (v:Value) (zs:List Nat) (w:World) (h:Sl w 1 v (du zs)) :
  Calls Tryz.prog 175 #[v] w fun e w'=>∃ u,e = .returned u/\Sl w 1 u (du (trim zs))/\w=w':=by
 obtain⟨a,len,cap,rfl,hl,hm,hz,hn,hc⟩:=h;rw[q18,gK] at hz;unfold maxLen at hm;have Hz:=lhd hz;clear hz;have Hc:=lhd hc;clear hc;have Hn:=lhd hn;clear hn;go_enter Tryz.func175,Tryz.ntmps175;go_wp2
 go_loop [0] (fun s=>∃ k:Nat,k<=len/\trim zs=trim (zs.take k)/\s = .slice a k cap) (fun s=>match s with | .slice _ k _=>k | _=>0)
 case atStart=>exact⟨len,nlr _,by rw[ge (by have:=Hz.out;omega)],rfl⟩
 case round =>
  obtain⟨k,hk,ht,rfl⟩:=hrel;have Ht:=lhd ht;clear ht;by_cases h0:0 < k
  ·obtain⟨ad,rfl⟩ : ∃ ad,a=some ad:=by
    cases a with
    | none=>have:=Hn.out rfl;omega
    | some ad=>exact⟨ad,rfl⟩
   have aA:=Hc.out ad rfl (k - 1) _ (zu zs (k - 1) (by have:=Hz.out;omega));obtain⟨z,hz⟩ : ∃ z,zs.getD (k-1) 0=z:=⟨_,rfl⟩
   rw[hz] at aA;have HZ:=lhd hz;clear hz;by_cases bL:z=0
   ·subst bL;go_wp2
    go_round
    case rel=>exact⟨k - 1,by omega,by rw[Ht.out];exact q7f zs k h0 HZ.out (by have:=Hz.out;omega),rfl⟩
    case measure=>show k - 1 < k;omega
   ·have hb:((z:Int) == 0)=false:=by simp;omega
    go_wp2;go_ret;refine⟨_,rfl,?_,rfl⟩;rw[Ht.out,q7g zs k h0 (by rw[HZ.out];exact bL) (by have:=Hz.out;omega),qjy];have hS:Sl w 1 (.slice (some ad) len cap) (du zs):=⟨_,_,_,rfl,hl,(by unfold maxLen;omega),(by rw[q18,gK];exact Hz.out),Hn.out,Hc.out⟩
    have:=hS.take hk
    rwa [gK] at this
  ·have mO:k=0:=by omega
   subst mO;go_wp2;go_ret;refine⟨_,rfl,?_,rfl⟩;rw[Ht.out];exact⟨_,_,_,rfl,gp _,(by unfold maxLen;omega),rfl,Hn.out,fun ad _ j u hj=>by simp[du,trim] at hj⟩
theorem qpx (v u:Value) (x y:Nat) (w:World) (h:Sl w 1 v (du (dig 4294967296 x))) (k:Sl w 1 u (du (dig 4294967296 y))) :
  Calls Tryz.prog 148 #[v,u] w fun e w'=>e = .returned (.int .i64 (q5o x y))/\Below w.heap.size w w':=by
 obtain⟨a,len,cap,rfl,hl,hm,hz,hn,hc⟩:=h;obtain⟨b,aj,bE,rfl,rP,qZ,eQ,kH,hc'⟩:=k;rw[q18,gK] at hz eQ;unfold maxLen at hm qZ;generalize fF:dig 4294967296 x=zs at *;generalize dW:dig 4294967296 y=ys at *;have rz:InR 4294967296 zs:=fF ▸ zb 4294967296 (by omega) x;have ry:InR 4294967296 ys:=dW ▸ zb 4294967296 (by omega) y;have vz:val 4294967296 zs=x:=fF ▸ xw 4294967296 (by omega) x;have vy:val 4294967296 ys=y:=dW ▸ xw 4294967296 (by omega) y;by_cases ak:len=aj
 ·subst ak;have Hz:=lhd hz;clear hz;have iV:=lhd eQ;clear eQ;have UW:=lhd fF;clear fF;have UX:=lhd dW;clear dW;have Vz:=lhd vz;clear vz;have Vy:=lhd vy;clear vy;have Hc:=lhd hc;clear hc;have tA:=lhd hc';clear hc';have Hn:=lhd hn;clear hn;have tC:=lhd kH;clear kH;go_enter Tryz.func148,Tryz.ntmps148;go_wp2;go_loopw [5] (fun i wr=>∃ (j:Nat),i = .int .i64 ((j:Int) - 1)/\j<=len/\zs.drop j=ys.drop j/\Below w.heap.size w wr) (fun i _=>(intOf i+1).toNat)
  case atStart=>exact⟨len,rfl,nlr _,by rw[gW (by have:=Hz.out;omega),gW (by have:=iV.out;omega)],Below.refl _ _⟩
  case round =>
   obtain⟨j,rfl,hj,hd,hb⟩:=hrel;have Hd:=lhd hd;clear hd;by_cases h0:0 < j
   ·obtain⟨ad,rfl⟩ : ∃ ad,a=some ad:=by
     cases a with
     | none=>have:=Hn.out rfl;omega
     | some ad=>exact⟨ad,rfl⟩
    obtain⟨bd,rfl⟩ : ∃ bd,b=some bd:=by
     cases b with
     | none=>have:=tC.out rfl;omega
     | some bd=>exact⟨bd,rfl⟩
    obtain⟨m,rfl⟩ : ∃ m,j=m+1:=⟨j - 1,by omega⟩
    have e1:((m+1:Nat):Int) - 1=m:=by omega
    rw[e1];have c1:wr.cell? (ad.add m)=some (.int .u64 (zs.getD m 0:Nat)):=q8 hb (Hc.out ad rfl m _ (zu zs m (by have:=Hz.out;omega)));have c2:wr.cell? (bd.add m)=some (.int .u64 (ys.getD m 0:Nat)):=q8 hb (tA.out bd rfl m _ (zu ys m (by have:=iV.out;omega)));obtain⟨p,hp⟩ : ∃ p,zs.getD m 0=p:=⟨_,rfl⟩
    obtain⟨q,hq⟩ : ∃ q,ys.getD m 0=q:=⟨_,rfl⟩
    rw[hp] at c1;rw[hq] at c2;have Hp:=lhd hp;clear hp;have Hq:=lhd hq;clear hq;have i1:(0:Int)<=m:=by omega
    have i2:(m:Int) < len:=by omega
    by_cases heq:p=q
    ·have AL:decide (p < q)=false:=by simp;omega
     have ir:decide (q < p)=false:=by simp;omega
     have Qa:=lhd heq;clear heq;go_wp2
     go_quiet (fail)
     go_wp2
     go_quiet (fail)
     go_wp2;go_roundw
     case measure=>simp[intOf]
     case rel=>exact⟨m,rfl,by omega,q3m zs ys m (by have:=Hz.out;omega) (by have:=iV.out;omega) Hd.out (by rw[Hp.out,Hq.out];exact Qa.out),qb hb _⟩
    ·by_cases hlt:p < q
     ·go_wp2
      go_quiet (fail)
      go_wp2;go_ret;refine⟨?_,qb hb _⟩;have:=q54 4294967296 zs ys m (by have:=Hz.out;omega) (by have:=iV.out;omega) Hd.out rz (by rw[Hp.out,Hq.out];exact hlt);rw[Vz.out,Vy.out] at this;rw[q3l this];rfl
     ·go_wp2
      go_quiet (fail)
      go_wp2
      go_quiet (fail)
      go_wp2;go_ret;refine⟨?_,qb (qb hb _) _⟩;have:=q54 4294967296 ys zs m (by have:=iV.out;omega) (by have:=Hz.out;omega) Hd.out.symm ry (by rw[Hp.out,Hq.out];omega);rw[Vz.out,Vy.out] at this;rw[q55 this];rfl
   ·have mO:j=0:=by omega
    subst mO;go_wp2;go_ret;refine⟨?_,hb⟩;have hd:=Hd.out;simp only [List.drop_zero] at hd;have:x=y:=by rw[<-Vz.out,<-Vy.out,hd]
    rw[qd2 this];rfl
 ·by_cases hlt:len < aj
  ·have hx:x < y:=q16 4294967296 (by omega) x y (by rw[fF,dW];omega);clear hz eQ hc hc' hn kH fF dW vz vy;go_enter Tryz.func148,Tryz.ntmps148;go_wp2;go_ret;exact⟨by rw[q3l hx];rfl,Below.refl _ _⟩
  ·have hx:y < x:=q16 4294967296 (by omega) y x (by rw[fF,dW];omega);clear hz eQ hc hc' hn kH fF dW vz vy;go_enter Tryz.func148,Tryz.ntmps148;go_wp2;go_ret;exact⟨by rw[q55 hx];rfl,Below.refl _ _⟩
theorem q9y (n:Nat) (h:n < 18446744073709551616):bits .and .u64 (n:Int) 4294967295=((n % 4294967296:Nat):Int):=by
 have:=u64_and_nat n 4294967295 h (by decide);rw[show ((4294967295:Nat):Int)=4294967295 from rfl] at this;rw[this,show (4294967295:Nat)=2 ^ 32 - 1 by decide,Nat.and_two_pow_sub_one_eq_mod]
theorem jt {w:World} {b e n:Nat} {v:Value} {l:List Nat} {X:Int} {m k:Nat} (h:w.ownsRow b e 1 v n ((du l).set k (.int .u64 (bits .and .u64 X 4294967295)))) (hx:X=m) (hm:m < 18446744073709551616) :
  w.ownsRow b e 1 v n (du (l.set k (m % 4294967296))):=by
 subst hx;rw[q9y m hm] at h;rw[q5s];exact h
theorem q0t {x y:Int} (h:x=y):Value.int .u64 x=Value.int .u64 y:=by rw[h]
theorem qpy (v u:Value) (zs ys:List Nat) (w:World) (h:Sl w 1 v (du zs)) (k:Sl w 1 u (du ys)) (rz:InR 4294967296 zs) (ry:InR 4294967296 ys)
  (bz:zs.length<=1099511627776) (Gg:ys.length<=1099511627776) :
  Calls Tryz.prog 147 #[v,u] w fun e w'=>∃ r,e = .returned r/\Sl w' 1 r (du (dig 4294967296 (val 4294967296 zs+val 4294967296 ys)))/\Below w.heap.size w w':=by
 obtain⟨a,len,cap,rfl,hl,hm,hz,hn,hc⟩:=h;obtain⟨b,aj,bE,rfl,rP,qZ,eQ,kH,hc'⟩:=k;rw[q18,gK] at hz eQ;unfold maxLen at hm qZ;rw[hz] at bz;rw[eQ] at Gg;have Hz:=lhd hz;clear hz;have iV:=lhd eQ;clear eQ;have Hc:=lhd hc;clear hc;have tA:=lhd hc';clear hc';have Hn:=lhd hn;clear hn;have tC:=lhd kH;clear kH;obtain⟨i0,hi,bL,bT,cp⟩:=info_parts Tryz.q59;by_cases kW:len < aj
 ·go_enter Tryz.func147,Tryz.ntmps147;go_wp2_with (at_make;refine wpList_make_full _ rfl _ _ 164 rfl w.heap.size 113 i0 (.int .u64 0) 1 Tryz.underlying164 hi bL bT _ _ _ _ (aj+1) rfl rfl (by omega) (by omega) (by rw[cp];omega) (by unfold maxLen;omega) (nlr _) ?_);intro w0 bF bG;have ca:Below w.heap.size w w0:=(Below.refl _ _).grown bG (nlr _) (fun k hk=>by cases hk);rw[toList_madeCells_one,q1w] at bF;clear bG;go_wp2;go_loopw [6,22] (fun c i wr=>∃ (k d:Nat) (l:List Nat),i = .int .i64 k/\c = .int .u64 d/\k<=aj/\d<=1/\l.length=aj+1/\InR 4294967296 l ∧
   val 4294967296 (l.take k)+4294967296 ^ k*d=val 4294967296 (ys.take k)+val 4294967296 (zs.take k) ∧
   wr.ownsRow w.heap.size 113 1 (.slice (some ⟨w.heap.size,0,none⟩) (aj+1) (aj+1)) (aj+1) (du l)/\Below w.heap.size w wr) (fun _ i _=>aj - (intOf i).toNat)
  case atStart=>exact⟨0,0,_,rfl,rfl,gp _,by omega,by simp,fun d hd=>by simp at hd;omega,by simp[val],bF,ca⟩
  case round =>
   obtain⟨k,d,l,rfl,rfl,hk,hd,bH,hr,hv,ah,hb⟩:=hrel;clear bF ca;have cw:=lhd bH;clear bH;have Hv:=lhd hv;clear hv;by_cases hlt:k < aj
   ·obtain⟨ad,rfl⟩ : ∃ ad,b=some ad:=by
     cases b with
     | none=>have:=tC.out rfl;omega
     | some ad=>exact⟨ad,rfl⟩
    have c1:wr.cell? (ad.add k)=some (.int .u64 (ys.getD k 0:Nat)):=q8 hb (tA.out ad rfl k _ (zu ys k (by have:=iV.out;omega)));obtain⟨p,hp⟩ : ∃ p,ys.getD k 0=p:=⟨_,rfl⟩
    have mP:p < 4294967296:=hp ▸ xr ry (by omega) k;rw[hp] at c1;have Hp:=lhd hp;clear hp;have c3:wr.cell? ⟨w.heap.size,k,none⟩=some (.int .u64 (l.getD k 0:Nat)):=(ah.cellAt k (by omega)).trans (zu l k (by have:=cw.out;omega));have f3:wr.frozen? ⟨w.heap.size,k,none⟩=false:=ah.frozenAt k;obtain⟨o,ho⟩ : ∃ o,l.getD k 0=o:=⟨_,rfl⟩
    rw[ho] at c3;clear ho;have aR:k < l.length:=by have:=cw.out;omega
    by_cases AO:k < len
    ·obtain⟨bd,rfl⟩ : ∃ bd,a=some bd:=by
      cases a with
      | none=>have:=Hn.out rfl;omega
      | some bd=>exact⟨bd,rfl⟩
     have c2:wr.cell? (bd.add k)=some (.int .u64 (zs.getD k 0:Nat)):=q8 hb (Hc.out bd rfl k _ (zu zs k (by have:=Hz.out;omega)));obtain⟨q,hq⟩ : ∃ q,zs.getD k 0=q:=⟨_,rfl⟩
     have eR:q < 4294967296:=hq ▸ xr rz (by omega) k;rw[hq] at c2;have Hq:=lhd hq;clear hq;go_wp2;go_roundw
     case measure=>simp[intOf];omega
     case rel =>
      have aS:=q0x 4294967296 ys zs (l.take k) k d (by simp;omega) Hv.out;rw[Hp.out,Hq.out,<-zt l k _ aR] at aS;exact⟨k+1,(d+p+q) / 4294967296,l.set k ((d+p+q) % 4294967296),qh (by omega),q0t (by omega),by omega,by omega,by simp[cw.out],y6 hr _ (Nat.mod_lt _ (by omega)),aS,
       jt (ah.stored k _).1 (by omega) (by omega),hb.setCell (nlr _) _⟩
    ·have q0:zs.getD k 0=0:=q0h _ _ (by have:=Hz.out;omega);have Hq:=lhd q0;clear q0;go_wp2;go_roundw
     case measure=>simp[intOf];omega
     case rel =>
      have aS:=q0x 4294967296 ys zs (l.take k) k d (by simp;omega) Hv.out;rw[Hp.out,Hq.out,Nat.add_zero,<-zt l k _ aR] at aS;exact⟨k+1,(d+p) / 4294967296,l.set k ((d+p) % 4294967296),qh (by omega),q0t (by omega),by omega,by omega,by simp[cw.out],y6 hr _ (Nat.mod_lt _ (by omega)),aS,
       jt (ah.stored k _).1 (by omega) (by omega),hb.setCell (nlr _) _⟩
   ·have aR:k=aj:=by omega
    have c3:wr.cell? ⟨w.heap.size,aj,none⟩=some (.int .u64 (l.getD aj 0:Nat)):=(ah.cellAt aj (by omega)).trans (zu l aj (by have:=cw.out;omega));have f3:wr.frozen? ⟨w.heap.size,aj,none⟩=false:=ah.frozenAt aj;have iu:=(ah.stored aj (.int .u64 (d:Int))).1;rw[<-q5s] at iu;have ct:=hb.setCell (p:=⟨w.heap.size,aj,none⟩) (nlr _) (.int .u64 (d:Int));have da:val 4294967296 (l.set aj d)=val 4294967296 zs+val 4294967296 ys:=by
     have hv2:=Hv.out;rw[aR,xo _ ys _ (by have:=iV.out;omega),xo _ zs _ (by have:=Hz.out;omega)] at hv2;have e:=zt l aj d (by have:=cw.out;omega);rw[ge (by simp[cw.out])] at e;rw[e,vu,gh,bB (by have:=cw.out;omega),hv2];rw[Nat.add_comm]
    have vQ:=lhd da;clear da;have zM:=lhd aR;clear aR;go_wp2_with (go_at_call 175;refine(q7i _ _ _ (Sl.qc iu)).mono ?_;rintro e w' ⟨u,rfl,fZ,rfl⟩);go_ret;refine⟨_,rfl,?_,ct⟩;rw[ze 4294967296 (by omega) _ (y6 hr _ (by omega)),vQ.out] at fZ;exact fZ
 ·go_enter Tryz.func147,Tryz.ntmps147;go_wp2_with (at_make;refine wpList_make_full _ rfl _ _ 164 rfl w.heap.size 113 i0 (.int .u64 0) 1 Tryz.underlying164 hi bL bT _ _ _ _ (len+1) rfl rfl (by omega) (by omega) (by rw[cp];omega) (by unfold maxLen;omega) (nlr _) ?_);intro w0 bF bG;have ca:Below w.heap.size w w0:=(Below.refl _ _).grown bG (nlr _) (fun k hk=>by cases hk);rw[toList_madeCells_one,q1w] at bF;clear bG;go_wp2;go_loopw [6,22] (fun c i wr=>∃ (k d:Nat) (l:List Nat),i = .int .i64 k/\c = .int .u64 d/\k<=len/\d<=1/\l.length=len+1/\InR 4294967296 l ∧
   val 4294967296 (l.take k)+4294967296 ^ k*d=val 4294967296 (zs.take k)+val 4294967296 (ys.take k) ∧
   wr.ownsRow w.heap.size 113 1 (.slice (some ⟨w.heap.size,0,none⟩) (len+1) (len+1)) (len+1) (du l)/\Below w.heap.size w wr) (fun _ i _=>len - (intOf i).toNat)
  case atStart=>exact⟨0,0,_,rfl,rfl,gp _,by omega,by simp,fun d hd=>by simp at hd;omega,by simp[val],bF,ca⟩
  case round =>
   obtain⟨k,d,l,rfl,rfl,hk,hd,bH,hr,hv,ah,hb⟩:=hrel;clear bF ca;have cw:=lhd bH;clear bH;have Hv:=lhd hv;clear hv;by_cases hlt:k < len
   ·obtain⟨ad,rfl⟩ : ∃ ad,a=some ad:=by
     cases a with
     | none=>have:=Hn.out rfl;omega
     | some ad=>exact⟨ad,rfl⟩
    have c1:wr.cell? (ad.add k)=some (.int .u64 (zs.getD k 0:Nat)):=q8 hb (Hc.out ad rfl k _ (zu zs k (by have:=Hz.out;omega)));obtain⟨p,hp⟩ : ∃ p,zs.getD k 0=p:=⟨_,rfl⟩
    have mP:p < 4294967296:=hp ▸ xr rz (by omega) k;rw[hp] at c1;have Hp:=lhd hp;clear hp;have c3:wr.cell? ⟨w.heap.size,k,none⟩=some (.int .u64 (l.getD k 0:Nat)):=(ah.cellAt k (by omega)).trans (zu l k (by have:=cw.out;omega));have f3:wr.frozen? ⟨w.heap.size,k,none⟩=false:=ah.frozenAt k;obtain⟨o,ho⟩ : ∃ o,l.getD k 0=o:=⟨_,rfl⟩
    rw[ho] at c3;clear ho;have aR:k < l.length:=by have:=cw.out;omega
    by_cases AO:k < aj
    ·obtain⟨bd,rfl⟩ : ∃ bd,b=some bd:=by
      cases b with
      | none=>have:=tC.out rfl;omega
      | some bd=>exact⟨bd,rfl⟩
     have c2:wr.cell? (bd.add k)=some (.int .u64 (ys.getD k 0:Nat)):=q8 hb (tA.out bd rfl k _ (zu ys k (by have:=iV.out;omega)));obtain⟨q,hq⟩ : ∃ q,ys.getD k 0=q:=⟨_,rfl⟩
     have eR:q < 4294967296:=hq ▸ xr ry (by omega) k;rw[hq] at c2;have Hq:=lhd hq;clear hq;go_wp2;go_roundw
     case measure=>simp[intOf];omega
     case rel =>
      have aS:=q0x 4294967296 zs ys (l.take k) k d (by simp;omega) Hv.out;rw[Hp.out,Hq.out,<-zt l k _ aR] at aS;exact⟨k+1,(d+p+q) / 4294967296,l.set k ((d+p+q) % 4294967296),qh (by omega),q0t (by omega),by omega,by omega,by simp[cw.out],y6 hr _ (Nat.mod_lt _ (by omega)),aS,
       jt (ah.stored k _).1 (by omega) (by omega),hb.setCell (nlr _) _⟩
    ·have q0:ys.getD k 0=0:=q0h _ _ (by have:=iV.out;omega);have Hq:=lhd q0;clear q0;go_wp2;go_roundw
     case measure=>simp[intOf];omega
     case rel =>
      have aS:=q0x 4294967296 zs ys (l.take k) k d (by simp;omega) Hv.out;rw[Hp.out,Hq.out,Nat.add_zero,<-zt l k _ aR] at aS;exact⟨k+1,(d+p) / 4294967296,l.set k ((d+p) % 4294967296),qh (by omega),q0t (by omega),by omega,by omega,by simp[cw.out],y6 hr _ (Nat.mod_lt _ (by omega)),aS,
       jt (ah.stored k _).1 (by omega) (by omega),hb.setCell (nlr _) _⟩
   ·have aR:k=len:=by omega
    have c3:wr.cell? ⟨w.heap.size,len,none⟩=some (.int .u64 (l.getD len 0:Nat)):=(ah.cellAt len (by omega)).trans (zu l len (by have:=cw.out;omega));have f3:wr.frozen? ⟨w.heap.size,len,none⟩=false:=ah.frozenAt len;have iu:=(ah.stored len (.int .u64 (d:Int))).1;rw[<-q5s] at iu;have ct:=hb.setCell (p:=⟨w.heap.size,len,none⟩) (nlr _) (.int .u64 (d:Int));have da:val 4294967296 (l.set len d)=val 4294967296 zs+val 4294967296 ys:=by
     have hv2:=Hv.out;rw[aR,xo _ zs _ (by have:=Hz.out;omega),xo _ ys _ (by have:=iV.out;omega)] at hv2;have e:=zt l len d (by have:=cw.out;omega);rw[ge (by simp[cw.out])] at e;rw[e,vu,gh,bB (by have:=cw.out;omega),hv2]
    have vQ:=lhd da;clear da;have zM:=lhd aR;clear aR;go_wp2_with (go_at_call 175;refine(q7i _ _ _ (Sl.qc iu)).mono ?_;rintro e w' ⟨u,rfl,fZ,rfl⟩);go_ret;refine⟨_,rfl,?_,ct⟩;rw[ze 4294967296 (by omega) _ (y6 hr _ (by omega)),vQ.out] at fZ;exact fZ
theorem qet (p d q:Nat) (h:p < d+q) (hd:d<=1) (hq:q < 4294967296):IntKind.u64.wrap (IntKind.u64.wrap ((p:Int) - d) - q)=((18446744073709551616+p - d - q:Nat):Int):=by
 simp[IntKind.wrap,IntKind.bits,IntKind.signed];omega
theorem qeu (p d q:Nat) (h:p < d+q) (hd:d<=1) (hq:q < 4294967296):IntKind.u64.wrap ((p:Int) - d - q)=((18446744073709551616+p - d - q:Nat):Int):=by
 simp[IntKind.wrap,IntKind.bits,IntKind.signed];omega
theorem qev (p d:Nat) (h:p < d) (hd:d<=1):IntKind.u64.wrap ((p:Int) - d)=((18446744073709551616+p - d:Nat):Int):=by
 simp[IntKind.wrap,IntKind.bits,IntKind.signed];omega
theorem qot (v u:Value) (x y:Nat) (w:World) (h:Sl w 1 v (du (dig 4294967296 x))) (k:Sl w 1 u (du (dig 4294967296 y))) (hxy:y<=x)
  (bz:(dig 4294967296 x).length<=1099511627776) :
  Calls Tryz.prog 149 #[v,u] w fun e w'=>∃ r,e = .returned r/\Sl w' 1 r (du (dig 4294967296 (x - y)))/\Below w.heap.size w w':=by
 obtain⟨a,len,cap,rfl,hl,hm,hz,hn,hc⟩:=h;obtain⟨b,aj,bE,rfl,rP,qZ,eQ,kH,hc'⟩:=k;rw[q18,gK] at hz eQ;unfold maxLen at hm qZ;have bH:aj<=len:=by rw[<-hz,<-eQ];exact j4 4294967296 (by omega) _ _ hxy
 generalize fF:dig 4294967296 x=zs at *;generalize dW:dig 4294967296 y=ys at *;have rz:InR 4294967296 zs:=fF ▸ zb 4294967296 (by omega) x;have ry:InR 4294967296 ys:=dW ▸ zb 4294967296 (by omega) y;have vz:val 4294967296 zs=x:=fF ▸ xw 4294967296 (by omega) x;have vy:val 4294967296 ys=y:=dW ▸ xw 4294967296 (by omega) y;rw[hz] at bz;have Hz:=lhd hz;clear hz;have iV:=lhd eQ;clear eQ;have Hc:=lhd hc;clear hc;have tA:=lhd hc';clear hc';have Hn:=lhd hn;clear hn;have tC:=lhd kH;clear kH;have Vz:=lhd vz;clear vz;have Vy:=lhd vy;clear vy;clear fF dW;obtain⟨i0,hi,bL,bT,cp⟩:=info_parts Tryz.q59;go_enter Tryz.func149,Tryz.ntmps149;go_wp2_with (at_make;refine wpList_make_full _ rfl _ _ 164 rfl w.heap.size 113 i0 (.int .u64 0) 1 Tryz.underlying164 hi bL bT _ _ _ _ len rfl rfl (by omega) (by omega) (by rw[cp];omega) (by unfold maxLen;omega) (nlr _) ?_);intro w0 bF bG;have ca:Below w.heap.size w w0:=(Below.refl _ _).grown bG (nlr _) (fun k hk=>by cases hk);rw[toList_madeCells_one,q1w] at bF;clear bG;go_wp2;go_loopw [6,14] (fun c i wr=>∃ (k d:Nat) (l:List Nat),i = .int .i64 k/\c = .int .u64 d/\k<=len/\d<=1/\l.length=len/\InR 4294967296 l ∧
  val 4294967296 (l.take k)+val 4294967296 (ys.take k)=val 4294967296 (zs.take k)+4294967296 ^ k*d ∧
  wr.ownsRow w.heap.size 113 1 (.slice (some ⟨w.heap.size,0,none⟩) len len) len (du l)/\Below w.heap.size w wr) (fun _ i _=>len - (intOf i).toNat)
 case atStart=>exact⟨0,0,_,rfl,rfl,gp _,by omega,by simp,fun d hd=>by simp at hd;omega,by simp[val],bF,ca⟩
 case round =>
  obtain⟨k,d,l,rfl,rfl,hk,hd,vR,hr,hv,ah,hb⟩:=hrel;clear bF ca;have cw:=lhd vR;clear vR;have Hv:=lhd hv;clear hv;by_cases hlt:k < len
  ·obtain⟨ad,rfl⟩ : ∃ ad,a=some ad:=by
    cases a with
    | none=>have:=Hn.out rfl;omega
    | some ad=>exact⟨ad,rfl⟩
   have c1:wr.cell? (ad.add k)=some (.int .u64 (zs.getD k 0:Nat)):=q8 hb (Hc.out ad rfl k _ (zu zs k (by have:=Hz.out;omega)));obtain⟨p,hp⟩ : ∃ p,zs.getD k 0=p:=⟨_,rfl⟩
   have mP:p < 4294967296:=hp ▸ xr rz (by omega) k;rw[hp] at c1;have Hp:=lhd hp;clear hp;have c3:wr.cell? ⟨w.heap.size,k,none⟩=some (.int .u64 (l.getD k 0:Nat)):=(ah.cellAt k (by omega)).trans (zu l k (by have:=cw.out;omega));have f3:wr.frozen? ⟨w.heap.size,k,none⟩=false:=ah.frozenAt k;obtain⟨o,ho⟩ : ∃ o,l.getD k 0=o:=⟨_,rfl⟩
   rw[ho] at c3;clear ho;have aR:k < l.length:=by have:=cw.out;omega
   have step:∀ (w1:World) (q d' m:Nat),ys.getD k 0=q->w1.ownsRow w.heap.size 113 1 (.slice (some ⟨w.heap.size,0,none⟩) len len) len (du (l.set k m))->Below w.heap.size w w1->m < 4294967296->d'<=1->m+q+d=p+4294967296*d' →
     ∃ (k' Gh:Nat) (l':List Nat),(Value.int .i64 ((k:Int)+1)) = .int .i64 k'/\Value.int .u64 (d':Int) = .int .u64 Gh/\k'<=len/\Gh<=1/\l'.length=len/\InR 4294967296 l' ∧
      val 4294967296 (l'.take k')+val 4294967296 (ys.take k')=val 4294967296 (zs.take k')+4294967296 ^ k'*Gh ∧
      w1.ownsRow w.heap.size 113 1 (.slice (some ⟨w.heap.size,0,none⟩) len len) len (du l')/\Below w.heap.size w w1:=by
    intro w1 q d' m hq ho ai hm tD he;have aS:=q5p 4294967296 zs ys (l.take k) k d d' m (by simp;omega) Hv.out (by rw[Hp.out,hq];exact he);rw[<-zt l k _ aR] at aS;exact⟨k+1,d',l.set k m,qh (by omega),rfl,by omega,tD,by simp[cw.out],y6 hr _ hm,aS,ho,ai⟩
   have Step:=lhd step;clear step;by_cases AO:k < aj
   ·obtain⟨bd,rfl⟩ : ∃ bd,b=some bd:=by
     cases b with
     | none=>have:=tC.out rfl;omega
     | some bd=>exact⟨bd,rfl⟩
    have c2:wr.cell? (bd.add k)=some (.int .u64 (ys.getD k 0:Nat)):=q8 hb (tA.out bd rfl k _ (zu ys k (by have:=iV.out;omega)));obtain⟨q,hq⟩ : ∃ q,ys.getD k 0=q:=⟨_,rfl⟩
    have eR:q < 4294967296:=hq ▸ xr ry (by omega) k;rw[hq] at c2;have Hq:=lhd hq;clear hq;by_cases AP:p < d+q
    ·by_cases tE:p < d
     ·go_wp2;go_roundw
      case measure=>simp[intOf];omega
      case rel =>
       have e1:=qet p d q AP hd eR;rw[show Value.int .u64 (IntKind.u64.wrap (IntKind.u64.wrap ((p:Int) - d) - q) / 9223372036854775808)=Value.int .u64 ((1:Nat):Int) from q0t (by rw[e1];omega)];exact Step.out _ q 1 ((18446744073709551616+p - d - q) % 4294967296) Hq.out (jt (ah.stored k _).1 e1 (by omega)) (hb.setCell (nlr _) _) (by omega) (by omega) (by omega)
     ·go_wp2;go_roundw
      case measure=>simp[intOf];omega
      case rel =>
       have e1:=qeu p d q AP hd eR;rw[show Value.int .u64 (IntKind.u64.wrap ((p:Int) - d - q) / 9223372036854775808)=Value.int .u64 ((1:Nat):Int) from q0t (by rw[e1];omega)];exact Step.out _ q 1 ((18446744073709551616+p - d - q) % 4294967296) Hq.out (jt (ah.stored k _).1 e1 (by omega)) (hb.setCell (nlr _) _) (by omega) (by omega) (by omega)
    ·go_wp2;go_roundw
     case measure=>simp[intOf];omega
     case rel =>
      rw[show Value.int .u64 (((p:Int) - d - q) / 9223372036854775808)=Value.int .u64 ((0:Nat):Int) from q0t (by omega)];exact Step.out _ q 0 ((p - d - q) % 4294967296) Hq.out (jt (ah.stored k _).1 (by omega) (by omega)) (hb.setCell (nlr _) _) (by omega) (by omega) (by omega)
   ·have q0:ys.getD k 0=0:=q0h _ _ (by have:=iV.out;omega);have Hq:=lhd q0;clear q0;by_cases tE:p < d
    ·go_wp2;go_roundw
     case measure=>simp[intOf];omega
     case rel =>
      have e1:=qev p d tE hd;rw[show Value.int .u64 (IntKind.u64.wrap ((p:Int) - d) / 9223372036854775808)=Value.int .u64 ((1:Nat):Int) from q0t (by rw[e1];omega)];exact Step.out _ 0 1 ((18446744073709551616+p - d) % 4294967296) Hq.out (jt (ah.stored k _).1 e1 (by omega)) (hb.setCell (nlr _) _) (by omega) (by omega) (by omega)
    ·go_wp2;go_roundw
     case measure=>simp[intOf];omega
     case rel =>
      rw[show Value.int .u64 (((p:Int) - d) / 9223372036854775808)=Value.int .u64 ((0:Nat):Int) from q0t (by omega)];exact Step.out _ 0 0 ((p - d) % 4294967296) Hq.out (jt (ah.stored k _).1 (by omega) (by omega)) (hb.setCell (nlr _) _) (by omega) (by omega) (by omega)
  ·have aR:k=len:=by omega
   subst aR;go_wp2_with (go_at_call 175;refine(q7i _ _ _ (Sl.qc ah)).mono ?_;rintro e w' ⟨u,rfl,fZ,rfl⟩);go_ret;refine⟨_,rfl,?_,hb⟩;have e:=Hv.out;rw[xo _ l _ (by have:=cw.out;omega),xo _ zs _ (by have:=Hz.out;omega),xo _ ys _ (by have:=iV.out;omega),Vz.out,Vy.out] at e;have iw:=q5k 4294967296 l hr;rw[cw.out] at iw;have rQ:d=0:=by
    rcases Nat.eq_zero_or_pos d with h | h
    ·exact h
    ·exfalso
     have bZ:d=1:=by omega
     subst bZ;rw[gK] at e;omega
   subst rQ;rw[ze 4294967296 (by omega) _ hr,show val 4294967296 l=x - y by omega] at fZ;exact fZ
theorem qpz (v u:Value) (zs ys:List Nat) (w:World) (h:Sl w 1 v (du zs)) (k:Sl w 1 u (du ys)) (rz:InR 4294967296 zs) (ry:InR 4294967296 ys)
  (bz:zs.length<=1099511627776) (Gg:ys.length<=1099511627776) :
  Calls Tryz.prog 144 #[v,u] w fun e w'=>∃ r,e = .returned r/\Sl w' 1 r (du (dig 4294967296 (val 4294967296 zs*val 4294967296 ys)))/\Below w.heap.size w w':=by
 obtain⟨a,len,cap,rfl,hl,hm,hz,hn,hc⟩:=h;obtain⟨b,aj,bE,rfl,rP,qZ,eQ,kH,hc'⟩:=k;rw[q18,gK] at hz eQ;unfold maxLen at hm qZ;rw[hz] at bz;rw[eQ] at Gg;have Hz:=lhd hz;clear hz;have iV:=lhd eQ;clear eQ;have Hc:=lhd hc;clear hc;have tA:=lhd hc';clear hc';have Hn:=lhd hn;clear hn;have tC:=lhd kH;clear kH;obtain⟨i0,hi,bL,bT,cp⟩:=info_parts Tryz.q59;go_enter Tryz.func144,Tryz.ntmps144;go_wp2_with (at_make;refine wpList_make_full _ rfl _ _ 164 rfl w.heap.size 113 i0 (.int .u64 0) 1 Tryz.underlying164 hi bL bT _ _ _ _ (len+aj) rfl rfl (by omega) (by omega) (by rw[cp];omega) (by unfold maxLen;omega) (nlr _) ?_);intro w0 bF bG;have ca:Below w.heap.size w w0:=(Below.refl _ _).grown bG (nlr _) (fun k hk=>by cases hk);rw[toList_madeCells_one,q1w] at bF;clear bG;go_wp2;go_loopw [20] (fun i wr=>∃ (k:Nat) (l:List Nat),i = .int .i64 k/\k<=len/\l.length=len+aj/\InR 4294967296 l/\val 4294967296 l=val 4294967296 (zs.take k)*val 4294967296 ys/\(∀ j,k+aj<=j->l.getD j 0=0) ∧
   wr.ownsRow w.heap.size 113 1 (.slice (some ⟨w.heap.size,0,none⟩) (len+aj) (len+aj)) (len+aj) (du l)/\Below w.heap.size w wr) (fun i _=>len - (intOf i).toNat)
 case atStart=>exact⟨0,_,rfl,gp _,by simp,fun d hd=>by simp at hd;omega,by simp[q7h,val],fun j _=>q3a _ _,bF,ca⟩
 case round =>
  obtain⟨i,l,rfl,hi,bH,hr,hv,hzero,ah,hb⟩:=hrel;have cw:=lhd bH;clear bH;have Hv:=lhd hv;clear hv;have ia:=lhd hzero;clear hzero;clear bF ca;by_cases hlt:i < len
  ·obtain⟨ad,rfl⟩ : ∃ ad,a=some ad:=by
    cases a with
    | none=>have:=Hn.out rfl;omega
    | some ad=>exact⟨ad,rfl⟩
   obtain⟨wo,db⟩ : ∃ wo:World,wo=wr:=⟨_,rfl⟩
   subst db;have c1:wo.cell? (ad.add i)=some (.int .u64 (zs.getD i 0:Nat)):=q8 hb (Hc.out ad rfl i _ (zu zs i (by have:=Hz.out;omega)));obtain⟨p,hp⟩ : ∃ p,zs.getD i 0=p:=⟨_,rfl⟩
   have mP:p < 4294967296:=hp ▸ xr rz (by omega) i;rw[hp] at c1;have Hp:=lhd hp;clear hp;go_wp2;clear c1;go_loopw [8,27] (fun c q wr=>∃ (k d:Nat) (l:List Nat),q = .int .i64 k/\c = .int .u64 d/\k<=aj/\d < 4294967296/\l.length=len+aj/\InR 4294967296 l/\val 4294967296 l+4294967296 ^ (i+k)*d=mulR 4294967296 zs ys i k/\(∀ j,i+aj<=j->l.getD j 0=0) ∧
    wr.ownsRow w.heap.size 113 1 (.slice (some ⟨w.heap.size,0,none⟩) (len+aj) (len+aj)) (len+aj) (du l)/\Below w.heap.size w wr) (fun _ q _=>aj - (intOf q).toNat)
   case atStart=>exact⟨0,0,l,rfl,rfl,gp _,by omega,cw.out,hr,by rw[q7e,Nat.mul_zero,Nat.add_zero];exact Hv.out,ia.out,ah,hb⟩
   case round =>
    obtain⟨k,d,l2,rfl,rfl,hk,hd,bH,cB,hv,hzero,bR,ag⟩:=hrel;clear ah hb hr cw Hv ia;have cw:=lhd bH;clear bH;have Hv:=lhd hv;clear hv;have ia:=lhd hzero;clear hzero;by_cases aR:k < aj
    ·obtain⟨bd,rfl⟩ : ∃ bd,b=some bd:=by
      cases b with
      | none=>have:=tC.out rfl;omega
      | some bd=>exact⟨bd,rfl⟩
     have c2:wr.cell? (bd.add k)=some (.int .u64 (ys.getD k 0:Nat)):=q8 ag (tA.out bd rfl k _ (zu ys k (by have:=iV.out;omega)));have c3:wr.cell? ⟨w.heap.size,i+k,none⟩=some (.int .u64 (l2.getD (i+k) 0:Nat)):=(bR.cellAt (i+k) (by omega)).trans (zu l2 (i+k) (by have:=cw.out;omega));have f3:wr.frozen? ⟨w.heap.size,i+k,none⟩=false:=bR.frozenAt (i+k);obtain⟨q,hq⟩ : ∃ q,ys.getD k 0=q:=⟨_,rfl⟩
     have eR:q < 4294967296:=hq ▸ xr ry (by omega) k;rw[hq] at c2;have Hq:=lhd hq;clear hq;obtain⟨o,ho⟩ : ∃ o,l2.getD (i+k) 0=o:=⟨_,rfl⟩
     have UY:o < 4294967296:=ho ▸ xr cB (by omega) (i+k);rw[ho] at c3;have Ho:=lhd ho;clear ho;obtain⟨t,ht⟩ : ∃ t,p*q=t:=⟨_,rfl⟩
     have Gi:t<=4294967295*4294967295:=by rw[<-ht];exact Nat.mul_le_mul (by omega) (by omega)
     have re:(p:Int)*q=t:=by rw[<-ht];simp
     have Ht:=lhd ht;clear ht;have i1:(0:Int)<=(i:Int)+k:=by omega
     have i2:(i:Int)+k < (len:Int)+aj:=by omega
     go_wp2;clear re;go_roundw
     case measure=>simp[intOf];omega
     case rel =>
      have aS:=q9u 4294967296 l2 (i+k) d t _ (by have:=cw.out;omega) Hv.out;rw[Ho.out] at aS;refine⟨k+1,(o+t+d) / 4294967296,l2.set (i+k) ((o+t+d) % 4294967296),qh (by omega),q0t (by omega),by omega,by omega,by simp[cw.out],y6 cB _ (Nat.mod_lt _ (by omega)),?_,?_,jt (bR.stored (i+k) _).1 (by omega) (by omega),ag.setCell (nlr _) _⟩
      ·rw[q7d,Hp.out,Hq.out,Ht.out,<-Nat.add_assoc];exact aS
      ·intro j hj;rw[q1t _ _ _ _ (by omega)];exact ia.out j hj
    ·have vS:k=aj:=by omega
     have c3:wr.cell? ⟨w.heap.size,i+k,none⟩=some (.int .u64 (l2.getD (i+k) 0:Nat)):=(bR.cellAt (i+k) (by omega)).trans (zu l2 (i+k) (by have:=cw.out;omega));have f3:wr.frozen? ⟨w.heap.size,i+k,none⟩=false:=bR.frozenAt (i+k);rw[vS] at c3 f3;have i1:(0:Int)<=(i:Int)+aj:=by omega
     have i2:(i:Int)+aj < (len:Int)+aj:=by omega
     have iu:=(bR.stored (i+aj) (.int .u64 (d:Int))).1;have ct:=ag.setCell (p:=⟨w.heap.size,i+aj,none⟩) (nlr _) (.int .u64 (d:Int));have Gj:=lhd vS;clear vS;go_wp2;go_roundw
     case measure=>simp[intOf];omega
     case rel =>
      have hv2:=Hv.out;rw[Gj.out] at hv2;have mR:=qd4 4294967296 l2 (i+aj) d _ (by have:=cw.out;omega) (ia.out _ (nlr _)) hv2;refine⟨i+1,l2.set (i+aj) d,qh (by omega),by omega,by simp[cw.out],y6 cB _ hd,?_,?_,?_,ct⟩
      ·rw[mR,<-iV.out,q9v]
      ·intro j hj;rw[q1t _ _ _ _ (by omega)];exact ia.out j (by omega)
      ·rw[q5s];exact iu
  ·have fO:i=len:=by omega
   subst fO;go_wp2_with (go_at_call 175;refine(q7i _ _ _ (Sl.qc ah)).mono ?_;rintro e w' ⟨u,rfl,fZ,rfl⟩);go_ret;refine⟨_,rfl,?_,hb⟩;have hv2:=Hv.out;rw[xo _ zs _ (by have:=Hz.out;omega)] at hv2;rw[ze 4294967296 (by omega) _ hr,hv2] at fZ;exact fZ
end Go.Proofs.YtlhicnfeajejhaaGreatDoor
namespace Go.Cx
theorem q3p (B:Nat) (L:List Nat):val B L=L.getD 0 0+B*val B (L.drop 1):=by
 cases L <;> simp[val]
def wd:Nat->List Nat->List Nat
 | 0,_=>[]
 | n+1,L=>(L.getD 0 0+256*L.getD 1 0+65536*L.getD 2 0+16777216*L.getD 3 0) :: wd n (L.drop 4)
theorem q7j (L:List Nat) (i j:Nat):(L.drop i).getD j 0=L.getD (i+j) 0:=by simp[List.getD]
theorem qew (n:Nat) (L:List Nat):(wd n L).length=n:=by
 induction n generalizing L with
 | zero=>rfl
 | succ n ih=>simp[wd,ih]
theorem qjz (n:Nat) (L:List Nat) (j:Nat) (h:j < n):(wd n L).getD j 0=L.getD (4*j) 0+256*L.getD (4*j+1) 0+65536*L.getD (4*j+2) 0+16777216*L.getD (4*j+3) 0:=by
 induction n generalizing L j with
 | zero=>omega
 | succ n ih =>
  cases j with
  | zero=>simp[wd]
  | succ j =>
   rw[wd,List.getD_cons_succ,ih _ _ (by omega)];simp only [q7j];rw[show 4+4*j=4*(j+1) by omega,show 4+(4*j+1)=4*(j+1)+1 by omega,show 4+(4*j+2)=4*(j+1)+2 by omega,show 4+(4*j+3)=4*(j+1)+3 by omega]
theorem qn0 (n:Nat) (L:List Nat) (h:L.length<=4*n):val 4294967296 (wd n L)=val 256 L:=by
 induction n generalizing L with
 | zero=>have:L=[]:=List.length_eq_zero_iff.1 (by omega);subst this;rfl
 | succ n ih =>
  have h1:=q3p 256 L;have h2:=q3p 256 (L.drop 1);have h3:=q3p 256 (L.drop 2);have h4:=q3p 256 (L.drop 3);simp only [q7j,List.drop_drop] at h1 h2 h3 h4;rw[wd,val,ih _ (by simp;omega)];simp only [Nat.add_zero,Nat.reduceAdd] at *;omega
def mk (L:List Nat) (k p:Nat):Nat:=if p < k then 0 else L.getD p 0
def mw (L:List Nat) (k j:Nat):Nat:=mk L k (4*j)+256*mk L k (4*j+1)+65536*mk L k (4*j+2)+16777216*mk L k (4*j+3)
theorem qn1 (L:List Nat) (k j:Nat) (h:L.length<=k):mw L k j=0:=by
 have:∀ p,mk L k p=0:=by
  intro p;unfold mk;split
  ·rfl
  ·exact q0h L p (by omega)
 simp[mw,this]
theorem qk0 (L:List Nat) (n j:Nat) (h:j < n):mw L 0 j=(wd n L).getD j 0:=by
 rw[qjz n L j h];simp[mw,mk]
theorem qgn (L:List Nat) (m j:Nat) (h:j≠m / 4):mw L m j=mw L (m+1) j:=by
 have:∀ p,p≠m->mk L m p=mk L (m+1) p:=by
  intro p hp;unfold mk;by_cases h1:p < m
  ·rw[if_pos h1,if_pos (by omega)]
  ·rw[if_neg h1,if_neg (by omega)]
 unfold mw;rw[this _ (by omega),this _ (by omega),this _ (by omega),this _ (by omega)]
theorem qd8 {L:List Nat} (h:InR 256 L) (k p:Nat):mk L k p < 256:=by
 unfold mk;split
 ·omega
 ·exact xr h (by omega) p
theorem qk1 (L:List Nat) (hL:InR 256 L) (m:Nat):mw L m (m / 4)=mw L (m+1) (m / 4) ||| (L.getD m 0*2 ^ (8*(m % 4))):=by
 have hb:=xr hL (by omega) m;have lX:∀ p,p < m+1->mk L (m+1) p=0:=fun p hp=>by unfold mk;rw[if_pos hp]
 have mT:∀ p,p < m->mk L m p=0:=fun p hp=>by unfold mk;rw[if_pos hp]
 have fG:∀ p,m < p->mk L m p=mk L (m+1) p:=fun p hp=>by unfold mk;rw[if_neg (by omega),if_neg (by omega)]
 have hm:mk L m m=L.getD m 0:=by unfold mk;rw[if_neg (by omega)]
 obtain⟨q,r,rfl,hr⟩ : ∃ q r,m=4*q+r/\r < 4:=⟨m / 4,m % 4,by omega,by omega⟩
 have e1:(4*q+r) / 4=q:=by omega
 have e2:(4*q+r) % 4=r:=by omega
 rw[e1,e2];generalize hx:L.getD (4*q+r) 0=x at *;have key:∀ i a:Nat,x < 2 ^ 8->(2 ^ (i+8)*a) ||| (x*2 ^ i)=2 ^ (i+8)*a+x*2 ^ i:=by
  intro i a lY;have hlt:x*2 ^ i < 2 ^ (i+8):=by rw[Nat.pow_add,Nat.mul_comm];exact Nat.mul_lt_mul_of_pos_left lY (Nat.pow_pos (by omega))
  exact(Nat.two_pow_add_eq_or_of_lt hlt a).symm
 have lY:x < 2 ^ 8:=by simpa using hb
 have hc:r=0\/r=1\/r=2\/r=3:=by omega
 unfold mw;rcases hc with rfl | rfl | rfl | rfl
 ·have k:=key 0 (mk L (4*q+1) (4*q+1)+256*mk L (4*q+1) (4*q+2)+65536*mk L (4*q+1) (4*q+3)) lY;rw[Nat.add_zero] at *;rw[hm,lX _ (by omega),fG _ (by omega),fG _ (by omega),fG _ (by omega)];simp only [Nat.mul_zero,Nat.pow_zero,Nat.mul_one,Nat.zero_add] at *;rw[show (2:Nat) ^ 8=256 by decide] at k;have e:256*mk L (4*q+1) (4*q+1)+65536*mk L (4*q+1) (4*q+2)+16777216*mk L (4*q+1) (4*q+3)=256*(mk L (4*q+1) (4*q+1)+256*mk L (4*q+1) (4*q+2)+65536*mk L (4*q+1) (4*q+3)):=by omega
  rw[e,k];omega
 ·have k:=key 8 (mk L (4*q+1+1) (4*q+2)+256*mk L (4*q+1+1) (4*q+3)) lY;rw[hm,mT _ (by omega),lX _ (by omega),lX _ (by omega),fG _ (by omega),fG _ (by omega)];simp only [Nat.mul_zero,Nat.mul_one,Nat.zero_add,Nat.reduceAdd] at *;rw[show (2:Nat) ^ 16=65536 by decide,show (2:Nat) ^ 8=256 by decide] at k;have e:65536*mk L (4*q+1+1) (4*q+2)+16777216*mk L (4*q+1+1) (4*q+3)=65536*(mk L (4*q+1+1) (4*q+2)+256*mk L (4*q+1+1) (4*q+3)):=by omega
  rw[e,show (2:Nat) ^ 8=256 by decide,k];omega
 ·have k:=key 16 (mk L (4*q+2+1) (4*q+3)) lY;rw[hm,mT _ (by omega),mT _ (by omega),lX _ (by omega),lX _ (by omega),lX _ (by omega),fG _ (by omega)];simp only [Nat.mul_zero,Nat.zero_add,Nat.reduceAdd,Nat.reduceMul] at *;rw[show (2:Nat) ^ 24=16777216 by decide,show (2:Nat) ^ 16=65536 by decide] at k;rw[show (2:Nat) ^ 16=65536 by decide,k];omega
 ·have k:=key 24 0 lY;rw[hm,mT _ (by omega),mT _ (by omega),mT _ (by omega),lX _ (by omega),lX _ (by omega),lX _ (by omega),lX _ (by omega)];simp only [Nat.mul_zero,Nat.zero_add,Nat.reduceAdd,Nat.reduceMul] at *;rw[show (2:Nat) ^ 24=16777216 by decide] at k;rw[show (2:Nat) ^ 24=16777216 by decide,k];omega
theorem q71 (l m:List Nat) (h:l.length=m.length) (e:∀ j,j < l.length->l.getD j 0=m.getD j 0):l=m:=by
 apply List.ext_getElem h;intro j h1 h2;have:=e j h1;simpa [List.getD,h1,h2] using this
theorem qmf {L:List Nat} (h:InR 256 L) (k j:Nat):mw L k j < 4294967296:=by
 have h1:=qd8 h k (4*j);have h2:=qd8 h k (4*j+1);have h3:=qd8 h k (4*j+2);have h4:=qd8 h k (4*j+3);unfold mw;omega
end Go.Cx
namespace Go.Proofs.YtlhicnfeajejhaaGreatDoor
open Go.RowKit Go.Cx
theorem qn2 (o b r:Nat) (ho:o < 4294967296) (hb:b < 256) (hr:r < 4) :
  bits .or .u64 (o:Int) (IntKind.u64.wrap (IntKind.u64.wrap (b:Int)*2 ^ (8*r)))=((o ||| b*2 ^ (8*r):Nat):Int):=by
 have h1:IntKind.u64.wrap (b:Int)=b:=IntWalk.u64_in _ (by omega);have hc:r=0\/r=1\/r=2\/r=3:=by omega
 have h2:b*2 ^ (8*r) < 4294967296/\IntKind.u64.wrap ((b:Int)*2 ^ (8*r))=((b*2 ^ (8*r):Nat):Int):=by
  rcases hc with rfl | rfl | rfl | rfl
  ·simp only [Nat.mul_zero,Nat.pow_zero,Nat.mul_one,Int.pow_zero,Int.mul_one];exact⟨by omega,IntWalk.u64_in _ (by omega)⟩
  ·simp only [Nat.mul_one,show (2:Nat) ^ 8=256 by decide,show (2:Int) ^ 8=256 by decide];exact⟨by omega,by rw[IntWalk.u64_in _ (by omega)];omega⟩
  ·simp only [Nat.reduceMul,show (2:Nat) ^ 16=65536 by decide,show (2:Int) ^ 16=65536 by decide];exact⟨by omega,by rw[IntWalk.u64_in _ (by omega)];omega⟩
  ·simp only [Nat.reduceMul,show (2:Nat) ^ 24=16777216 by decide,show (2:Int) ^ 24=16777216 by decide];exact⟨by omega,by rw[IntWalk.u64_in _ (by omega)];omega⟩
 rw[h1,h2.2];exact u64_or_nat _ _ (by omega) (by omega)
theorem qgo {w:World} {b e n:Nat} {v:Value} {l:List Nat} {X:Int} {m k:Nat} (h:w.ownsRow b e 1 v n ((du l).set k (.int .u64 X))) (hx:X=m):w.ownsRow b e 1 v n (du (l.set k m)):=by
 subst hx;rw[q5s];exact h
theorem qgp (s:ByteArray) (m i:Nat) (h:s.size=m+1+i):(s.data.toList.reverse.map UInt8.toNat).getD m 0=(s[i]'(by omega)).toNat:=by
 have hl:s.data.toList.length=s.size:=by simp
 rw[qjv s i (by omega)];simp only [List.getD,List.getElem?_map];rw[List.getElem?_reverse (by omega),hl,show s.size - 1 - m=i by omega,g8 (by omega)];simp
theorem q72 (l:List Nat) (j x:Nat) (h:j < l.length):(l.set j x).getD j 0=x:=by simp[List.getD,h]
theorem qgq (neg:Bool) (s:ByteArray) (w:World) (hs:s.size<=1099511627776) :
  Calls Tryz.prog 143 #[.agg #[.bool neg,.string s]] w fun e w'=>∃ u,e = .returned u/\Sl w' 1 u (du (dig 4294967296 (qy s.data.toList)))/\Below w.heap.size w w':=by
 obtain⟨i0,hi,bL,bT,cp⟩:=info_parts Tryz.q59;obtain⟨N,hN⟩ : ∃ N,(s.size+3) / 4=N:=⟨_,rfl⟩
 have Ln:((s.size:Int)+4 - 1) / 4=N:=by omega
 have rR:s.size<=4*N:=by omega
 have kX:4*N<=s.size+3:=by omega
 have HN:=lhd hN;clear hN;go_enter Tryz.func143,Tryz.ntmps143;go_wp2_with (at_make;refine wpList_make_full _ rfl _ _ 164 rfl (w.heap.size+1) 113 i0 (.int .u64 0) 1 Tryz.underlying164 hi bL bT _ _ _ _ N rfl rfl Ln Ln (by rw[cp];omega) (by unfold maxLen;omega) (by simp) ?_);intro w0 bF bG;have ca:Below (w.heap.size+1) (w.alloc (.cells #[.bool neg,.string s] 38)) w0:=(Below.refl _ _).grown bG (by simp) (fun k hk=>by cases hk);rw[toList_madeCells_one,q1w] at bF;clear bG;have q1:w0.cell? ⟨w.heap.size,1,none⟩=some (.string s):=(ca.cell (by simp)).trans (qd w _ _ _ 1);go_wp2;clear q1;generalize hL:s.data.toList.reverse.map UInt8.toNat=L;have rf:L.length=s.size:=by rw[<-hL];simp
 have Ey:InR 256 L:=by rw[<-hL];intro d hd;obtain⟨c,_,rfl⟩:=go.1 hd;exact c.toNat_lt
 have Lo:val 256 L=qy s.data.toList:=by rw[<-hL];exact q47 _
 have Lp:=lhd rf;clear rf;have Qb:=lhd Lo;clear Lo;have HL:=lhd hL;clear hL;go_loopw [16] (fun i wr=>∃ (k:Nat) (l:List Nat),i = .int .i64 k/\k<=s.size/\l.length=N/\InR 4294967296 l/\(∀ j,j < N->l.getD j 0=mw L (s.size - k) j) ∧
   wr.ownsRow (w.heap.size+1) 113 1 (.slice (some ⟨w.heap.size+1,0,none⟩) N N) N (du l)/\Below (w.heap.size+1) (w.alloc (.cells #[.bool neg,.string s] 38)) wr) (fun i _=>s.size - (intOf i).toNat)
 case atStart=>exact⟨0,_,rfl,gp _,by simp,fun d hd=>by simp at hd;omega,fun j _=>by rw[q3a,qn1 L _ _ (by have:=Lp.out;omega)],bF,ca⟩
 case round =>
  obtain⟨i,l,rfl,ow,bH,hr,hv,ah,hb⟩:=hrel;clear bF ca;have cw:=lhd bH;clear bH;have Hv:=lhd hv;clear hv;have aS:w.heap.size+1<=wr.heap.size:=gn (by simp) hb.size;by_cases hlt:i < s.size
  ·have q1:wr.cell? ⟨w.heap.size,1,none⟩=some (.string s):=(hb.cell (by simp)).trans (qd w _ _ _ 1);obtain⟨m,hm⟩ : ∃ m,s.size=m+1+i:=⟨s.size - 1 - i,by omega⟩
   have eS:(s.size:Int) - 1 - i=m:=by omega
   have i1:(0:Int)<=(i:Int):=by omega
   have i2:(i:Int) < s.size:=by omega
   have e1:Int.tdiv (m:Int) 4=((m / 4:Nat):Int):=by rw[Int.tdiv_eq_ediv_of_nonneg (by omega)];omega
   have e2:Int.tmod (m:Int) 4=((m % 4:Nat):Int):=by rw[Int.tmod_eq_emod_of_nonneg (by omega)];omega
   have c3:wr.cell? ⟨w.heap.size+1,m / 4,none⟩=some (.int .u64 (l.getD (m / 4) 0:Nat)):=(ah.cellAt (m / 4) (by omega)).trans (zu l (m / 4) (by have:=cw.out;omega));have f3:wr.frozen? ⟨w.heap.size+1,m / 4,none⟩=false:=ah.frozenAt _;have i3:(0:Int)<=((m / 4:Nat):Int):=by omega
   have i4:((m / 4:Nat):Int) < N:=by omega
   have Hm:=lhd hm;clear hm;go_wp2
   go_region
   go_wp2;clear c3 f3 e1 e2 eS;have AQ:(s[i]'(by omega)).toNat=L.getD m 0:=by rw[<-HL.out];exact(qgp s m i Hm.out).symm
   have ox:=xr Ey (by omega) m;have fP:bits .or .u64 ((l[m / 4]?.getD 0:Nat):Int) (IntKind.u64.wrap (IntKind.u64.wrap ((s[i]'(by omega)).toNat:Int)*2 ^ (8*(m % 4))))=((mw L m (m / 4):Nat):Int):=by
    have hg:l[m / 4]?.getD 0=mw L (m+1) (m / 4):=by
     have:=Hv.out (m / 4) (by omega);rw[show s.size - i=m+1 by have:=Hm.out;omega] at this;simpa [List.getD] using this
    rw[AQ,hg,qn2 _ _ _ (qmf Ey _ _) ox (Nat.mod_lt _ (by omega)),qk1 L Ey m]
   have iu:=qgo ((qgd ah).stored (m / 4) _).1 fP;have ct:=(hb.drew).setCell (p:=⟨w.heap.size+1,m / 4,none⟩) (nlr _) (.int .u64 (bits .or .u64 ((l[m / 4]?.getD 0:Nat):Int) (IntKind.u64.wrap (IntKind.u64.wrap ((s[i]'(by omega)).toNat:Int)*2 ^ (8*(m % 4))))));go_roundw
   case measure=>simp[intOf];omega
   case rel =>
    refine⟨i+1,l.set (m / 4) (mw L m (m / 4)),qh (by omega),by omega,by simp[cw.out],y6 hr _ (qmf Ey _ _),?_,iu,ct⟩;intro j hj;rw[show s.size - (i+1)=m by have:=Hm.out;omega];by_cases mU:j=m / 4
    ·subst mU;exact q72 _ _ _ (by have:=cw.out;omega)
    ·rw[q1t _ _ _ _ (fun e=>mU e.symm),qgn L m j mU,Hv.out j hj,show s.size - i=m+1 by have:=Hm.out;omega]
  ·have Gk:i=s.size:=by omega
   have Lq:l=wd N L:=by
    refine q71 _ _ (by rw[cw.out,qew]) (fun j hj=>?_);rw[cw.out] at hj;rw[Hv.out j hj,Gk,Nat.sub_self,qk0 L N j hj]
   have Qc:=lhd Lq;clear Lq;have UZ:=lhd Gk;clear Gk;go_wp2_with (go_at_call 175;refine(q7i _ _ _ (Sl.qc ah)).mono ?_;rintro e w' ⟨u,rfl,fZ,rfl⟩);go_ret;refine⟨_,rfl,?_,vv hb (Nat.le_succ _)⟩;rw[ze 4294967296 (by omega) _ hr,Qc.out,qn0 N L (by have:=Lp.out;omega),Qb.out] at fZ;exact fZ
open Go.Shelf
attribute [local go_sem] Oper.semAt_some
def back (zs:List Nat) (k:Nat):List (Nat×Nat):=(List.range k).map fun j=>(zs.length - 1 - j,zs.getD (zs.length - 1 - j) 0)
theorem qex (zs:List Nat) (k:Nat):back zs (k+1)=back zs k++[(zs.length - 1 - k,zs.getD (zs.length - 1 - k) 0)]:=by simp[back,List.range_succ]
theorem q9z (zs:List Nat) (k:Nat):(back zs k).length=k:=by simp[back]
theorem q7k (a:Addr) (j:Nat):(a.add j).block=a.block:=by unfold Addr.add;split <;> rfl
def kh (n₀ Bs:Nat) (W W':World):Prop:=∀ k,k < n₀\/k=Bs->W'.heap[k]? = W.heap[k]?
theorem kh.refl (n₀ Bs:Nat) (W:World):kh n₀ Bs W W:=fun _ _=>rfl
theorem kh.trans {n₀ Bs:Nat} {A B C:World} (h:kh n₀ Bs A B) (k:kh n₀ Bs B C):kh n₀ Bs A C:=fun i hi=>(k i hi).trans (h i hi)
theorem kh.put {n₀ Bs m:Nat} (h1:n₀<=m) (h2:Bs < m) (W:World) (l:Nat) (o o':Obj) (hl:m<=l) (_:W.heap[l]? = some o) (_:o.isCells=false) (_:o.isWalk=false):kh n₀ Bs W (W.putObj l o') :=
 fun k hk=>World.putObj_heap_other (by omega)
theorem kh.cell {n₀ Bs:Nat} {W W':World} (h:kh n₀ Bs W W') {p:Addr} (hp:p.block < n₀\/p.block=Bs):W'.cell? p=W.cell? p:=World.cell?_of_block (w:=W) (h _ hp)
theorem qn3 (n:Nat) (hn:1<=n) (l Bs n₀:Nat) (a:Option Addr) (len cap:Nat) (zs:List Nat) (W:World) (hS:Sl W 1 (.slice a len cap) (du zs)) (hn₀:∀ ad,a=some ad->len≠0->ad.block < n₀)
  (J Jx:List (Nat×Nat)->World->Prop)
  (hY:∀ pre x W,J pre W->pre.length < zs.length->YieldAt Fence.wide (n - 1) Tryz.prog l #[.int .i64 (x.1:Int),.int .u64 (x.2:Int)] W fun e W' =>
   (e = .returned (.bool true)/\J (pre++[x]) W'/\kh n₀ Bs W W')\/(e = .returned (.bool false)/\Jx (pre++[x]) W'))
  (zN:W.cell? ⟨Bs,0,none⟩=some (.slice a len cap)) (h0:J [] W) :
  CallsIn Fence.wide n Tryz.prog 192 #[.func (.yield l) #[] #[],.pointer (some ⟨Bs,0,none⟩)] W fun e W'=>(∃ v,e = .returned v) ∧
   ((∃ ys,ys=back zs zs.length/\J ys W')\/(∃ pre,(∃ k,k<=zs.length/\pre=back zs k)/\Jx pre W')):=by
 obtain⟨h1,h2,h3,h4,h5⟩:=hS.open;unfold maxLen at h2;rw[q18,gK] at h3;have H3:=lhd h3;clear h3;have H5:=lhd h5;clear h5;have H4:=lhd h4;clear h4;have HY:=lhd hY;clear hY;have Hn₀:=lhd hn₀;clear hn₀;refine callsIn_of_wp Tryz.func192 rfl trivial ?_ rfl;simp only [Tryz.ntmps192,List.size_toArray,List.length_cons,List.length_nil,Nat.reduceAdd,Nat.reduceSub,Array.replicate_succ,Array.replicate_zero,List.push_toArray,List.append_toArray,List.nil_append,List.cons_append]
 gi_wp2
 gi_loopw [3] (fun i wr=>∃ k:Nat,k<=len/\i = .int .i64 ((len:Int) - 1 - k)/\J (back zs k) wr/\kh n₀ Bs W wr)
  (fun i _=>(intOf i+1).toNat)
 case atStart=>exact⟨0,gp _,by simp,h0,kh.refl _ _ _⟩
 case round =>
  obtain⟨k,hk,rfl,Lr,mV⟩:=hrel;by_cases hlt:k < len
  ·obtain⟨m,hm⟩ : ∃ m,len=m+1+k:=⟨len - 1 - k,by omega⟩
   have eS:(len:Int) - 1 - k=m:=by omega
   obtain⟨ad,rfl⟩ : ∃ ad,a=some ad:=by
    cases a with
    | none=>have:=H4.out rfl;omega
    | some ad=>exact⟨ad,rfl⟩
   have Qd:wr.cell? ⟨Bs,0,none⟩=some (.slice (some ad) len cap):=(mV.cell (p:=⟨Bs,0,none⟩) (.inr rfl)).trans zN;have hc:=H5.out ad rfl m _ (zu zs m (by have:=H3.out;omega));have mW:wr.cell? (ad.add m)=some (.int .u64 (zs.getD m 0:Nat)):=by
    refine(mV.cell ?_).trans hc;rw[q7k];exact .inl (Hn₀.out ad rfl (by omega))
   clear hc;obtain⟨q,hq⟩ : ∃ q,zs.getD m 0=q:=⟨_,rfl⟩
   rw[hq] at mW;have Hq:=lhd hq;clear hq;obtain⟨fn,tmps,assign,body,hy,hR⟩:=HY.out _ (m,q) wr Lr (by rw[q9z,H3.out];exact hlt)
   dsimp only at hy
   rw[eS];have rS:back zs (k+1)=back zs k++[(m,q)]:=by rw[qex,H3.out,show len - 1 - k=m by omega,Hq.out]
   have Ls:=lhd rS;clear rS;have Hm:=lhd hm;clear hm eS;have i1:(0:Int)<=m:=by omega
   have i2:(m:Int) < len:=by have:=Hm.out;omega
   gi_wp2
   refine hR.mono ?_;rintro e W3 (⟨rfl,Gl,Ez⟩ | ⟨rfl,vU⟩)
   ·gi_wp2
    go_roundw
    case rel=>exact⟨k+1,by omega,qh (by have:=Hm.out;omega),by rw[Ls.out];exact Gl,mV.trans Ez⟩
    case measure=>simp[intOf]
   ·gi_wp2
    refine bodyPost_ret (results_none rfl _ _ _) rfl ?_;exact⟨⟨_,rfl⟩,.inr ⟨_,⟨k+1,by have:=H3.out;omega,Ls.out.symm⟩,vU⟩⟩
  ·have aR:k=len:=by omega
   have zO:(len:Int) - 1 - k = -1:=by omega
   rw[zO];have zM:=lhd aR;clear aR zO
   gi_wp2
   go_end0
   exact⟨⟨_,rfl⟩,.inl ⟨_,by rw[H3.out,zM.out],Lr⟩⟩
end Go.Proofs.YtlhicnfeajejhaaGreatDoor
