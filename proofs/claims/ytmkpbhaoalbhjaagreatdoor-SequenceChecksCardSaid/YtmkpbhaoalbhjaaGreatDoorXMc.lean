/- Steps towards SequenceChecks. Conditions: none. -/
import Derived.Deep.DrawnRows
import Derived.Deep.RegionHeld3
import Derived.LoopIn
import Derived.LoopNIn
import Derived.OwnWalkIn
import Derived.RangeFuncBound
import Derived.RangeFuncNested
import Derived.Shelf.RegionOpen
import Derived.Test.YtmkpbhaoalbhjaaGreatDoorXMa
set_option maxRecDepth 1000000
set_option maxHeartbeats 0
open Go.Value renaming slice→O,agg→I,pointer→σ,bool→τ,int→H,string→ω
open Option renaming none→Z,some→Y
open Go.IntKind renaming i64→φ
open Go renaming World→δ,Value→ε
namespace Go.Proofs.YtmkpbhaoalbhjaaGreatDoor
open Go.RowKit Go.Cx
theorem q7h (B n:Nat):val B (List.replicate n 0)=0:=by
 induction n with
 |zero=>rfl
 |succ n ih=>simp[List.replicate_succ,val,ih]
theorem q3a (n i:Nat):(List.replicate n (0:Nat)).getD i 0=0:=by simp only [List.getD,List.getElem?_replicate];split <;> rfl
attribute [local go_sem ↓] Go.wp_at_zero Go.wp_at_succ
def Bx (w:δ)(b:Nat)(n:Bool)(s:ByteArray):Prop :=
 w b=τ n/\w ⟨b,1,Z⟩=ω s/\w.frozen? b=false/\w.frozen? ⟨b,1,Z⟩=false
theorem Bx.new (w:δ)(n:Bool)(s:ByteArray)(t:TypeId):Bx (w.alloc (.cells #[τ n,ω s] t)) w n s :=
 ⟨qd w _ _ _ 0,qd w _ _ _ 1,jz (heap_alloc_new w _) 0,jz (heap_alloc_new w _) 1⟩
theorem Bx.keep {w w':δ}{b:Nat}{n:Bool}{s:ByteArray}(h:Bx w b n s){B:Nat}(hb:Below B w w')(hB:b<B):Bx w' b n s :=
 ⟨(hb.cell (by exact hB)).trans h.1,(hb.cell (by exact hB)).trans h.2.1,(hb.frozen (by exact hB)).trans h.2.2.1,(hb.frozen (by exact hB)).trans h.2.2.2⟩
theorem Bx.alloc {w:δ}{b:Nat}{n:Bool}{s:ByteArray}(h:Bx w b n s)(hb:b<w)(o:Obj):Bx (w.alloc o) b n s :=
 h.keep (bal w o) hb
theorem xt {B:Nat}{w w':δ}(h:Below B w.drew w'):Below B w w':=((Below.refl _ w).drew).trans h
theorem bump {W w1 w2:δ}{B:Nat}(h1:Below B W w1)(hz:B<=W)(h2:Below w1 w1 w2):Below B W w2:=h1.trans (h2.mono (gd hz h1.size))
theorem qgk (n:Bool)(x y:Nat):sg n (x+y)=sg n x+sg n y:=by unfold sg;cases n <;> simp <;> omega
theorem q8f (n m:Bool)(x y:Nat)(h:n≠m)(hxy:y<=x):sg n (x-y)=sg n x+sg m y:=by unfold sg;cases n <;> cases m <;> simp at*<;> omega
theorem qgl (n m:Bool)(x y:Nat):sg (n != m) (x*y)=sg n x*sg m y:=by unfold sg;cases n <;> cases m <;> simp[Int.neg_mul,Int.mul_neg]
theorem qd6 {x y:Nat}(h:y<=x):0<=q5o x y:=by unfold q5o;split <;> (try split) <;> omega
theorem q9x {x y:Nat}(h:x<y):q5o x y<0:=by rw[q3l h];omega
def ve (x:Int):Int:=if x=0 then 0 else if x<0 then -1 else 1
end Go.Proofs.YtmkpbhaoalbhjaaGreatDoor
namespace Go.Proofs.YtmkpbhaoalbhjaaGreatDoor
open Go.RowKit Go.Cx
theorem qd7 (x:Int)(h1 : -9223372036854775808<=x)(h2:x<0):IntKind.u64.wrap (-IntKind.u64.wrap x)=(x.natAbs:Int):=by simp[IntKind.wrap,IntKind.bits,IntKind.signed];omega
def du (l:List Nat):List Value:=l.map fun (d:Nat)=>H .u64 (d:Int)
theorem zu (l:List Nat)(k:Nat)(h:k<l.length):(du l)[k]? =H .u64 (l.getD k 0:Nat):=by simp[du,List.getD,h]
theorem q18 (l:List Nat):(du l).length=l.length:=by simp[du]
theorem qjy (l:List Nat)(k:Nat):du (l.take k)=(du l).take k:=by simp[du,List.map_take]
theorem q5s (l:List Nat)(j x:Nat):du (l.set j x)=(du l).set j (H .u64 (x:Int)):=by simp[du,List.map_set]
theorem q1w (n:Nat):List.replicate n (H .u64 0)=du (List.replicate n 0):=by simp[du]
theorem Tryz.q59:(Tryz.prog.info? 135).map (fun i=>(i.zero,i.size,i.bytes))=Y (Y (H .u64 0),1,8):=by kernel_rfl
theorem q7i (v:ε)(zs:List Nat)(w:δ)(h:Sl w 1 v (du zs)) :
  Calls Tryz.prog 123 #[v] w fun e w'=>∃u,e=.returned u/\Sl w 1 u (du (trim zs))/\w=w':=by
 obtain⟨a,len,cap,rfl,hl,hm,hz,hn,hc⟩:=h;rw[q18,gK]at hz;unfold maxLen at hm;have Hz:=lhd hz;clear hz;have Hc:=lhd hc;clear hc;have Hn:=lhd hn;clear hn;go_enter Tryz.func123,Tryz.ntmps123;go_wp2
 go_loop [0] (fun s=>∃k:Nat,k<=len/\trim zs=trim (zs.take k)/\s=O a k cap) (fun s=>match s with | O _ k _=>k|_=>0)
 case atStart=>exact⟨len,nlr _,by rw[gr (by have:=Hz.out;omega)],rfl⟩
 case round =>
  obtain⟨k,hk,ht,rfl⟩:=hrel;have Ht:=lhd ht;clear ht;by_cases h0:0<k
  ·obtain⟨ad,rfl⟩:=sadq Hn.out (by omega)
   have dC:=Hc.out ad rfl (k-1) _ (zu zs (k-1) (by have:=Hz.out;omega));obtain⟨z,hz⟩:∃z,zs.getD (k-1) 0=z:=⟨_,rfl⟩
   rw[hz]at dC;have HZ:=lhd hz;clear hz;by_cases dv:z=0
   ·subst dv;go_wp2
    go_round
    case rel=>exact⟨k-1,by omega,by rw[Ht.out];exact q7f zs k h0 HZ.out (by have:=Hz.out;omega),rfl⟩
    case measure=>show k-1<k;omega
   ·have hb:((z:Int) == 0)=false:=by simp;omega
    go_wp2;go_ret;refine⟨_,rfl,?_,rfl⟩;rw[Ht.out,q7g zs k h0 (by rw[HZ.out];exact dv) (by have:=Hz.out;omega),qjy];have hS:Sl w 1 (O (Y ad) len cap) (du zs):=⟨_,_,_,rfl,hl,(by unfold maxLen;omega),(by rw[q18,gK];exact Hz.out),Hn.out,Hc.out⟩
    have:=hS.take hk
    rwa [gK]at this
  ·have IZ:k=0:=by omega
   subst IZ;go_wp2;go_ret;refine⟨_,rfl,?_,rfl⟩;rw[Ht.out];exact⟨_,_,_,rfl,gm _,(by unfold maxLen;omega),rfl,Hn.out,fun ad _ j u hj=>by simp[du,trim]at hj⟩
theorem qpx (v u:ε)(x y:Nat)(w:δ)(h:Sl w 1 v (du (dig 4294967296 x)))(k:Sl w 1 u (du (dig 4294967296 y))) :
  Calls Tryz.prog 126 #[v,u] w fun e w'=>e=.returned (q5o x y:Int)/\Below w w w':=by
 obtain⟨a,len,cap,rfl,hl,hm,hz,hn,hc⟩:=h;obtain⟨b,ay,dQ,rfl,nc,tl,jK,nf,hc'⟩:=k;rw[q18,gK]at hz jK;unfold maxLen at hm tl;generalize jJ:dig 4294967296 x=zs at *;generalize iT:dig 4294967296 y=ys at *;have rz:InR 4294967296 zs:=jJ ▸ zb 4294967296 (by omega) x;have ry:InR 4294967296 ys:=iT ▸ zb 4294967296 (by omega) y;have vz:val 4294967296 zs=x:=jJ ▸ xw 4294967296 (by omega) x;have vy:val 4294967296 ys=y:=iT ▸ xw 4294967296 (by omega) y;by_cases ah:len=ay
 ·subst ah;have Hz:=lhd hz;clear hz;have lI:=lhd jK;clear jK;have WG:=lhd jJ;clear jJ;have WH:=lhd iT;clear iT;have Vz:=lhd vz;clear vz;have Vy:=lhd vy;clear vy;have Hc:=lhd hc;clear hc;have wu:=lhd hc';clear hc';have Hn:=lhd hn;clear hn;have wA:=lhd nf;clear nf;go_enter Tryz.func126,Tryz.ntmps126;go_wp2;go_loopw [5] (fun i wr=>∃(j:Nat),i=((j:Int)-1:Int)/\j<=len/\zs.drop j=ys.drop j/\Below w w wr) (fun i _=>(intOf i+1).toNat)
  case atStart=>exact⟨len,rfl,nlr _,by rw[bL (by have:=Hz.out;omega),bL (by have:=lI.out;omega)],q9⟩
  case round =>
   obtain⟨j,rfl,hj,hd,hb⟩:=hrel;have Hd:=lhd hd;clear hd;by_cases h0:0<j
   ·obtain⟨ad,rfl⟩:=sadq Hn.out (by omega)
    obtain⟨bd,rfl⟩:=sadq wA.out (by omega)
    obtain⟨m,rfl⟩:∃m,j=m+1:=⟨j-1,by omega⟩
    have e1:((m+1:Nat):Int)-1=m:=by omega
    rw[e1];have c1:wr (ad.add m)=H .u64 (zs.getD m 0:Nat):=keep hb (Hc.out ad rfl m _ (zu zs m (by have:=Hz.out;omega)));have c2:wr (bd.add m)=H .u64 (ys.getD m 0:Nat):=keep hb (wu.out bd rfl m _ (zu ys m (by have:=lI.out;omega)));obtain⟨p,hp⟩:∃p,zs.getD m 0=p:=⟨_,rfl⟩
    obtain⟨q,hq⟩:∃q,ys.getD m 0=q:=⟨_,rfl⟩
    rw[hp]at c1;rw[hq]at c2;have Hp:=lhd hp;clear hp;have Hq:=lhd hq;clear hq;have i1:(0:Int)<=m:=by omega
    have i2:(m:Int)<len:=by omega
    by_cases heq:p=q
    ·have eR:decide (p<q)=false:=by simp;omega
     have bZ:decide (q<p)=false:=by simp;omega
     have QU:=lhd heq;clear heq;go_wp2
     go_quiet (fail)
     go_wp2
     go_quiet (fail)
     go_wp2;go_roundw
     case measure=>simp[intOf]
     case rel=>exact⟨m,rfl,by omega,q3m zs ys m (by have:=Hz.out;omega) (by have:=lI.out;omega) Hd.out (by rw[Hp.out,Hq.out];exact QU.out),qb hb _⟩
    ·by_cases ak:p<q
     ·go_wp2
      go_quiet (fail)
      go_wp2;go_ret;refine⟨?_,qb hb _⟩;have:=q54 4294967296 zs ys m (by have:=Hz.out;omega) (by have:=lI.out;omega) Hd.out rz (by rw[Hp.out,Hq.out];exact ak);rw[Vz.out,Vy.out]at this;rw[q3l this];rfl
     ·go_wp2
      go_quiet (fail)
      go_wp2
      go_quiet (fail)
      go_wp2;go_ret;refine⟨?_,qb (qb hb _) _⟩;have:=q54 4294967296 ys zs m (by have:=lI.out;omega) (by have:=Hz.out;omega) Hd.out.symm ry (by rw[Hp.out,Hq.out];omega);rw[Vz.out,Vy.out]at this;rw[qkp this];rfl
   ·have IZ:j=0:=by omega
    subst IZ;go_wp2;go_ret;refine⟨?_,hb⟩;have hd:=Hd.out;simp only [List.drop_zero]at hd;have:x=y:=by rw[<-Vz.out,<-Vy.out,hd]
    rw[qd2 this];rfl
 ·by_cases ak:len<ay
  ·have hx:x<y:=qc4 4294967296 (by omega) x y (by rw[jJ,iT];omega);clear hz jK hc hc' hn nf jJ iT vz vy;go_enter Tryz.func126,Tryz.ntmps126;go_wp2;go_ret;exact⟨by rw[q3l hx];rfl,q9⟩
  ·have hx:y<x:=qc4 4294967296 (by omega) y x (by rw[jJ,iT];omega);clear hz jK hc hc' hn nf jJ iT vz vy;go_enter Tryz.func126,Tryz.ntmps126;go_wp2;go_ret;exact⟨by rw[qkp hx];rfl,q9⟩
theorem q9y (n:Nat)(h:n<18446744073709551616):bits .and .u64 (n:Int) 4294967295=((n%4294967296:Nat):Int):=by have:=u64_and_nat n 4294967295 h (by decide);rw[show ((4294967295:Nat):Int)=4294967295 from rfl]at this;rw[this,show (4294967295:Nat)=2^32-1 by decide,Nat.and_two_pow_sub_one_eq_mod]
theorem jt {w:δ}{b e n:Nat}{v:ε}{l:List Nat}{X:Int}{m k:Nat}(h:w.ownsRow b e 1 v n ((du l).set k (H .u64 (bits .and .u64 X 4294967295))))(hx:X=m)(hm:m<18446744073709551616) :
  w.ownsRow b e 1 v n (du (l.set k (m%4294967296))):=by
 subst hx;rw[q9y m hm]at h;rw[q5s];exact h
theorem q0t {x y:Int}(h:x=y):H .u64 x=H .u64 y:=by rw[h]
theorem qpy (v u:ε)(zs ys:List Nat)(w:δ)(h:Sl w 1 v (du zs))(k:Sl w 1 u (du ys))(rz:InR 4294967296 zs)(ry:InR 4294967296 ys)
  (bz:zs.length<=1099511627776) (Ja:ys.length<=1099511627776) :
  Calls Tryz.prog 93 #[v,u] w fun e w'=>∃r,e=.returned r/\Sl w' 1 r (du (dig 4294967296 (val 4294967296 zs+val 4294967296 ys)))/\Below w w w':=by
 obtain⟨a,len,cap,rfl,hl,hm,hz,hn,hc⟩:=h;obtain⟨b,ay,dQ,rfl,nc,tl,jK,nf,hc'⟩:=k;rw[q18,gK]at hz jK;unfold maxLen at hm tl;rw[hz]at bz;rw[jK]at Ja;have Hz:=lhd hz;clear hz;have lI:=lhd jK;clear jK;have Hc:=lhd hc;clear hc;have wu:=lhd hc';clear hc';have Hn:=lhd hn;clear hn;have wA:=lhd nf;clear nf;obtain⟨i0,hi,dv,dB,de⟩:=info_parts Tryz.q59;by_cases Be:len<ay
 ·go_enter Tryz.func93,Tryz.ntmps93;go_wp2_with (at_make;refine wpList_make_full _ rfl _ _ 138 rfl w 135 i0 (H .u64 0) 1 Tryz.underlying138 hi dv dB _ _ _ _ (ay+1) rfl rfl (by omega) (by omega) (by rw[de];omega) (by unfold maxLen;omega) (nlr _) ?_);intro w0 ct cw;have dS:Below w w w0:=(q9).grown cw (nlr _) (fun k hk=>by cases hk);rw[toList_madeCells_one,q1w]at ct;clear cw;go_wp2;go_loopw [6,22] (fun c i wr=>∃(k d:Nat) (l:List Nat),i=k/\c=H .u64 d/\k<=ay/\d<=1/\l.length=ay+1/\InR 4294967296 l ∧
   val 4294967296 (l.take k)+4294967296^k*d=val 4294967296 (ys.take k)+val 4294967296 (zs.take k) ∧
   wr.ownsRow w 135 1 (O w (ay+1) (ay+1)) (ay+1) (du l)/\Below w w wr) (fun _ i _=>ay-(intOf i).toNat)
  case atStart=>exact⟨0,0,_,rfl,rfl,gm _,by omega,by simp,fun d hd=>by simp at hd;omega,by simp[val],ct,dS⟩
  case round =>
   obtain⟨k,d,l,rfl,rfl,hk,hd,aW,hr,hv,af,hb⟩:=hrel;clear ct dS;have dD:=lhd aW;clear aW;have Hv:=lhd hv;clear hv;by_cases ak:k<ay
   ·obtain⟨ad,rfl⟩:=sadq wA.out (by omega)
    have c1:wr (ad.add k)=H .u64 (ys.getD k 0:Nat):=keep hb (wu.out ad rfl k _ (zu ys k (by have:=lI.out;omega)));obtain⟨p,hp⟩:∃p,ys.getD k 0=p:=⟨_,rfl⟩
    have ng:p<4294967296:=hp ▸ xr ry (by omega) k;rw[hp]at c1;have Hp:=lhd hp;clear hp;have c3:wr ⟨w,k,Z⟩=H .u64 (l.getD k 0:Nat):=(af.cellAt k (by omega)).trans (zu l k (by have:=dD.out;omega));have f3:wr.frozen? ⟨w,k,Z⟩=false:=af.frozenAt k;obtain⟨o,ho⟩:∃o,l.getD k 0=o:=⟨_,rfl⟩
    rw[ho]at c3;clear ho;have aZ:k<l.length:=by have:=dD.out;omega
    by_cases wB:k<len
    ·obtain⟨bd,rfl⟩:=sadq Hn.out (by omega)
     have c2:wr (bd.add k)=H .u64 (zs.getD k 0:Nat):=keep hb (Hc.out bd rfl k _ (zu zs k (by have:=Hz.out;omega)));obtain⟨q,hq⟩:∃q,zs.getD k 0=q:=⟨_,rfl⟩
     have fN:q<4294967296:=hq ▸ xr rz (by omega) k;rw[hq]at c2;have Hq:=lhd hq;clear hq;go_wp2;go_roundw
     case measure=>simp[intOf];omega
     case rel =>
      have ag:=q0x 4294967296 ys zs (l.take k) k d (by simp;omega) Hv.out;rw[Hp.out,Hq.out,<-zt l k _ aZ]at ag;exact⟨k+1,(d+p+q) / 4294967296,l.set k ((d+p+q)%4294967296),qh (by omega),q0t (by omega),by omega,by omega,by simp[dD.out],q3f hr _ (Nat.mod_lt _ (by omega)),ag,
       jt (af.stored k _).1 (by omega) (by omega),hb.setCell (nlr _) _⟩
    ·have q0:zs.getD k 0=0:=q0h _ _ (by have:=Hz.out;omega);have Hq:=lhd q0;clear q0;go_wp2;go_roundw
     case measure=>simp[intOf];omega
     case rel =>
      have ag:=q0x 4294967296 ys zs (l.take k) k d (by simp;omega) Hv.out;rw[Hp.out,Hq.out,Nat.add_zero,<-zt l k _ aZ]at ag;exact⟨k+1,(d+p) / 4294967296,l.set k ((d+p)%4294967296),qh (by omega),q0t (by omega),by omega,by omega,by simp[dD.out],q3f hr _ (Nat.mod_lt _ (by omega)),ag,
       jt (af.stored k _).1 (by omega) (by omega),hb.setCell (nlr _) _⟩
   ·have aZ:k=ay:=by omega
    have c3:wr ⟨w,ay,Z⟩=H .u64 (l.getD ay 0:Nat):=(af.cellAt ay (by omega)).trans (zu l ay (by have:=dD.out;omega));have f3:wr.frozen? ⟨w,ay,Z⟩=false:=af.frozenAt ay;have lu:=(af.stored ay (H .u64 (d:Int))).1;rw[<-q5s]at lu;have aw:=hb.setCell (p:=⟨w,ay,Z⟩) (nlr _) (H .u64 (d:Int));have eS:val 4294967296 (l.set ay d)=val 4294967296 zs+val 4294967296 ys:=by have lv:=Hv.out;rw[aZ,xo _ ys _ (by have:=lI.out;omega),xo _ zs _ (by have:=Hz.out;omega)]at lv;have e:=zt l ay d (by have:=dD.out;omega);rw[gr (by simp[dD.out])]at e;rw[e,vu,gD,bB (by have:=dD.out;omega),lv];rw[Nat.add_comm]
    have yB:=lhd eS;clear eS;have Bf:=lhd aZ;clear aZ;go_wp2_with (go_at_call 123;refine(q7i _ _ _ (Sl.qc lu)).mono ?_;rintro e w' ⟨u,rfl,ou,rfl⟩);go_ret;refine⟨_,rfl,?_,aw⟩;rw[ze 4294967296 (by omega) _ (q3f hr _ (by omega)),yB.out]at ou;exact ou
 ·go_enter Tryz.func93,Tryz.ntmps93;go_wp2_with (at_make;refine wpList_make_full _ rfl _ _ 138 rfl w 135 i0 (H .u64 0) 1 Tryz.underlying138 hi dv dB _ _ _ _ (len+1) rfl rfl (by omega) (by omega) (by rw[de];omega) (by unfold maxLen;omega) (nlr _) ?_);intro w0 ct cw;have dS:Below w w w0:=(q9).grown cw (nlr _) (fun k hk=>by cases hk);rw[toList_madeCells_one,q1w]at ct;clear cw;go_wp2;go_loopw [6,22] (fun c i wr=>∃(k d:Nat) (l:List Nat),i=k/\c=H .u64 d/\k<=len/\d<=1/\l.length=len+1/\InR 4294967296 l ∧
   val 4294967296 (l.take k)+4294967296^k*d=val 4294967296 (zs.take k)+val 4294967296 (ys.take k) ∧
   wr.ownsRow w 135 1 (O w (len+1) (len+1)) (len+1) (du l)/\Below w w wr) (fun _ i _=>len-(intOf i).toNat)
  case atStart=>exact⟨0,0,_,rfl,rfl,gm _,by omega,by simp,fun d hd=>by simp at hd;omega,by simp[val],ct,dS⟩
  case round =>
   obtain⟨k,d,l,rfl,rfl,hk,hd,aW,hr,hv,af,hb⟩:=hrel;clear ct dS;have dD:=lhd aW;clear aW;have Hv:=lhd hv;clear hv;by_cases ak:k<len
   ·obtain⟨ad,rfl⟩:=sadq Hn.out (by omega)
    have c1:wr (ad.add k)=H .u64 (zs.getD k 0:Nat):=keep hb (Hc.out ad rfl k _ (zu zs k (by have:=Hz.out;omega)));obtain⟨p,hp⟩:∃p,zs.getD k 0=p:=⟨_,rfl⟩
    have ng:p<4294967296:=hp ▸ xr rz (by omega) k;rw[hp]at c1;have Hp:=lhd hp;clear hp;have c3:wr ⟨w,k,Z⟩=H .u64 (l.getD k 0:Nat):=(af.cellAt k (by omega)).trans (zu l k (by have:=dD.out;omega));have f3:wr.frozen? ⟨w,k,Z⟩=false:=af.frozenAt k;obtain⟨o,ho⟩:∃o,l.getD k 0=o:=⟨_,rfl⟩
    rw[ho]at c3;clear ho;have aZ:k<l.length:=by have:=dD.out;omega
    by_cases wB:k<ay
    ·obtain⟨bd,rfl⟩:=sadq wA.out (by omega)
     have c2:wr (bd.add k)=H .u64 (ys.getD k 0:Nat):=keep hb (wu.out bd rfl k _ (zu ys k (by have:=lI.out;omega)));obtain⟨q,hq⟩:∃q,ys.getD k 0=q:=⟨_,rfl⟩
     have fN:q<4294967296:=hq ▸ xr ry (by omega) k;rw[hq]at c2;have Hq:=lhd hq;clear hq;go_wp2;go_roundw
     case measure=>simp[intOf];omega
     case rel =>
      have ag:=q0x 4294967296 zs ys (l.take k) k d (by simp;omega) Hv.out;rw[Hp.out,Hq.out,<-zt l k _ aZ]at ag;exact⟨k+1,(d+p+q) / 4294967296,l.set k ((d+p+q)%4294967296),qh (by omega),q0t (by omega),by omega,by omega,by simp[dD.out],q3f hr _ (Nat.mod_lt _ (by omega)),ag,
       jt (af.stored k _).1 (by omega) (by omega),hb.setCell (nlr _) _⟩
    ·have q0:ys.getD k 0=0:=q0h _ _ (by have:=lI.out;omega);have Hq:=lhd q0;clear q0;go_wp2;go_roundw
     case measure=>simp[intOf];omega
     case rel =>
      have ag:=q0x 4294967296 zs ys (l.take k) k d (by simp;omega) Hv.out;rw[Hp.out,Hq.out,Nat.add_zero,<-zt l k _ aZ]at ag;exact⟨k+1,(d+p) / 4294967296,l.set k ((d+p)%4294967296),qh (by omega),q0t (by omega),by omega,by omega,by simp[dD.out],q3f hr _ (Nat.mod_lt _ (by omega)),ag,
       jt (af.stored k _).1 (by omega) (by omega),hb.setCell (nlr _) _⟩
   ·have aZ:k=len:=by omega
    have c3:wr ⟨w,len,Z⟩=H .u64 (l.getD len 0:Nat):=(af.cellAt len (by omega)).trans (zu l len (by have:=dD.out;omega));have f3:wr.frozen? ⟨w,len,Z⟩=false:=af.frozenAt len;have lu:=(af.stored len (H .u64 (d:Int))).1;rw[<-q5s]at lu;have aw:=hb.setCell (p:=⟨w,len,Z⟩) (nlr _) (H .u64 (d:Int));have eS:val 4294967296 (l.set len d)=val 4294967296 zs+val 4294967296 ys:=by have lv:=Hv.out;rw[aZ,xo _ zs _ (by have:=Hz.out;omega),xo _ ys _ (by have:=lI.out;omega)]at lv;have e:=zt l len d (by have:=dD.out;omega);rw[gr (by simp[dD.out])]at e;rw[e,vu,gD,bB (by have:=dD.out;omega),lv]
    have yB:=lhd eS;clear eS;have Bf:=lhd aZ;clear aZ;go_wp2_with (go_at_call 123;refine(q7i _ _ _ (Sl.qc lu)).mono ?_;rintro e w' ⟨u,rfl,ou,rfl⟩);go_ret;refine⟨_,rfl,?_,aw⟩;rw[ze 4294967296 (by omega) _ (q3f hr _ (by omega)),yB.out]at ou;exact ou
theorem qet (p d q:Nat)(h:p<d+q)(hd:d<=1)(hq:q<4294967296):IntKind.u64.wrap (IntKind.u64.wrap ((p:Int)-d)-q)=((18446744073709551616+p-d-q:Nat):Int):=by simp[IntKind.wrap,IntKind.bits,IntKind.signed];omega
theorem qeu (p d q:Nat)(h:p<d+q)(hd:d<=1)(hq:q<4294967296):IntKind.u64.wrap ((p:Int)-d-q)=((18446744073709551616+p-d-q:Nat):Int):=by simp[IntKind.wrap,IntKind.bits,IntKind.signed];omega
theorem qev (p d:Nat)(h:p<d)(hd:d<=1):IntKind.u64.wrap ((p:Int)-d)=((18446744073709551616+p-d:Nat):Int):=by simp[IntKind.wrap,IntKind.bits,IntKind.signed];omega
theorem qot (v u:ε)(x y:Nat)(w:δ)(h:Sl w 1 v (du (dig 4294967296 x)))(k:Sl w 1 u (du (dig 4294967296 y)))(hxy:y<=x)
  (bz:(dig 4294967296 x).length<=1099511627776) :
  Calls Tryz.prog 94 #[v,u] w fun e w'=>∃r,e=.returned r/\Sl w' 1 r (du (dig 4294967296 (x-y)))/\Below w w w':=by
 obtain⟨a,len,cap,rfl,hl,hm,hz,hn,hc⟩:=h;obtain⟨b,ay,dQ,rfl,nc,tl,jK,nf,hc'⟩:=k;rw[q18,gK]at hz jK;unfold maxLen at hm tl;have aW:ay<=len:=by rw[<-hz,<-jK];exact j4 4294967296 (by omega) _ _ hxy
 generalize jJ:dig 4294967296 x=zs at *;generalize iT:dig 4294967296 y=ys at *;have rz:InR 4294967296 zs:=jJ ▸ zb 4294967296 (by omega) x;have ry:InR 4294967296 ys:=iT ▸ zb 4294967296 (by omega) y;have vz:val 4294967296 zs=x:=jJ ▸ xw 4294967296 (by omega) x;have vy:val 4294967296 ys=y:=iT ▸ xw 4294967296 (by omega) y;rw[hz]at bz;have Hz:=lhd hz;clear hz;have lI:=lhd jK;clear jK;have Hc:=lhd hc;clear hc;have wu:=lhd hc';clear hc';have Hn:=lhd hn;clear hn;have wA:=lhd nf;clear nf;have Vz:=lhd vz;clear vz;have Vy:=lhd vy;clear vy;clear jJ iT;obtain⟨i0,hi,dv,dB,de⟩:=info_parts Tryz.q59;go_enter Tryz.func94,Tryz.ntmps94;go_wp2_with (at_make;refine wpList_make_full _ rfl _ _ 138 rfl w 135 i0 (H .u64 0) 1 Tryz.underlying138 hi dv dB _ _ _ _ len rfl rfl (by omega) (by omega) (by rw[de];omega) (by unfold maxLen;omega) (nlr _) ?_);intro w0 ct cw;have dS:Below w w w0:=(q9).grown cw (nlr _) (fun k hk=>by cases hk);rw[toList_madeCells_one,q1w]at ct;clear cw;go_wp2;go_loopw [6,14] (fun c i wr=>∃(k d:Nat) (l:List Nat),i=k/\c=H .u64 d/\k<=len/\d<=1/\l.length=len/\InR 4294967296 l ∧
  val 4294967296 (l.take k)+val 4294967296 (ys.take k)=val 4294967296 (zs.take k)+4294967296^k*d ∧
  wr.ownsRow w 135 1 (O w len len) len (du l)/\Below w w wr) (fun _ i _=>len-(intOf i).toNat)
 case atStart=>exact⟨0,0,_,rfl,rfl,gm _,by omega,by simp,fun d hd=>by simp at hd;omega,by simp[val],ct,dS⟩
 case round =>
  obtain⟨k,d,l,rfl,rfl,hk,hd,yC,hr,hv,af,hb⟩:=hrel;clear ct dS;have dD:=lhd yC;clear yC;have Hv:=lhd hv;clear hv;by_cases ak:k<len
  ·obtain⟨ad,rfl⟩:=sadq Hn.out (by omega)
   have c1:wr (ad.add k)=H .u64 (zs.getD k 0:Nat):=keep hb (Hc.out ad rfl k _ (zu zs k (by have:=Hz.out;omega)));obtain⟨p,hp⟩:∃p,zs.getD k 0=p:=⟨_,rfl⟩
   have ng:p<4294967296:=hp ▸ xr rz (by omega) k;rw[hp]at c1;have Hp:=lhd hp;clear hp;have c3:wr ⟨w,k,Z⟩=H .u64 (l.getD k 0:Nat):=(af.cellAt k (by omega)).trans (zu l k (by have:=dD.out;omega));have f3:wr.frozen? ⟨w,k,Z⟩=false:=af.frozenAt k;obtain⟨o,ho⟩:∃o,l.getD k 0=o:=⟨_,rfl⟩
   rw[ho]at c3;clear ho;have aZ:k<l.length:=by have:=dD.out;omega
   have step:∀(w1:δ) (q d' m:Nat),ys.getD k 0=q->w1.ownsRow w 135 1 (O w len len) len (du (l.set k m))->Below w w w1->m<4294967296->d'<=1->m+q+d=p+4294967296*d' →
     ∃(k' Jb:Nat) (l':List Nat),(H φ ((k:Int)+1))=k'/\H .u64 (d':Int)=H .u64 Jb/\k'<=len/\Jb<=1/\l'.length=len/\InR 4294967296 l' ∧
      val 4294967296 (l'.take k')+val 4294967296 (ys.take k')=val 4294967296 (zs.take k')+4294967296^k'*Jb ∧
      w1.ownsRow w 135 1 (O w len len) len (du l')/\Below w w w1:=by
    intro w1 q d' m hq ho ae hm eT he;have ag:=q5p 4294967296 zs ys (l.take k) k d d' m (by simp;omega) Hv.out (by rw[Hp.out,hq];exact he);rw[<-zt l k _ aZ]at ag;exact⟨k+1,d',l.set k m,qh (by omega),rfl,by omega,eT,by simp[dD.out],q3f hr _ hm,ag,ho,ae⟩
   have Step:=lhd step;clear step;by_cases wB:k<ay
   ·obtain⟨bd,rfl⟩:=sadq wA.out (by omega)
    have c2:wr (bd.add k)=H .u64 (ys.getD k 0:Nat):=keep hb (wu.out bd rfl k _ (zu ys k (by have:=lI.out;omega)));obtain⟨q,hq⟩:∃q,ys.getD k 0=q:=⟨_,rfl⟩
    have fN:q<4294967296:=hq ▸ xr ry (by omega) k;rw[hq]at c2;have Hq:=lhd hq;clear hq;by_cases ue:p<d+q
    ·by_cases wC:p<d
     ·go_wp2;go_roundw
      case measure=>simp[intOf];omega
      case rel =>have e1:=qet p d q ue hd fN;rw[show H .u64 (IntKind.u64.wrap (IntKind.u64.wrap ((p:Int)-d)-q) / 9223372036854775808)=H .u64 ((1:Nat):Int)from q0t (by rw[e1];omega)];exact Step.out _ q 1 ((18446744073709551616+p-d-q)%4294967296) Hq.out (jt (af.stored k _).1 e1 (by omega)) (hb.setCell (nlr _) _) (by omega) (by omega) (by omega)
     ·go_wp2;go_roundw
      case measure=>simp[intOf];omega
      case rel =>have e1:=qeu p d q ue hd fN;rw[show H .u64 (IntKind.u64.wrap ((p:Int)-d-q) / 9223372036854775808)=H .u64 ((1:Nat):Int)from q0t (by rw[e1];omega)];exact Step.out _ q 1 ((18446744073709551616+p-d-q)%4294967296) Hq.out (jt (af.stored k _).1 e1 (by omega)) (hb.setCell (nlr _) _) (by omega) (by omega) (by omega)
    ·go_wp2;go_roundw
     case measure=>simp[intOf];omega
     case rel =>rw[show H .u64 (((p:Int)-d-q) / 9223372036854775808)=H .u64 ((0:Nat):Int)from q0t (by omega)];exact Step.out _ q 0 ((p-d-q)%4294967296) Hq.out (jt (af.stored k _).1 (by omega) (by omega)) (hb.setCell (nlr _) _) (by omega) (by omega) (by omega)
   ·have q0:ys.getD k 0=0:=q0h _ _ (by have:=lI.out;omega);have Hq:=lhd q0;clear q0;by_cases wC:p<d
    ·go_wp2;go_roundw
     case measure=>simp[intOf];omega
     case rel =>have e1:=qev p d wC hd;rw[show H .u64 (IntKind.u64.wrap ((p:Int)-d) / 9223372036854775808)=H .u64 ((1:Nat):Int)from q0t (by rw[e1];omega)];exact Step.out _ 0 1 ((18446744073709551616+p-d)%4294967296) Hq.out (jt (af.stored k _).1 e1 (by omega)) (hb.setCell (nlr _) _) (by omega) (by omega) (by omega)
    ·go_wp2;go_roundw
     case measure=>simp[intOf];omega
     case rel =>rw[show H .u64 (((p:Int)-d) / 9223372036854775808)=H .u64 ((0:Nat):Int)from q0t (by omega)];exact Step.out _ 0 0 ((p-d)%4294967296) Hq.out (jt (af.stored k _).1 (by omega) (by omega)) (hb.setCell (nlr _) _) (by omega) (by omega) (by omega)
  ·have aZ:k=len:=by omega
   subst aZ;go_wp2_with (go_at_call 123;refine(q7i _ _ _ (Sl.qc af)).mono ?_;rintro e w' ⟨u,rfl,ou,rfl⟩);go_ret;refine⟨_,rfl,?_,hb⟩;have e:=Hv.out;rw[xo _ l _ (by have:=dD.out;omega),xo _ zs _ (by have:=Hz.out;omega),xo _ ys _ (by have:=lI.out;omega),Vz.out,Vy.out]at e;have oM:=q5k 4294967296 l hr;rw[dD.out]at oM;have G4:d=0:=by
    rcases Nat.eq_zero_or_pos d with h|h
    ·exact h
    ·exfalso
     have eD:d=1:=by omega
     subst eD;rw[gK]at e;omega
   subst G4;rw[ze 4294967296 (by omega) _ hr,show val 4294967296 l=x-y by omega]at ou;exact ou
theorem qpz (v u:ε)(zs ys:List Nat)(w:δ)(h:Sl w 1 v (du zs))(k:Sl w 1 u (du ys))(rz:InR 4294967296 zs)(ry:InR 4294967296 ys)
  (bz:zs.length<=1099511627776) (Ja:ys.length<=1099511627776) :
  Calls Tryz.prog 156 #[v,u] w fun e w'=>∃r,e=.returned r/\Sl w' 1 r (du (dig 4294967296 (val 4294967296 zs*val 4294967296 ys)))/\Below w w w':=by
 obtain⟨a,len,cap,rfl,hl,hm,hz,hn,hc⟩:=h;obtain⟨b,ay,dQ,rfl,nc,tl,jK,nf,hc'⟩:=k;rw[q18,gK]at hz jK;unfold maxLen at hm tl;rw[hz]at bz;rw[jK]at Ja;have Hz:=lhd hz;clear hz;have lI:=lhd jK;clear jK;have Hc:=lhd hc;clear hc;have wu:=lhd hc';clear hc';have Hn:=lhd hn;clear hn;have wA:=lhd nf;clear nf;obtain⟨i0,hi,dv,dB,de⟩:=info_parts Tryz.q59;go_enter Tryz.func156,Tryz.ntmps156;go_wp2_with (at_make;refine wpList_make_full _ rfl _ _ 138 rfl w 135 i0 (H .u64 0) 1 Tryz.underlying138 hi dv dB _ _ _ _ (len+ay) rfl rfl (by omega) (by omega) (by rw[de];omega) (by unfold maxLen;omega) (nlr _) ?_);intro w0 ct cw;have dS:Below w w w0:=(q9).grown cw (nlr _) (fun k hk=>by cases hk);rw[toList_madeCells_one,q1w]at ct;clear cw;go_wp2;go_loopw [20] (fun i wr=>∃(k:Nat) (l:List Nat),i=k/\k<=len/\l.length=len+ay/\InR 4294967296 l/\val 4294967296 l=val 4294967296 (zs.take k)*val 4294967296 ys/\(∀j,k+ay<=j->l.getD j 0=0) ∧
   wr.ownsRow w 135 1 (O w (len+ay) (len+ay)) (len+ay) (du l)/\Below w w wr) (fun i _=>len-(intOf i).toNat)
 case atStart=>exact⟨0,_,rfl,gm _,by simp,fun d hd=>by simp at hd;omega,by simp[q7h,val],fun j _=>q3a _ _,ct,dS⟩
 case round =>
  obtain⟨i,l,rfl,hi,aW,hr,hv,hzero,af,hb⟩:=hrel;have dD:=lhd aW;clear aW;have Hv:=lhd hv;clear hv;have kL:=lhd hzero;clear hzero;clear ct dS;by_cases ak:i<len
  ·obtain⟨ad,rfl⟩:=sadq Hn.out (by omega)
   obtain⟨wo,eE⟩:=x4 wr;subst eE;have c1:wo (ad.add i)=H .u64 (zs.getD i 0:Nat):=keep hb (Hc.out ad rfl i _ (zu zs i (by have:=Hz.out;omega)));obtain⟨p,hp⟩:∃p,zs.getD i 0=p:=⟨_,rfl⟩
   have ng:p<4294967296:=hp ▸ xr rz (by omega) i;rw[hp]at c1;have Hp:=lhd hp;clear hp;go_wp2;clear c1;go_loopw [8,27] (fun c q wr=>∃(k d:Nat) (l:List Nat),q=k/\c=H .u64 d/\k<=ay/\d<4294967296/\l.length=len+ay/\InR 4294967296 l/\val 4294967296 l+4294967296^(i+k)*d=mulR 4294967296 zs ys i k/\(∀j,i+ay<=j->l.getD j 0=0) ∧
    wr.ownsRow w 135 1 (O w (len+ay) (len+ay)) (len+ay) (du l)/\Below w w wr) (fun _ q _=>ay-(intOf q).toNat)
   case atStart=>exact⟨0,0,l,rfl,rfl,gm _,by omega,dD.out,hr,by rw[q7e,Nat.mul_zero,Nat.add_zero];exact Hv.out,kL.out,af,hb⟩
   case round =>
    obtain⟨k,d,l2,rfl,rfl,hk,hd,aW,cE,hv,hzero,dK,aj⟩:=hrel;clear af hb hr dD Hv kL;have dD:=lhd aW;clear aW;have Hv:=lhd hv;clear hv;have kL:=lhd hzero;clear hzero;by_cases aZ:k<ay
    ·obtain⟨bd,rfl⟩:=sadq wA.out (by omega)
     have c2:wr (bd.add k)=H .u64 (ys.getD k 0:Nat):=keep aj (wu.out bd rfl k _ (zu ys k (by have:=lI.out;omega)));have c3:wr ⟨w,i+k,Z⟩=H .u64 (l2.getD (i+k) 0:Nat):=(dK.cellAt (i+k) (by omega)).trans (zu l2 (i+k) (by have:=dD.out;omega));have f3:wr.frozen? ⟨w,i+k,Z⟩=false:=dK.frozenAt (i+k);obtain⟨q,hq⟩:∃q,ys.getD k 0=q:=⟨_,rfl⟩
     have fN:q<4294967296:=hq ▸ xr ry (by omega) k;rw[hq]at c2;have Hq:=lhd hq;clear hq;obtain⟨o,ho⟩:∃o,l2.getD (i+k) 0=o:=⟨_,rfl⟩
     have tr:o<4294967296:=ho ▸ xr cE (by omega) (i+k);rw[ho]at c3;have Ho:=lhd ho;clear ho;obtain⟨t,ht⟩:∃t,p*q=t:=⟨_,rfl⟩
     have C2:t<=4294967295*4294967295:=by rw[<-ht];exact Nat.mul_le_mul (by omega) (by omega)
     have yD:(p:Int)*q=t:=by rw[<-ht];simp
     have Ht:=lhd ht;clear ht;have i1:(0:Int)<=(i:Int)+k:=by omega
     have i2:(i:Int)+k<(len:Int)+ay:=by omega
     go_wp2;clear yD;go_roundw
     case measure=>simp[intOf];omega
     case rel =>
      have ag:=q9u 4294967296 l2 (i+k) d t _ (by have:=dD.out;omega) Hv.out;rw[Ho.out]at ag;refine⟨k+1,(o+t+d) / 4294967296,l2.set (i+k) ((o+t+d)%4294967296),qh (by omega),q0t (by omega),by omega,by omega,by simp[dD.out],q3f cE _ (Nat.mod_lt _ (by omega)),?_,?_,jt (dK.stored (i+k) _).1 (by omega) (by omega),aj.setCell (nlr _) _⟩
      ·rw[q7d,Hp.out,Hq.out,Ht.out,<-Nat.add_assoc];exact ag
      ·intro j hj;rw[q1t _ _ _ _ (by omega)];exact kL.out j hj
    ·have yF:k=ay:=by omega
     have c3:wr ⟨w,i+k,Z⟩=H .u64 (l2.getD (i+k) 0:Nat):=(dK.cellAt (i+k) (by omega)).trans (zu l2 (i+k) (by have:=dD.out;omega));have f3:wr.frozen? ⟨w,i+k,Z⟩=false:=dK.frozenAt (i+k);rw[yF]at c3 f3;have i1:(0:Int)<=(i:Int)+ay:=by omega
     have i2:(i:Int)+ay<(len:Int)+ay:=by omega
     have lu:=(dK.stored (i+ay) (H .u64 (d:Int))).1;have aw:=aj.setCell (p:=⟨w,i+ay,Z⟩) (nlr _) (H .u64 (d:Int));have Jc:=lhd yF;clear yF;go_wp2;go_roundw
     case measure=>simp[intOf];omega
     case rel =>
      have lv:=Hv.out;rw[Jc.out]at lv;have Jd:=qd4 4294967296 l2 (i+ay) d _ (by have:=dD.out;omega) (kL.out _ (nlr _)) lv;refine⟨i+1,l2.set (i+ay) d,qh (by omega),by omega,by simp[dD.out],q3f cE _ hd,?_,?_,?_,aw⟩
      ·rw[Jd,<-lI.out,q9v]
      ·intro j hj;rw[q1t _ _ _ _ (by omega)];exact kL.out j (by omega)
      ·rw[q5s];exact lu
  ·have dT:i=len:=by omega
   subst dT;go_wp2_with (go_at_call 123;refine(q7i _ _ _ (Sl.qc af)).mono ?_;rintro e w' ⟨u,rfl,ou,rfl⟩);go_ret;refine⟨_,rfl,?_,hb⟩;have lv:=Hv.out;rw[xo _ zs _ (by have:=Hz.out;omega)]at lv;rw[ze 4294967296 (by omega) _ hr,lv]at ou;exact ou
end Go.Proofs.YtmkpbhaoalbhjaaGreatDoor
namespace Go.Cx
theorem q3p (B:Nat)(L:List Nat):val B L=L.getD 0 0+B*val B (L.drop 1):=by cases L <;> simp[val]
def wd:Nat->List Nat->List Nat
 |0,_=>[]
 |n+1,L=>(L.getD 0 0+256*L.getD 1 0+65536*L.getD 2 0+16777216*L.getD 3 0) :: wd n (L.drop 4)
theorem q7j (L:List Nat)(i j:Nat):(L.drop i).getD j 0=L.getD (i+j) 0:=by simp[List.getD]
theorem qew (n:Nat)(L:List Nat):(wd n L).length=n:=by
 induction n generalizing L with
 |zero=>rfl
 |succ n ih=>simp[wd,ih]
theorem qjz (n:Nat)(L:List Nat)(j:Nat)(h:j<n):(wd n L).getD j 0=L.getD (4*j) 0+256*L.getD (4*j+1) 0+65536*L.getD (4*j+2) 0+16777216*L.getD (4*j+3) 0:=by
 induction n generalizing L j with
 |zero=>omega
 |succ n ih =>
  cases j with
  |zero=>simp[wd]
  |succ j =>rw[wd,List.getD_cons_succ,ih _ _ (by omega)];simp only [q7j];rw[show 4+4*j=4*(j+1) by omega,show 4+(4*j+1)=4*(j+1)+1 by omega,show 4+(4*j+2)=4*(j+1)+2 by omega,show 4+(4*j+3)=4*(j+1)+3 by omega]
theorem qn0 (n:Nat)(L:List Nat)(h:L.length<=4*n):val 4294967296 (wd n L)=val 256 L:=by
 induction n generalizing L with
 |zero=>have:L=[]:=List.length_eq_zero_iff.1 (by omega);subst this;rfl
 |succ n ih =>have h1:=q3p 256 L;have h2:=q3p 256 (L.drop 1);have h3:=q3p 256 (L.drop 2);have h4:=q3p 256 (L.drop 3);simp only [q7j,List.drop_drop]at h1 h2 h3 h4;rw[wd,val,ih _ (by simp;omega)];simp only [Nat.add_zero,Nat.reduceAdd]at *;omega
def mk (L:List Nat)(k p:Nat):Nat:=if p<k then 0 else L.getD p 0
def mw (L:List Nat)(k j:Nat):Nat:=mk L k (4*j)+256*mk L k (4*j+1)+65536*mk L k (4*j+2)+16777216*mk L k (4*j+3)
theorem qn1 (L:List Nat)(k j:Nat)(h:L.length<=k):mw L k j=0:=by
 have:∀p,mk L k p=0:=by
  intro p;unfold mk;split
  ·rfl
  ·exact q0h L p (by omega)
 simp[mw,this]
theorem qk0 (L:List Nat)(n j:Nat)(h:j<n):mw L 0 j=(wd n L).getD j 0:=by rw[qjz n L j h];simp[mw,mk]
theorem qgn (L:List Nat)(m j:Nat)(h:j≠m / 4):mw L m j=mw L (m+1) j:=by
 have:∀p,p≠m->mk L m p=mk L (m+1) p:=by
  intro p hp;unfold mk;by_cases h1:p<m
  ·rw[if_pos h1,if_pos (by omega)]
  ·rw[if_neg h1,if_neg (by omega)]
 unfold mw;rw[this _ (by omega),this _ (by omega),this _ (by omega),this _ (by omega)]
theorem qd8 {L:List Nat}(h:InR 256 L)(k p:Nat):mk L k p<256:=by
 unfold mk;split
 ·omega
 ·exact xr h (by omega) p
theorem qk1 (L:List Nat)(hL:InR 256 L)(m:Nat):mw L m (m / 4)=mw L (m+1) (m / 4) ||| (L.getD m 0*2^(8*(m%4))):=by
 have hb:=xr hL (by omega) m;have tu:∀p,p<m+1->mk L (m+1) p=0:=fun p hp=>by unfold mk;rw[if_pos hp]
 have oN:∀p,p<m->mk L m p=0:=fun p hp=>by unfold mk;rw[if_pos hp]
 have Bg:∀p,m<p->mk L m p=mk L (m+1) p:=fun p hp=>by unfold mk;rw[if_neg (by omega),if_neg (by omega)]
 have hm:mk L m m=L.getD m 0:=by unfold mk;rw[if_neg (by omega)]
 obtain⟨q,r,rfl,hr⟩:∃q r,m=4*q+r/\r<4:=⟨m / 4,m%4,by omega,by omega⟩
 have e1:(4*q+r) / 4=q:=by omega
 have e2:(4*q+r)%4=r:=by omega
 rw[e1,e2];generalize hx:L.getD (4*q+r) 0=x at *;have key:∀i a:Nat,x<2^8->(2^(i+8)*a) ||| (x*2^i)=2^(i+8)*a+x*2^i:=by
  intro i a Bh;have ak:x*2^i<2^(i+8):=by rw[Nat.pow_add,Nat.mul_comm];exact Nat.mul_lt_mul_of_pos_left Bh (Nat.pow_pos (by omega))
  exact(Nat.two_pow_add_eq_or_of_lt ak a).symm
 have Bh:x<2^8:=by simpa using hb
 have hc:r=0\/r=1\/r=2\/r=3:=by omega
 unfold mw;rcases hc with rfl|rfl|rfl|rfl
 ·have k:=key 0 (mk L (4*q+1) (4*q+1)+256*mk L (4*q+1) (4*q+2)+65536*mk L (4*q+1) (4*q+3)) Bh;rw[Nat.add_zero]at *;rw[hm,tu _ (by omega),Bg _ (by omega),Bg _ (by omega),Bg _ (by omega)];simp only [Nat.mul_zero,Nat.pow_zero,Nat.mul_one,Nat.zero_add]at *;rw[show (2:Nat)^8=256 by decide]at k;have e:256*mk L (4*q+1) (4*q+1)+65536*mk L (4*q+1) (4*q+2)+16777216*mk L (4*q+1) (4*q+3)=256*(mk L (4*q+1) (4*q+1)+256*mk L (4*q+1) (4*q+2)+65536*mk L (4*q+1) (4*q+3)):=by omega
  rw[e,k];omega
 ·have k:=key 8 (mk L (4*q+1+1) (4*q+2)+256*mk L (4*q+1+1) (4*q+3)) Bh;rw[hm,oN _ (by omega),tu _ (by omega),tu _ (by omega),Bg _ (by omega),Bg _ (by omega)];simp only [Nat.mul_zero,Nat.mul_one,Nat.zero_add,Nat.reduceAdd]at *;rw[show (2:Nat)^16=65536 by decide,show (2:Nat)^8=256 by decide]at k;have e:65536*mk L (4*q+1+1) (4*q+2)+16777216*mk L (4*q+1+1) (4*q+3)=65536*(mk L (4*q+1+1) (4*q+2)+256*mk L (4*q+1+1) (4*q+3)):=by omega
  rw[e,show (2:Nat)^8=256 by decide,k];omega
 ·have k:=key 16 (mk L (4*q+2+1) (4*q+3)) Bh;rw[hm,oN _ (by omega),oN _ (by omega),tu _ (by omega),tu _ (by omega),tu _ (by omega),Bg _ (by omega)];simp only [Nat.mul_zero,Nat.zero_add,Nat.reduceAdd,Nat.reduceMul]at *;rw[show (2:Nat)^24=16777216 by decide,show (2:Nat)^16=65536 by decide]at k;rw[show (2:Nat)^16=65536 by decide,k];omega
 ·have k:=key 24 0 Bh;rw[hm,oN _ (by omega),oN _ (by omega),oN _ (by omega),tu _ (by omega),tu _ (by omega),tu _ (by omega),tu _ (by omega)];simp only [Nat.mul_zero,Nat.zero_add,Nat.reduceAdd,Nat.reduceMul]at *;rw[show (2:Nat)^24=16777216 by decide]at k;rw[show (2:Nat)^24=16777216 by decide,k];omega
theorem q71 (l m:List Nat)(h:l.length=m.length)(e:∀j,j<l.length->l.getD j 0=m.getD j 0):l=m:=by apply List.ext_getElem h;intro j h1 h2;have:=e j h1;simpa [List.getD,h1,h2]using this
theorem qmf {L:List Nat}(h:InR 256 L)(k j:Nat):mw L k j<4294967296:=by have h1:=qd8 h k (4*j);have h2:=qd8 h k (4*j+1);have h3:=qd8 h k (4*j+2);have h4:=qd8 h k (4*j+3);unfold mw;omega
end Go.Cx
namespace Go.Proofs.YtmkpbhaoalbhjaaGreatDoor
open Go.RowKit Go.Cx
theorem qn2 (o b r:Nat)(ho:o<4294967296)(hb:b<256)(hr:r<4) :
  bits .or .u64 (o:Int) (IntKind.u64.wrap (IntKind.u64.wrap (b:Int)*2^(8*r)))=((o ||| b*2^(8*r):Nat):Int):=by
 have h1:IntKind.u64.wrap (b:Int)=b:=IntWalk.u64_in _ (by omega);have hc:r=0\/r=1\/r=2\/r=3:=by omega
 have h2:b*2^(8*r)<4294967296/\IntKind.u64.wrap ((b:Int)*2^(8*r))=((b*2^(8*r):Nat):Int):=by
  rcases hc with rfl|rfl|rfl|rfl
  ·simp only [Nat.mul_zero,Nat.pow_zero,Nat.mul_one,Int.pow_zero,Int.mul_one];exact⟨by omega,IntWalk.u64_in _ (by omega)⟩
  ·simp only [Nat.mul_one,show (2:Nat)^8=256 by decide,show (2:Int)^8=256 by decide];exact⟨by omega,by rw[IntWalk.u64_in _ (by omega)];omega⟩
  ·simp only [Nat.reduceMul,show (2:Nat)^16=65536 by decide,show (2:Int)^16=65536 by decide];exact⟨by omega,by rw[IntWalk.u64_in _ (by omega)];omega⟩
  ·simp only [Nat.reduceMul,show (2:Nat)^24=16777216 by decide,show (2:Int)^24=16777216 by decide];exact⟨by omega,by rw[IntWalk.u64_in _ (by omega)];omega⟩
 rw[h1,h2.2];exact u64_or_nat _ _ (by omega) (by omega)
theorem qgo {w:δ}{b e n:Nat}{v:ε}{l:List Nat}{X:Int}{m k:Nat}(h:w.ownsRow b e 1 v n ((du l).set k (H .u64 X)))(hx:X=m):w.ownsRow b e 1 v n (du (l.set k m)):=by subst hx;rw[q5s];exact h
theorem qgp (s:ByteArray)(m i:Nat)(h:s.size=m+1+i):(s.data.toList.reverse.map UInt8.toNat).getD m 0=(s[i]'(by omega)).toNat:=by
 have hl:s.data.toList.length=s.size:=by simp
 rw[qjv s i (by omega)];simp only [List.getD,List.getElem?_map];rw[List.getElem?_reverse (by omega),hl,show s.size-1-m=i by omega,gg (by omega)];simp
theorem q72 (l:List Nat)(j x:Nat)(h:j<l.length):(l.set j x).getD j 0=x:=by simp[List.getD,h]
theorem qgq (neg:Bool)(s:ByteArray)(w:δ)(hs:s.size<=1099511627776) :
  Calls Tryz.prog 91 #[I #[τ neg,ω s]] w fun e w'=>∃u,e=.returned u/\Sl w' 1 u (du (dig 4294967296 (qy s.data.toList)))/\Below w w w':=by
 obtain⟨i0,hi,dv,dB,de⟩:=info_parts Tryz.q59;obtain⟨N,hN⟩:∃N,(s.size+3) / 4=N:=⟨_,rfl⟩
 have MZ:((s.size:Int)+4-1) / 4=N:=by omega
 have WI:s.size<=4*N:=by omega
 have ow:4*N<=s.size+3:=by omega
 have HN:=lhd hN;clear hN;go_enter Tryz.func91,Tryz.ntmps91;go_wp2_with (at_make;refine wpList_make_full _ rfl _ _ 138 rfl (w+1) 135 i0 (H .u64 0) 1 Tryz.underlying138 hi dv dB _ _ _ _ N rfl rfl MZ MZ (by rw[de];omega) (by unfold maxLen;omega) (by simp) ?_);intro w0 ct cw;have dS:Below (w+1) (w.alloc (.cells #[τ neg,ω s] 110)) w0:=(q9).grown cw (by simp) (fun k hk=>by cases hk);rw[toList_madeCells_one,q1w]at ct;clear cw;have q1:w0 ⟨w,1,Z⟩=ω s:=(dS.cell (by simp)).trans (qd w _ _ _ 1);go_wp2;clear q1;generalize hL:s.data.toList.reverse.map UInt8.toNat=L;have G7:L.length=s.size:=by rw[<-hL];simp
 have tw:InR 256 L:=by rw[<-hL];intro d hd;obtain⟨c,_,rfl⟩:=gj.1 hd;exact c.toNat_lt
 have Na:val 256 L=qy s.data.toList:=by rw[<-hL];exact qao _
 have Nb:=lhd G7;clear G7;have QV:=lhd Na;clear Na;have HL:=lhd hL;clear hL;go_loopw [16] (fun i wr=>∃(k:Nat) (l:List Nat),i=k/\k<=s.size/\l.length=N/\InR 4294967296 l/\(∀j,j<N->l.getD j 0=mw L (s.size-k) j) ∧
   wr.ownsRow (w+1) 135 1 (O (w+1:Nat) N N) N (du l)/\Below (w+1) (w.alloc (.cells #[τ neg,ω s] 110)) wr) (fun i _=>s.size-(intOf i).toNat)
 case atStart=>exact⟨0,_,rfl,gm _,by simp,fun d hd=>by simp at hd;omega,fun j _=>by rw[q3a,qn1 L _ _ (by have:=Nb.out;omega)],ct,dS⟩
 case round =>
  obtain⟨i,l,rfl,pY,aW,hr,hv,af,hb⟩:=hrel;clear ct dS;have dD:=lhd aW;clear aW;have Hv:=lhd hv;clear hv;have ag:w.heap.size+1<=wr:=gd (by simp) hb.size;by_cases ak:i<s.size
  ·have q1:wr ⟨w,1,Z⟩=ω s:=(hb.cell (by simp)).trans (qd w _ _ _ 1);obtain⟨m,hm⟩:∃m,s.size=m+1+i:=⟨s.size-1-i,by omega⟩
   have lJ:(s.size:Int)-1-i=m:=by omega
   have i1:(0:Int)<=(i:Int):=by omega
   have i2:(i:Int)<s.size:=by omega
   have e1:Int.tdiv (m:Int) 4=((m / 4:Nat):Int):=by rw[Int.tdiv_eq_ediv_of_nonneg (by omega)];omega
   have e2:Int.tmod (m:Int) 4=((m%4:Nat):Int):=by rw[Int.tmod_eq_emod_of_nonneg (by omega)];omega
   have c3:wr ⟨w+1,m / 4,Z⟩=H .u64 (l.getD (m / 4) 0:Nat):=(af.cellAt (m / 4) (by omega)).trans (zu l (m / 4) (by have:=dD.out;omega));have f3:wr.frozen? ⟨w+1,m / 4,Z⟩=false:=af.frozenAt _;have i3:(0:Int)<=((m / 4:Nat):Int):=by omega
   have i4:((m / 4:Nat):Int)<N:=by omega
   have Hm:=lhd hm;clear hm;go_wp2
   go_region
   go_wp2;clear c3 f3 e1 e2 lJ;have C3:(s[i]'(by omega)).toNat=L.getD m 0:=by rw[<-HL.out];exact(qgp s m i Hm.out).symm
   have fg:=xr tw (by omega) m;have iU:bits .or .u64 ((l[m / 4]?.getD 0:Nat):Int) (IntKind.u64.wrap (IntKind.u64.wrap ((s[i]'(by omega)).toNat:Int)*2^(8*(m%4))))=((mw L m (m / 4):Nat):Int):=by
    have hg:l[m / 4]?.getD 0=mw L (m+1) (m / 4):=by have:=Hv.out (m / 4) (by omega);rw[show s.size-i=m+1 by have:=Hm.out;omega]at this;simpa [List.getD]using this
    rw[C3,hg,qn2 _ _ _ (qmf tw _ _) fg (Nat.mod_lt _ (by omega)),qk1 L tw m]
   have lu:=qgo ((qgd af).stored (m / 4) _).1 iU;have aw:=(hb.drew).setCell (p:=⟨w+1,m / 4,Z⟩) (nlr _) (H .u64 (bits .or .u64 ((l[m / 4]?.getD 0:Nat):Int) (IntKind.u64.wrap (IntKind.u64.wrap ((s[i]'(by omega)).toNat:Int)*2^(8*(m%4))))));go_roundw
   case measure=>simp[intOf];omega
   case rel =>
    refine⟨i+1,l.set (m / 4) (mw L m (m / 4)),qh (by omega),by omega,by simp[dD.out],q3f hr _ (qmf tw _ _),?_,lu,aw⟩;intro j hj;rw[show s.size-(i+1)=m by have:=Hm.out;omega];by_cases cj:j=m / 4
    ·subst cj;exact q72 _ _ _ (by have:=dD.out;omega)
    ·rw[q1t _ _ _ _ (fun e=>cj e.symm),qgn L m j cj,Hv.out j hj,show s.size-i=m+1 by have:=Hm.out;omega]
  ·have oO:i=s.size:=by omega
   have Nc:l=wd N L:=by refine q71 _ _ (by rw[dD.out,qew]) (fun j hj=>?_);rw[dD.out]at hj;rw[Hv.out j hj,oO,Nat.sub_self,qk0 L N j hj]
   have QW:=lhd Nc;clear Nc;have WJ:=lhd oO;clear oO;go_wp2_with (go_at_call 123;refine(q7i _ _ _ (Sl.qc af)).mono ?_;rintro e w' ⟨u,rfl,ou,rfl⟩);go_ret;refine⟨_,rfl,?_,q6s hb (Nat.le_succ _)⟩;rw[ze 4294967296 (by omega) _ hr,QW.out,qn0 N L (by have:=Nb.out;omega),QV.out]at ou;exact ou
open Go.Shelf
attribute [local go_sem] Oper.semAt_some
def back (zs:List Nat)(k:Nat):List (Nat×Nat):=(List.range k).map fun j=>(zs.length-1-j,zs.getD (zs.length-1-j) 0)
theorem qex (zs:List Nat)(k:Nat):back zs (k+1)=back zs k++[(zs.length-1-k,zs.getD (zs.length-1-k) 0)]:=by simp[back,List.range_succ]
theorem q9z (zs:List Nat)(k:Nat):(back zs k).length=k:=by simp[back]
theorem q7k (a:Addr)(j:Nat):(a.add j).block=a.block:=by unfold Addr.add;split <;> rfl
def kh (n₀ Bs:Nat)(W W':δ):Prop:=∀k,k<n₀\/k=Bs->W'.heap[k]? =W.heap[k]?
theorem kh.refl (n₀ Bs:Nat)(W:δ):kh n₀ Bs W W:=fun _ _=>rfl
theorem kh.trans {n₀ Bs:Nat}{A B C:δ}(h:kh n₀ Bs A B)(k:kh n₀ Bs B C):kh n₀ Bs A C:=fun i hi=>(k i hi).trans (h i hi)
theorem kh.put {n₀ Bs m:Nat}(h1:n₀<=m)(h2:Bs<m)(W:δ)(l:Nat)(o o':Obj)(hl:m<=l)(_:W.heap[l]? =Y o)(_:o.isCells=false)(_:o.isWalk=false):kh n₀ Bs W (W.putObj l o') :=
 fun k hk=>World.putObj_heap_other (by omega)
theorem kh.cell {n₀ Bs:Nat}{W W':δ}(h:kh n₀ Bs W W'){p:Addr}(hp:p.block<n₀\/p.block=Bs):W' p=W p:=World.cell?_of_block (w:=W) (h _ hp)
theorem qn3 (n:Nat)(hn:1<=n)(l Bs n₀:Nat)(a:Option Addr)(len cap:Nat)(zs:List Nat)(W:δ)(hS:Sl W 1 (O a len cap) (du zs))(hn₀:∀ad,a=Y ad->len≠0->ad.block<n₀)
  (At Jx:List (Nat×Nat)->δ->Prop)
  (hY:∀pre x W,At pre W->pre.length<zs.length->YieldAt Fence.wide (n-1) Tryz.prog l #[(x.1:Int),H .u64 (x.2:Int)] W fun e W' =>(e=.returned (τ true)/\At (pre++[x]) W'/\kh n₀ Bs W W')\/(e=.returned (τ false)/\Jx (pre++[x]) W'))
  (Bi:W Bs=O a len cap) (h0:At [] W) :
  CallsIn Fence.wide n Tryz.prog 150 #[.func (.yield l) #[] #[],σ Bs] W fun e W'=>(∃v,e=.returned v) ∧
   ((∃ys,ys=back zs zs.length/\At ys W')\/(∃pre,(∃k,k<=zs.length/\pre=back zs k)/\Jx pre W')):=by
 obtain⟨h1,h2,h3,h4,h5⟩:=hS.open;unfold maxLen at h2;rw[q18,gK]at h3;have H3:=lhd h3;clear h3;have H5:=lhd h5;clear h5;have H4:=lhd h4;clear h4;have HY:=lhd hY;clear hY;have Hn₀:=lhd hn₀;clear hn₀;refine callsIn_of_wp Tryz.func150 rfl trivial ?_ rfl;simp only [Tryz.ntmps150,List.size_toArray,List.length_cons,List.length_nil,Nat.reduceAdd,Nat.reduceSub,Array.replicate_succ,Array.replicate_zero,List.push_toArray,List.append_toArray,List.nil_append,List.cons_append]
 gi_wp2
 gi_loopw [3] (fun i wr=>∃k:Nat,k<=len/\i=((len:Int)-1-k:Int)/\At (back zs k) wr/\kh n₀ Bs W wr)
  (fun i _=>(intOf i+1).toNat)
 case atStart=>exact⟨0,gm _,by simp,h0,kh.refl _ _ _⟩
 case round =>
  obtain⟨k,hk,rfl,Nd,oP⟩:=hrel;by_cases ak:k<len
  ·obtain⟨m,hm⟩:∃m,len=m+1+k:=⟨len-1-k,by omega⟩
   have lJ:(len:Int)-1-k=m:=by omega
   obtain⟨ad,rfl⟩:=sadq H4.out (by omega)
   have QX:wr Bs=O (Y ad) len cap:=(oP.cell (p:=Bs) (.inr rfl)).trans Bi;have hc:=H5.out ad rfl m _ (zu zs m (by have:=H3.out;omega));have uf:wr (ad.add m)=H .u64 (zs.getD m 0:Nat):=by refine(oP.cell ?_).trans hc;rw[q7k];exact .inl (Hn₀.out ad rfl (by omega))
   clear hc;obtain⟨q,hq⟩:∃q,zs.getD m 0=q:=⟨_,rfl⟩
   rw[hq]at uf;have Hq:=lhd hq;clear hq;obtain⟨fn,tmps,assign,body,hy,hR⟩:=HY.out _ (m,q) wr Nd (by rw[q9z,H3.out];exact ak)
   dsimp only at hy
   rw[lJ];have kN:back zs (k+1)=back zs k++[(m,q)]:=by rw[qex,H3.out,show len-1-k=m by omega,Hq.out]
   have Nf:=lhd kN;clear kN;have Hm:=lhd hm;clear hm lJ;have i1:(0:Int)<=m:=by omega
   have i2:(m:Int)<len:=by have:=Hm.out;omega
   gi_wp2
   refine hR.mono ?_;rintro e W3 (⟨rfl,Je,Bj⟩|⟨rfl,yG⟩)
   ·gi_wp2
    go_roundw
    case rel=>exact⟨k+1,by omega,qh (by have:=Hm.out;omega),by rw[Nf.out];exact Je,oP.trans Bj⟩
    case measure=>simp[intOf]
   ·gi_wp2
    refine bodyPost_ret (results_none rfl _ _ _) rfl ?_;exact⟨⟨_,rfl⟩,.inr ⟨_,⟨k+1,by have:=H3.out;omega,Nf.out.symm⟩,yG⟩⟩
  ·have aZ:k=len:=by omega
   have eO:(len:Int)-1-k=-1:=by omega
   rw[eO];have Bf:=lhd aZ;clear aZ eO
   gi_wp2
   go_end0
   exact⟨⟨_,rfl⟩,.inl ⟨_,by rw[H3.out,Bf.out],Nd⟩⟩
