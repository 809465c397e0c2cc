/- Steps towards MorseChecks. Conditions: none. -/
import Derived.Deep.DrawnRows
import Derived.Deep.RegionHeld3
import Derived.Test.YtlhicnfeajejhaaGreatDoorFMa
set_option maxRecDepth 1000000
set_option maxHeartbeats 16000000
namespace Go.Proofs.YtlhicnfeajejhaaGreatDoor
open Go.RowKit Go.Cx
theorem q5q {X:Int} : ∀ u∈[Value.int .u8 X],u.oneCell'=true:=by intro u hu;simp at hu;subst hu;rfl
theorem qer (t:List Nat) (j:Nat) (bs:List UInt8) (hj:j < t.length) (hr:InR 65536 t) (hv:qy bs=val 65536 (t.drop (j+1))) :
  qy (bs++[UInt8.ofNat (t.getD j 0 / 256),UInt8.ofNat (t.getD j 0 % 256)])=val 65536 (t.drop j):=by
 have hd:=xr hr (by omega) j;rw[yj t j hj,val,<-hv,ki];simp only [qy,List.foldl_cons,List.foldl_nil,UInt8.toNat_ofNat',List.length_cons,List.length_nil];omega
theorem qmx {x:Int} {d:Nat} (h:x=d) (hd:d < 256):Value.int .u8 x = .int .u8 ((UInt8.ofNat d).toNat:Int):=by
 subst h;rw[UInt8.toNat_ofNat',Nat.mod_eq_of_lt hd]
theorem q5r {w:World} {b e n:Nat} {v:Value} {l:List UInt8} {X:Int} {d:Nat} (h:w.ownsRow b e 1 v n (u8s l++[.int .u8 X])) (hx:X=d) (hd:d < 256):w.ownsRow b e 1 v n (u8s (l++[UInt8.ofNat d])):=by
 rw[qmx hx hd] at h;rw[qbp];exact h
def q0s (bs:List UInt8):Prop:=∀ c t,bs=c :: t->c≠0
theorem q0s.append {a b:List UInt8} (h:q0s a) (ha:a≠[]):q0s (a++b):=by
 intro c t e;cases a with
 | nil=>exact absurd rfl ha
 | cons x l=>simp at e;exact e.1 ▸ h x l rfl
theorem q0s.one {d:Nat} {b:List UInt8} (h0:0 < d) (h:d < 256):q0s (UInt8.ofNat d :: b):=by
 intro c t e;simp at e;rw[<-e.1];intro e2;have:=congrArg UInt8.toNat e2;rw[UInt8.toNat_ofNat',Nat.mod_eq_of_lt h] at this;simp at this;omega
theorem q8e (neg:Bool) (v:Value) (zs:List Nat) (w:World) (h:Sl w 1 v (dv zs)) (rz:InR 65536 zs) (bz:zs.length<=1099511627776) :
  Calls Tryz.prog 90 #[.bool neg,v] w fun e w'=>e = .returned (wv (sg neg (val 65536 zs)))/\Below w.heap.size w w':=by
 have ht:=ze 65536 (by omega) zs rz;have oM:=q02 zs;have eH:trim zs≠[]->val 65536 zs≠0:=by rw[ht];intro h e;exact h ((q15 65536 _ (by omega)).2 e)
 generalize Ex:trim zs=t at *;have rt:InR 65536 t:=Ex ▸ q9o rz;have vt:val 65536 t=val 65536 zs:=by rw[<-Ex,q9n]
 have Ht:=lhd ht;clear ht;have Lj:=lhd Ex;clear Ex;have Vt:=lhd vt;clear vt;have AK:=lhd eH;clear eH;by_cases he:t=[]
 ·subst he;have v0:val 65536 zs=0:=by rw[<-Vt.out];rfl
  go_enter Tryz.func90,Tryz.ntmps90;go_wp2_with (go_at_call 146;refine(q3n _ _ _ (h.alloc _)).mono ?_;rintro e w' ⟨u,rfl,fZ,rfl⟩;rw[Lj.out] at fZ;obtain⟨a,n,cap,rfl,h1,h2,h3,_⟩:=fZ;have lU:n=0:=(by simpa [dv,q2y,ints] using h3.symm);subst lU);refine bodyPost_ret (v:=.agg #[.bool false,.string ⟨#[]⟩]) (by simp[results,Tryz.results90,go_sem]) rfl ⟨?_,?_⟩
  ·rw[v0,q57,qd5]
  ·exact(Below.refl _ _).alloc (nlr _) _
 ·have ak:val 65536 zs≠0:=AK.out he;have PW:0 < t.length:=by cases t with | nil=>exact absurd rfl he | cons=>simp
  go_enter Tryz.func90,Tryz.ntmps90;go_wp2_with fail;refine(q3n _ _ _ (h.alloc _)).mono ?_;rintro e w' ⟨u,rfl,fZ,rfl⟩;rw[Lj.out] at fZ;obtain⟨a,n,cap,rfl,h1,h2,h3,h4,h5⟩:=fZ;unfold maxLen at h2;rw[q1u,gK] at h3;have hb:n<=1099511627776:=by omega
  have ca:0 < n:=by omega
  have H3:=lhd h3;clear h3;have H5:=lhd h5;clear h5;obtain⟨ad,rfl⟩ : ∃ ad,a=some ad:=by
   cases a with
   | none=>have:=h4 rfl;omega
   | some ad=>exact⟨ad,rfl⟩
  clear h4 h;have AL:((n:Int) == 0)=false:=by simp;omega
  go_wp2_with fail;go_loopw [5,6] (fun b i wr=>∃ (j:Nat) (bs:List UInt8),i = .int .i64 ((j:Int) - 1)/\j<=n/\qy bs=val 65536 (t.drop j)/\(j < n->bs≠[])/\(j=n->bs=[])/\q0s bs/\bs.length<=2*(n - j) ∧
    wr.ownsRow (w.heap.size+1) 5 1 b bs.length (u8s bs)/\Below (w.heap.size+1) (w.alloc (.cells #[.bool false,.string ⟨#[]⟩] 38)) wr) (fun _ i _=>(intOf i+1).toNat)
  case atStart=>exact⟨n,[],rfl,nlr _,by rw[gW (by have:=H3.out;omega)];rfl,by omega,fun _=>rfl,(fun c t e=>by cases e),by simp,World.ownsRow_nil _ _ _ _,Below.refl _ _⟩
  case round =>
   obtain⟨j,bs,rfl,hj,hv,AM,vM,hh,ou,ah,cm⟩:=hrel;have Hv:=lhd hv;clear hv;have Gc:=lhd AM;clear AM;have Gd:=lhd vM;clear vM;have Hh:=lhd hh;clear hh;have aS:w.heap.size+1<=wr.heap.size:=gn (by simp) cm.size;by_cases h0:0 < j
   ·obtain⟨m,rfl⟩ : ∃ m,j=m+1:=⟨j - 1,by omega⟩
    have e1:((m+1:Nat):Int) - 1=m:=by omega
    rw[e1];have bM:=qer t m bs (by have:=H3.out;omega) rt Hv.out;have c1:wr.cell? (ad.add m)=some (.int .i64 (t.getD m 0:Nat)):=q1n cm (by simp) (H5.out ad rfl m _ (vd t m (by have:=H3.out;omega)));obtain⟨p,hp⟩ : ∃ p,t.getD m 0=p:=⟨_,rfl⟩
    have mP:p < 65536:=hp ▸ xr rt (by omega) m;rw[hp] at c1 bM;have Hp:=lhd hp;clear hp;have tx:=lhd bM;clear bM;have tz:∀ w1,Below (w.heap.size+1) (w.alloc (.cells #[.bool false,.string ⟨#[]⟩] 38)) w1->w1.cell? (ad.add m)=some (.int .i64 (p:Nat)):=fun w1 ai=>by
     have:=q1n ai (by simp) (H5.out ad rfl m _ (vd t m (by have:=H3.out;omega)))
     rwa [Hp.out] at this
    have Cw:=lhd tz;clear tz;have two:∀ v' w1,w1.ownsRow (w.heap.size+1) 5 1 v' (bs.length+1+1) (u8s (bs++[UInt8.ofNat (p / 256)]++[UInt8.ofNat (p % 256)]))->Below (w.heap.size+1) (w.alloc (.cells #[.bool false,.string ⟨#[]⟩] 38)) w1 →
      q0s (bs++[UInt8.ofNat (p / 256)]++[UInt8.ofNat (p % 256)]) →
      ∃ (j:Nat) (bs:List UInt8),Value.int .i64 ((m:Int) - 1) = .int .i64 ((j:Int) - 1)/\j<=n/\qy bs=val 65536 (t.drop j)/\(j < n->bs≠[])/\(j=n->bs=[])/\q0s bs/\bs.length<=2*(n - j) ∧
       w1.ownsRow (w.heap.size+1) 5 1 v' bs.length (u8s bs)/\Below (w.heap.size+1) (w.alloc (.cells #[.bool false,.string ⟨#[]⟩] 38)) w1:=by
     intro v' w1 ho ai PX;refine⟨m,bs++[UInt8.ofNat (p / 256)]++[UInt8.ofNat (p % 256)],rfl,by omega,by simpa using tx.out,by simp,by omega,PX,by simp;omega,by simpa using ho,ai⟩
    have Two:=lhd two;clear two;by_cases cO:m+1 < n
    ·have hz:((m:Int) < (n:Int) - 1):=by omega
     go_wp2_with (at_builtin;refine qo rfl _ _ 170 rfl (w.heap.size+1) 5 Tryz.q4c Tryz.underlying170 rfl (by decide) (by decide) _ _ _ rfl ah [.int .u8 _] rfl rfl q5q ?a3 cm aS ?_)
     case a3=>omega
     intro v' w1 bX fl ai;have vN:w.heap.size+1<=w1.heap.size:=gn (by simp) ai.size;have kV:=q5r (d:=p / 256) bX (by simp[go_sem]) (by omega);have c2:=Cw.out w1 ai;clear bX ah c1;go_wp2_with (at_builtin;refine qo rfl _ _ 170 rfl (w.heap.size+1) 5 Tryz.q4c Tryz.underlying170 rfl (by decide) (by decide) _ _ _ rfl kV [.int .u8 _] rfl rfl q5q ?b3 ai vN ?_)
     case b3=>omega
     intro v2 w2 bR vO ag;go_wp2;go_roundw
     case measure=>simp[intOf]
     case rel=>exact Two.out _ _ (q5r (d:=p % 256) bR (by simp[go_sem]) (by omega)) ag ((Hh.out.append (Gc.out cO)).append (by simp))
    ·have rO:m+1=n:=by omega
     have bL:¬ ((m:Int) < (n:Int) - 1):=by omega
     have kG:=Gd.out rO;subst kG;have Ge:p≠0:=by
      rw[<-Hp.out];have mQ:trim t=t:=by rw[Ht.out];exact qgc 65536 _ (by omega)
      have:=qeq t mQ PW
      rwa [H3.out,show n - 1=m by omega] at this
     have UU:=lhd rO;clear rO;by_cases Lk:256<=p
     ·have hz:((256:Int)<=p):=by omega
      go_wp2_with (at_builtin;refine qo rfl _ _ 170 rfl (w.heap.size+1) 5 Tryz.q4c Tryz.underlying170 rfl (by decide) (by decide) _ _ _ rfl ah [.int .u8 _] rfl rfl q5q ?d3 cm aS ?_);intro v' w1 bX fl ai;have vN:w.heap.size+1<=w1.heap.size:=gn (by simp) ai.size;have kV:=q5r (d:=p / 256) bX (by simp[go_sem]) (by omega);have c2:=Cw.out w1 ai;clear bX ah c1;go_wp2_with (at_builtin;refine qo rfl _ _ 170 rfl (w.heap.size+1) 5 Tryz.q4c Tryz.underlying170 rfl (by decide) (by decide) _ _ _ rfl kV [.int .u8 _] rfl rfl q5q ?f3 ai vN ?_)
      case f3=>simp
      intro v2 w2 bR vO ag;go_wp2;go_roundw
      case measure=>simp[intOf]
      case rel=>exact Two.out _ _ (q5r (d:=p % 256) bR (by simp[go_sem]) (by omega)) ag (q0s.one (by omega) (by omega))
     ·have hz:¬ ((256:Int)<=p):=by omega
      go_wp2_with (at_builtin;refine qo rfl _ _ 170 rfl (w.heap.size+1) 5 Tryz.q4c Tryz.underlying170 rfl (by decide) (by decide) _ _ _ rfl ah [.int .u8 _] rfl rfl q5q ?g3 cm aS ?_);intro v' w1 bX fl ai;go_wp2;go_roundw
      case measure=>simp[intOf]
      case rel =>
       refine⟨m,[UInt8.ofNat p],rfl,by omega,?_,by simp,by omega,q0s.one (by omega) (by omega),by simp;omega,?_,ai⟩
       ·rw[<-tx.out];simp only [qy,List.nil_append,List.foldl_cons,List.foldl_nil,UInt8.toNat_ofNat'];omega
       ·have:=q5r (d:=p) bX (by omega) (by omega);simpa using this
   ·have mO:j=0:=by omega
    subst mO;have lV:qy bs=val 65536 zs:=by have:=Hv.out;rw[List.drop_zero] at this;rw[this,Vt.out]
    have PY:=lhd lV;clear lV;have AN:=q1s (P:=Tryz.prog) 170 9 Tryz.underlying170 Tryz.underlying5 Tryz.underlying9 ah;have q0:wr.cell? ⟨w.heap.size,0,none⟩=some (.bool false):=(cm.cell (by simp)).trans (qd w _ _ _ 0);have q1:wr.cell? ⟨w.heap.size,1,none⟩=some (.string ⟨#[]⟩):=(cm.cell (by simp)).trans (qd w _ _ _ 1);have r0:wr.frozen? ⟨w.heap.size,0,none⟩=false:=(cm.frozen (by simp)).trans (jz (heap_alloc_new w _) 0);have r1:wr.frozen? ⟨w.heap.size,1,none⟩=false:=(cm.frozen (by simp)).trans (jz (heap_alloc_new w _) 1);go_wp2;refine bodyPost_ret (v:=.agg #[.bool neg,.string ⟨bs.toArray⟩]) (by simp[results,Tryz.results90,go_sem,q0,q1]) rfl ⟨?_,?_⟩
    ·have e1:=q30 bs Hh.out;rw[PY.out] at e1;unfold wv;rw[qgg neg _ ak,qme,e1]
    ·have:=vv cm (Nat.le_succ _);exact(this.setCell (by simp) _).setCell (by simp) _
theorem q7h (B n:Nat):val B (List.replicate n 0)=0:=by
 induction n with
 | zero=>rfl
 | succ n ih=>simp[List.replicate_succ,val,ih]
theorem q3a (n i:Nat):(List.replicate n (0:Nat)).getD i 0=0:=by
 simp only [List.getD,List.getElem?_replicate];split <;> rfl
attribute [local go_sem ↓] Go.wp_at_zero Go.wp_at_succ
def Bx (w:World) (b:Nat) (n:Bool) (s:ByteArray):Prop :=
 w.cell? ⟨b,0,none⟩=some (.bool n)/\w.cell? ⟨b,1,none⟩=some (.string s)/\w.frozen? ⟨b,0,none⟩=false/\w.frozen? ⟨b,1,none⟩=false
theorem Bx.new (w:World) (n:Bool) (s:ByteArray) (t:TypeId):Bx (w.alloc (.cells #[.bool n,.string s] t)) w.heap.size n s :=
 ⟨qd w _ _ _ 0,qd w _ _ _ 1,jz (heap_alloc_new w _) 0,jz (heap_alloc_new w _) 1⟩
theorem Bx.q8 {w w':World} {b:Nat} {n:Bool} {s:ByteArray} (h:Bx w b n s) {B:Nat} (hb:Below B w w') (hB:b < B):Bx w' b n s :=
 ⟨(hb.cell (by exact hB)).trans h.1,(hb.cell (by exact hB)).trans h.2.1,(hb.frozen (by exact hB)).trans h.2.2.1,(hb.frozen (by exact hB)).trans h.2.2.2⟩
theorem Bx.alloc {w:World} {b:Nat} {n:Bool} {s:ByteArray} (h:Bx w b n s) (hb:b < w.heap.size) (o:Obj):Bx (w.alloc o) b n s :=
 h.q8 ((Below.refl _ w).alloc (nlr _) o) hb
theorem xt {B:Nat} {w w':World} (h:Below B w.drew w'):Below B w w':=((Below.refl _ w).drew).trans h
theorem bump {W w1 w2:World} {B:Nat} (h1:Below B W w1) (hz:B<=W.heap.size) (h2:Below w1.heap.size w1 w2):Below B W w2:=h1.trans (h2.mono (gn hz h1.size))
theorem qgk (n:Bool) (x y:Nat):sg n (x+y)=sg n x+sg n y:=by unfold sg;cases n <;> simp <;> omega
theorem q8f (n m:Bool) (x y:Nat) (h:n≠m) (hxy:y<=x):sg n (x - y)=sg n x+sg m y:=by unfold sg;cases n <;> cases m <;> simp at*<;> omega
theorem qgl (n m:Bool) (x y:Nat):sg (n != m) (x*y)=sg n x*sg m y:=by unfold sg;cases n <;> cases m <;> simp[Int.neg_mul,Int.mul_neg]
theorem qd6 {x y:Nat} (h:y<=x):0<=q5o x y:=by unfold q5o;split <;> (try split) <;> omega
theorem q9x {x y:Nat} (h:x < y):q5o x y < 0:=by rw[q3l h];omega
def ve (x:Int):Int:=if x=0 then 0 else if x < 0 then -1 else 1
end Go.Proofs.YtlhicnfeajejhaaGreatDoor
namespace Go.Proofs.YtlhicnfeajejhaaGreatDoor
open Go.RowKit Go.Cx
theorem qd7 (x:Int) (h1 : -9223372036854775808<=x) (h2:x < 0):IntKind.u64.wrap (-IntKind.u64.wrap x)=(x.natAbs:Int):=by
 simp[IntKind.wrap,IntKind.bits,IntKind.signed];omega
theorem qgm (l:List Nat) (k n:Nat) (hv:val 65536 l+65536 ^ l.length*k=n) (hk:0 < k) (hn:n < 18446744073709551616):l.length < 4:=by
 rcases gL l.length 4 with h | h
 ·exact h
 ·exfalso
  have h1:65536 ^ 4<=65536 ^ l.length:=bt (by omega) h;have h2:65536 ^ l.length*1<=65536 ^ l.length*k:=Nat.mul_le_mul_left _ hk;have h3:(65536:Nat) ^ 4=18446744073709551616:=by decide
  omega
theorem qes (l:List Nat) (k n:Nat) (hv:val 65536 l+65536 ^ l.length*k=n):val 65536 (l++[k % 65536])+65536 ^ (l++[k % 65536]).length*(k / 65536)=n:=by
 rw[vu,gl,List.length_singleton,Nat.pow_succ,Nat.mul_assoc,Nat.add_assoc,<-Nat.mul_add,Nat.mod_add_div,hv]
theorem q58 (x:Int) (w:World) (h1 : -9223372036854775808<=x) (h2:x<=9223372036854775807) :
  Calls Tryz.prog 29 #[.int .i64 x] w fun e w'=>e = .returned (wv x)/\Below w.heap.size w w':=by
 have cr:sg (decide (x < 0)) x.natAbs=x:=by
  unfold sg;by_cases h:x < 0
  ·rw[if_pos (by simpa using h)];omega
  ·rw[if_neg (by simpa using h)];omega
 have Gf:=lhd cr;clear cr;have h0:∃ y:Nat,x.natAbs=y/\y<=9223372036854775808:=⟨_,rfl,by omega⟩
 obtain⟨y,hy,vP⟩:=h0;by_cases hx:x < 0
 all_goals
  go_enter Tryz.func29,Tryz.ntmps29;go_wp2_with fail
  first
   | rw[qd7 x h1 hx,hy]
   |(have hxy:x=(y:Int):=by omega
     subst hxy)
  have Hy:=lhd hy;clear hy;go_loopw [3,4] (fun o m wr=>∃ (k:Nat) (l:List Nat),m = .int .u64 k/\k<=9223372036854775808/\l.length<=4/\InR 65536 l/\val 65536 l+65536 ^ l.length*k=y/\wr.ownsRow (w.heap.size+1) 3 1 o l.length (dv l) ∧
   Below (w.heap.size+1) (w.alloc (.cells #[.bool false,.string ⟨#[]⟩] 38)) wr) (fun _ m _=>(intOf m).toNat)
  case atStart=>exact⟨y,[],rfl,vP,by simp,q3j _,by simp[val],World.ownsRow_nil _ _ _ _,Below.refl _ _⟩
  case round =>
   obtain⟨k,l,rfl,hk,hl,hr,hv,ah,hb⟩:=hrel;have aS:w.heap.size+1<=wr.heap.size:=gn (by simp) hb.size;have Hv:=lhd hv;clear hv;by_cases dr:0 < k
   ·have Ll:=qgm l k y Hv.out dr (by omega);go_wp2_with (at_builtin;refine qo rfl _ _ 22 rfl (w.heap.size+1) 3 Tryz.xg Tryz.underlying22 rfl (by decide) (by decide) _ _ _ rfl ah [.int .i64 _] rfl rfl kj (by omega) hb aS ?_);intro v' w1 lW oN cm;go_wp2;go_roundw
    case measure=>simp[intOf];omega
    case rel =>
     refine⟨k / 65536,l++[k % 65536],by first | rfl | (congr 1),by omega,by simp;omega,q01 hr (q2g (Nat.mod_lt _ (by omega))),qes l k y Hv.out,?_,cm⟩;have:=q17 (d:=k % 65536) lW (by first | rfl | omega);simpa using this
   ·have ey:k=0:=by omega
    subst ey;have Lm:val 65536 l=y:=by have:=Hv.out;omega
    have Ll:l.length<=1099511627776:=by omega
    have c0:Bx wr w.heap.size false ⟨#[]⟩:=(Bx.new w false ⟨#[]⟩ 38).q8 hb (by omega);have PZ:=lhd Lm;clear Lm;go_wp2_with fail;refine(q8e _ _ _ _ (Sl.qc ah) hr Ll).mono ?_;rintro e w2 ⟨rfl,ag⟩;rw[PZ.out];have aw:Below (w.heap.size+1) wr w2:=ag.mono aS;obtain⟨t0,t1,t2,t3⟩:=c0.q8 aw (by omega);go_wp2_with fail;have hB:=(vv (hb.trans aw) (Nat.le_succ _):Below w.heap.size w w2)
    first
     |(refine bodyPost_ret (v:=wv (sg true y)) ?_ rfl ⟨?_,(hB.setCell (by simp) _).setCell (by simp) _⟩
       ·(simp[results,Tryz.results29,go_sem,t0,t1];done))
     |(refine bodyPost_ret (v:=wv (sg (decide ((y:Int) < 0)) y)) ?_ rfl ⟨?_,(hB.setCell (by simp) _).setCell (by simp) _⟩
       ·(simp[results,Tryz.results29,go_sem,t0,t1];done))
    have e:=Gf.out
    first
     |(rw[Hy.out,show decide (x < 0)=true by simpa using hx] at e;rw[e])
     |(rw[Int.natAbs_natCast] at e;rw[e])
end Go.Proofs.YtlhicnfeajejhaaGreatDoor
