/- Steps towards MorseChecks. Conditions: none. -/
import Derived.Test.YtlhicnfeajejhaaGreatDoorFQb
import Derived.WideKeyEntry
set_option maxRecDepth 1000000
set_option maxHeartbeats 16000000
namespace Go.Cx
open Go.Maps
variable {P:Program} {k t e:TypeId} {w:World} {b n:Nat} {g:Int->Option Value}
theorem q4q {es:Array MapEntry} (hs:(es.toList.map (·.born)).Nodup) {j:Nat} {x:MapEntry} (h:es.toList[j]? = some x):es.findIdx? (fun y=>((y.born:Nat):Int) == ((x.born:Nat):Int))=some j:=by
 rw[WideElems.findIdx_arr];exact WideElems.findIdx_born hs h
theorem qb6 {H:Type} {R:Value->Option (DataW H×List MemPlace)} {es:Array MapEntry} {clock:Nat} (K:Keyed P k) (ht:P.underlying t=some (.map k e)) {z:Value} (hz:∀ u:World,(zeroValue e).run P u = .ok z u)
  (hb:w.heap[b]? = some (.map es clock)) (F:WideElems.Fit P k R es clock) {key:Value} {kl:Lit} (aq:keyOf P k key=some kl) :
  ∃ (v0:Value) (st:Nat) (o1:Obj),(Instr.mapEntry t (.map (some b)) key).run P w = .ok (.tuple #[v0,goInt st]) (ChangeMaps.setBlock w b o1) ∧
   ∀ (w2:World) (v:Value),w2.heap[b]? = some o1->∃ o2,(Instr.entryStore t (.map (some b)) (goInt st) v).run P w2 = .ok () (ChangeMaps.setBlock w2 b o2)/\(Instr.mapUpdate t (.map (some b)) key v).run P w = .ok () (ChangeMaps.setBlock w b o2):=by
 have su:=run_underlying (P:=P) ht;have wX:=@MapKept.run_getObj_map;obtain⟨s1,s2,_⟩:=F.stamped;rcases K.find w aq es.toList F.keys with ⟨dA,aH⟩ | ⟨j,x,bK,hj,s8⟩
 ·have Dd:((es.push ⟨key,z,clock⟩).toList.map (·.born)).Nodup:=by
   rw[Array.toList_push,bo];refine List.nodup_append.2 ⟨s2,by simp,fun p hp q hq he=>?_⟩;obtain⟨y,hy,rfl⟩:=go.1 hp;rw[List.map_singleton,List.mem_singleton] at hq;have h1:=s1 y hy;have h2:q=clock:=hq;have h3:y.born=q:=he;omega
  have bK:(es.push ⟨key,z,clock⟩).toList[es.size]? = some ⟨key,z,clock⟩:=by simp
  have lI:=q4q Dd bK;refine⟨z,clock,.map (es.push ⟨key,z,clock⟩) (clock+1),?_,fun w2 v eO=>⟨.map (es.push ⟨key,v,clock⟩) (clock+1),?_,?_⟩⟩
  ·simp[Instr.mapEntry,su,MapKept.run_getObj_map hb,K.check w false aq,dA,hz,MapKept.run_setObj_map _ hb,Result.andThen,ChangeMaps.setBlock]
  ·have hm:(es.push ⟨key,z,clock⟩).modify es.size (fun y=>{ y with val:=v })=es.push ⟨key,v,clock⟩:=by
    apply Array.ext';rw[Array.toList_modify,Array.toList_push,Array.toList_push,<-bi,WideElems.modify_last]
   simp[Instr.entryStore,MapKept.run_getObj_map eO,asInt,asIntOf,goInt,lI,hm,MapKept.run_setObj_map _ eO,Result.andThen,ChangeMaps.setBlock]
  ·simp[Instr.mapUpdate,su,MapKept.run_getObj_map hb,K.check w false aq,dA,MapKept.run_setObj_map _ hb,Result.andThen,ChangeMaps.setBlock]
 ·have mi:es[j]? = some x:=by simpa using hj
  have lI:=q4q s2 hj;have De:es.modify j (fun y=>{ y with key:=key })=es:=by
   apply Array.ext';rw[Array.toList_modify,Go.ChangeMaps.modify_eq_set _ _ _ _ hj,show ({ x with key:=key } : MapEntry)=x from by rw[<-s8]];exact WideElems.set_self _ _ _ hj
  have hm:∀ v,es.modify j (fun y=>{ y with val:=v })=es.modify j (fun y=>{ y with key:=key,val:=v }):=fun v=>by
   apply Array.ext';rw[Array.toList_modify,Array.toList_modify,Go.ChangeMaps.modify_eq_set _ _ _ _ hj,Go.ChangeMaps.modify_eq_set _ _ _ _ hj,<-s8]
  refine⟨x.val,x.born,.map es clock,?_,fun w2 v eO=>⟨.map (es.modify j (fun y=>{ y with key:=key,val:=v })) clock,?_,?_⟩⟩
  ·simp[Instr.mapEntry,su,MapKept.run_getObj_map hb,K.check w false aq,bK,mi,s8,K.stays w aq,De,MapKept.run_setObj_map _ hb,Result.andThen,ChangeMaps.setBlock]
  ·simp[Instr.entryStore,MapKept.run_getObj_map eO,asInt,asIntOf,goInt,lI,hm,MapKept.run_setObj_map _ eO,Result.andThen,ChangeMaps.setBlock]
  ·simp[Instr.mapUpdate,su,MapKept.run_getObj_map hb,K.check w false aq,bK,mi,s8,K.stays w aq,MapKept.run_setObj_map _ hb,Result.andThen,ChangeMaps.setBlock]
theorem q2b (w:World) (b:Nat) (o:Obj):w.grownBy (ChangeMaps.setBlock w b o) (some b):=by
 refine⟨rfl,rfl,rfl,by simp[ChangeMaps.setBlock],fun i hi ak=>?_⟩;have:b≠i:=fun h=>ak (by rw[h])
 simp[ChangeMaps.setBlock,this]
theorem Mp.entry (h:Mp P k w b n g) (hk:P.underlying k=some (.int .i64)) (ht:P.underlying t=some (.map k e)) {z:Value} (hz:∀ u:World,(zeroValue e).run P u = .ok z u) (hn:n < maxLen) {x:Int} (hx:keyOf P k (.int .i64 x)=some (.int .i64 x)) :
  ∃ (v0:Value) (st:Nat) (w1:World),(Instr.mapEntry t (.map (some b)) (.int .i64 x)).run P w = .ok (.tuple #[v0,goInt st]) w1/\w.grownBy w1 (some b) ∧
   ∀ (w2:World) (v:Value),w2.heap[b]? = w1.heap[b]?->∃ w3,(Instr.entryStore t (.map (some b)) (goInt st) v).run P w2 = .ok () w3/\Mp P k w3 b (n+1) (zg g x v)/\w2.grownBy w3 (some b):=by
 have ll:=fun v=>h.set hk ht hn hx v
 have hlt:=h.lt;obtain⟨D,⟨es,clock,hh,F,r⟩,h2⟩:=h;obtain⟨v0,st,o1,hr,aS⟩:=qb6 (int_keyed hk) ht hz hh F hx;refine⟨v0,st,_,hr,q2b w b o1,fun w2 v eO=>?_⟩;have pC:(ChangeMaps.setBlock w b o1).heap[b]? = some o1:=by simp[ChangeMaps.setBlock,hlt]
 rw[pC] at eO;obtain⟨o2,cB,hu⟩:=aS w2 v eO;refine⟨_,cB,?_,q2b w2 b o2⟩;obtain⟨w7,Ol,hm,_⟩:=ll v;rw[hu] at Ol;injection Ol with _ e7
 subst e7;obtain⟨D',⟨Lx,yC,Ts,r'⟩,Tt⟩:=hm;have ag:b < w2.heap.size:=(gw.1 eO).1;have he:(ChangeMaps.setBlock w b o2).heap[b]? = some o2:=by simp[ChangeMaps.setBlock,hlt]
 have he2:(ChangeMaps.setBlock w2 b o2).heap[b]? = some o2:=by simp[ChangeMaps.setBlock,ag]
 exact⟨D',⟨Lx,yC,by rw[he2,<-he];exact Ts,r'⟩,Tt⟩
end Go.Cx
namespace Go.Proofs.YtlhicnfeajejhaaGreatDoor
open Go.Cx Go.RowKit
theorem qq4 (v u:Value) (l m:List Int) (w:World) (h:Sl w 1 v (ints l)) (k:Sl w 1 u (ints m)) :
  Calls Tryz.prog 56 #[v,u] w fun e w'=>∃ q:Bool,e = .returned (.bool q)/\(q=true↔l=m)/\Below w.heap.size w w':=by
 obtain⟨a,len,cap,rfl,h1,h2,h3,h4,h5⟩:=h;obtain⟨b,aj,bE,rfl,k1,k2,k3,k4,k5⟩:=k;unfold maxLen at h2 k2;rw[xl] at h3 k3;have hl:l.length=len:=by omega
 have kl:m.length=aj:=by omega
 clear h3 k3;have Hl:=lhd hl;clear hl;have Kl:=lhd kl;clear kl;have H4:=lhd h4;clear h4;have H5:=lhd h5;clear h5;have K4:=lhd k4;clear k4;have K5:=lhd k5;clear k5;by_cases bH:len=aj
 ·subst bH;go_enter Tryz.func56,Tryz.ntmps56;go_wp2;go_loopw [5] (fun i wr=>∃ k:Nat,i = .int .i64 k/\k<=len/\l.take k=m.take k/\Below w.heap.size w wr) (fun i _=>len - (vI i).toNat)
  case atStart=>exact⟨0,rfl,gp _,rfl,Below.refl _ _⟩
  case round =>
   obtain⟨k,rfl,hk,he,hB⟩:=hrel;have He:=lhd he;clear he;by_cases hlt:k < len
   ·obtain⟨ad,rfl⟩ : ∃ ad,a=some ad:=by
     cases a with
     | none=>have:=H4.out rfl;omega
     | some ad=>exact⟨ad,rfl⟩
    obtain⟨bd,rfl⟩ : ∃ ad,b=some ad:=by
     cases b with
     | none=>have:=K4.out rfl;omega
     | some ad=>exact⟨ad,rfl⟩
    obtain⟨t,ht⟩ : ∃ t,l[k]? = some t:=⟨_,g8 (by rw[Hl.out];exact hlt)⟩
    obtain⟨s,hs⟩ : ∃ t,m[k]? = some t:=⟨_,g8 (by rw[Kl.out];exact hlt)⟩
    have d0:wr.cell? (ad.add k)=some (.int .i64 t):=Cx.q8 hB (H5.out ad rfl k _ (by simp[ints,ht]));have d3:wr.cell? (bd.add k)=some (.int .i64 s):=Cx.q8 hB (K5.out bd rfl k _ (by simp[ints,hs]));have Ht:=lhd (aiq ht hs);have HB:=lhd hB;clear ht hs hB;by_cases hq:t=s
    ·have eR:(t != s)=false:=by simp[hq]
     have HQ:=lhd hq;clear hq;go_wp2
     go_quiet (fail)
     go_wp2;go_roundw
     case measure=>simp[vI];omega
     case rel =>
      refine⟨k+1,qh (by omega),by omega,?_,qb HB.out nq⟩;rw[gq,gq,He.out,Ht.out.1,Ht.out.2,HQ.out]
    ·have eR:(t != s)=true:=by simp[hq]
     have HQ:=lhd (aiq hq trivial);clear hq;go_wp2
     go_quiet (fail)
     go_wp2;go_ret;refine⟨false,rfl,⟨fun h=>(by cases h),fun h=>?_⟩,qb HB.out nq⟩;exfalso
     apply HQ.out.1;have:=Ht.out.1;rw[h,Ht.out.2] at this;injection this with this
     exact this.symm
   ·have HB:=lhd hB;clear hB;have dG:k=len:=by omega
    have HK:=lhd dG;clear dG;go_wp2;go_ret;refine⟨true,rfl,⟨fun _=>?_,fun _=>rfl⟩,HB.out⟩;have:=He.out
    rwa [HK.out,ge (by rw[Hl.out];exact nlr _),ge (by rw[Kl.out];exact nlr _)] at this
 ·have HN:=lhd (aiq bH trivial);have hn:((len:Int) != (aj:Int))=true:=by simp;omega
  clear bH;go_enter Tryz.func56,Tryz.ntmps56;go_wp2;go_ret;refine⟨false,rfl,⟨fun h=>(by cases h),fun h=>?_⟩,Below.refl _ _⟩;exfalso
  apply HN.out.1;rw[<-Hl.out,<-Kl.out,h]
def neP (p q:Int×Int):Bool:=!(p.1 == q.1 && p.2 == q.2)
theorem qec (p q:Int×Int):neP p q=false↔p=q:=by
 cases p;cases q
 simp[neP]
theorem qo6 (w:World) (a b c d:Int):(Op.equalIn 10000 50 (.agg #[.int .i64 a,.int .i64 b]) (.agg #[.int .i64 c,.int .i64 d])).run Tryz.prog w = .ok (a == c && b == d) w:=by
 have u3:=Tryz.underlying3;have a3:=Tryz.isAgg3;have z3:=Tryz.sizeOf3;rw[show (10000:Nat)=9999+1 from rfl,Op.equalIn];simp only [Sem.run_bind,run_underlying Tryz.underlying50,Result.andThen_ok];simp only [Std.Legacy.Range.forIn_eq_forIn_range',Std.Legacy.Range.size,Nat.sub_zero,Nat.add_sub_cancel,Nat.div_one,List.range'_succ,List.range'_zero,List.forIn_cons,List.forIn_nil]
 go_simp
 by_cases h1:a=c <;> by_cases h2:b=d <;> simp[h1,h2]
theorem qli (w:World) (a b c d:Int) :
  (Go.binOp .neq 50 (.agg #[.int .i64 a,.int .i64 b]) (.agg #[.int .i64 c,.int .i64 d])).run Tryz.prog w = .ok (.bool (neP (a,b) (c,d))) w:=by
 rw[run_neq_struct,qo6];rfl
theorem qlj:Tryz.prog.eqGuardType Tryz.prog.depth 50=false:=by kernel_rfl
theorem kv (l:List (Int×Int)) (k:Nat) (p:Int×Int) (h:l[k]? = some p):(pv l)[k*2]? = some (.int .i64 p.1)/\(pv l)[k*2+1]? = some (.int .i64 p.2):=by
 induction l generalizing k with
 | nil=>cases h
 | cons a l ih =>
  cases k with
  | zero=>cases h;exact⟨rfl,rfl⟩
  | succ k =>
   have:=ih k h;show (Value.int .i64 a.1 :: Value.int .i64 a.2 :: pv l)[(k+1)*2]? = _/\(Value.int .i64 a.1 :: Value.int .i64 a.2 :: pv l)[(k+1)*2+1]? = _;rw[show (k+1)*2=k*2+1+1 from by omega];exact this
theorem kf (l:List (Int×Int)):(pv l).length=l.length*2:=by
 induction l with
 | nil=>rfl
 | cons a l ih =>
  show (Value.int .i64 a.1 :: Value.int .i64 a.2 :: pv l).length=_;simp only [List.length_cons,ih];omega
theorem qo7 (v u:Value) (l m:List (Int×Int)) (w:World) (h:Sl w 2 v (pv l)) (k:Sl w 2 u (pv m)) :
  Calls Tryz.prog 41 #[v,u] w fun e w'=>∃ q:Bool,e = .returned (.bool q)/\(q=true↔l=m)/\Below w.heap.size w w':=by
 obtain⟨a,len,cap,rfl,h1,h2,h3,h4,h5⟩:=h;obtain⟨b,aj,bE,rfl,k1,k2,k3,k4,k5⟩:=k;unfold maxLen at h2 k2;rw[kf] at h3 k3;have hl:l.length=len:=by omega
 have kl:m.length=aj:=by omega
 clear h3 k3;have Hl:=lhd hl;clear hl;have Kl:=lhd kl;clear kl;have H4:=lhd h4;clear h4;have H5:=lhd h5;clear h5;have K4:=lhd k4;clear k4;have K5:=lhd k5;clear k5;by_cases bH:len=aj
 ·subst bH;go_enter Tryz.func41,Tryz.ntmps41;go_wp2;go_loopw [5] (fun i wr=>∃ k:Nat,i = .int .i64 k/\k<=len/\l.take k=m.take k/\Below w.heap.size w wr) (fun i _=>len - (vI i).toNat)
  case atStart=>exact⟨0,rfl,gp _,rfl,Below.refl _ _⟩
  case round =>
   obtain⟨k,rfl,hk,he,hB⟩:=hrel;have He:=lhd he;clear he;by_cases hlt:k < len
   ·obtain⟨ad,rfl⟩ : ∃ ad,a=some ad:=by
     cases a with
     | none=>have:=H4.out rfl;omega
     | some ad=>exact⟨ad,rfl⟩
    obtain⟨bd,rfl⟩ : ∃ ad,b=some ad:=by
     cases b with
     | none=>have:=K4.out rfl;omega
     | some ad=>exact⟨ad,rfl⟩
    obtain⟨t,ht⟩ : ∃ t,l[k]? = some t:=⟨_,g8 (by rw[Hl.out];exact hlt)⟩
    obtain⟨s,hs⟩ : ∃ t,m[k]? = some t:=⟨_,g8 (by rw[Kl.out];exact hlt)⟩
    obtain⟨t1,t2⟩:=t;obtain⟨s1,s2⟩:=s;obtain⟨e0,e1⟩:=kv l k _ ht;obtain⟨e2,e3⟩:=kv m k _ hs;have d0:wr.cell? (ad.add (k*2))=some (.int .i64 t1):=Cx.q8 hB (H5.out ad rfl _ _ e0);have d1:wr.cell? ⟨(ad.add (k*2)).block,(ad.add (k*2)).off+1,none⟩=some (.int .i64 t2):=by rw[qi _ _ _ (by omega)];exact Cx.q8 hB (H5.out ad rfl _ _ e1)
    have d2:wr.cell? (bd.add (k*2))=some (.int .i64 s1):=Cx.q8 hB (K5.out bd rfl _ _ e2);have d3:wr.cell? ⟨(bd.add (k*2)).block,(bd.add (k*2)).off+1,none⟩=some (.int .i64 s2):=by rw[qi _ _ _ (by omega)];exact Cx.q8 hB (K5.out bd rfl _ _ e3)
    clear e0 e1 e2 e3;obtain⟨q,nz⟩ : ∃ q,neP (t1,t2) (s1,s2)=q:=⟨_,rfl⟩
    have ak:∀ W:World,(Go.binOp .neq 50 (.agg #[.int .i64 t1,.int .i64 t2]) (.agg #[.int .i64 s1,.int .i64 s2])).run Tryz.prog W = .ok (.bool q) W:=fun W=>by rw[<-nz];exact qli W t1 t2 s1 s2
    have ot:=qlj;have Hq:=lhd nz;clear nz;have Ht:=lhd (aiq ht hs);have HB:=lhd hB;clear ht hs hB;go_wp2
    go_quiet (fail)
    by_cases mZ:q=false
    ·subst mZ;go_wp2;go_roundw
     case measure=>simp[vI];omega
     case rel =>
      refine⟨k+1,qh (by omega),by omega,?_,qb HB.out nq⟩;rw[gq,gq,He.out,Ht.out.1,Ht.out.2,(qec _ _).1 Hq.out]
    ·have vV:q=true:=by simpa using mZ
     subst vV;go_wp2;go_ret;refine⟨false,rfl,⟨fun h=>(by cases h),fun h=>?_⟩,qb HB.out nq⟩;exfalso
     have:=Ht.out.1;rw[h,Ht.out.2] at this;injection this with this
     have e:=(qec _ _).2 this.symm;rw[Hq.out] at e;cases e
   ·have HB:=lhd hB;clear hB;have dG:k=len:=by omega
    have HK:=lhd dG;clear dG;go_wp2;go_ret;refine⟨true,rfl,⟨fun _=>?_,fun _=>rfl⟩,HB.out⟩;have:=He.out
    rwa [HK.out,ge (by rw[Hl.out];exact nlr _),ge (by rw[Kl.out];exact nlr _)] at this
 ·have HN:=lhd (aiq bH trivial);have hn:((len:Int) != (aj:Int))=true:=by simp;omega
  clear bH;go_enter Tryz.func41,Tryz.ntmps41;go_wp2;go_ret;refine⟨false,rfl,⟨fun h=>(by cases h),fun h=>?_⟩,Below.refl _ _⟩;exfalso
  apply HN.out.1;rw[<-Hl.out,<-Kl.out,h]
theorem q13 (w:World) (t:TypeId) (st:Nat) (xs:List Value) (n:Nat) (h:xs.length=n*st) (hn:n<=maxLen):Sl (w.alloc (.cells xs.toArray t)) st (.slice (some ⟨w.heap.size,0,none⟩) n n) xs :=
 ⟨_,n,n,rfl,nlr _,hn,h,(fun e=>by cases e),fun ad ha j u hj=>by cases ha;exact q7l w t xs j u hj⟩
theorem qpa (x:Int) (w:World) :
  Calls Tryz.prog 52 #[.int .i64 x] w fun e w'=>∃ r,e = .returned r/\Sl w' 3 r (tv [⟨x,decide ((1:Int) < 0),mg 1⟩])/\Below w.heap.size w w':=by
 go_enter Tryz.func52,Tryz.ntmps52;go_wp2_with fail;refine(q58 1 _ (by decide) (by decide)).mono ?_;rintro e w1 ⟨rfl,ai⟩;have hs:=q13 w1 71 3 [.int .i64 x,.bool (decide ((1:Int) < 0)),.string (mg 1)] 1 rfl (by unfold maxLen;omega);have HS:=lhd hs;have HB:=lhd ai;clear hs ai;unfold wv;go_wp2_with fail;go_ret;exact⟨_,rfl,HS.out,HB.out.alloc HB.out.size _⟩
def neW (x y:Int):Bool:=!(decide (x < 0) == decide (y < 0) && (mg x).toList == (mg y).toList)
theorem qlk (x y:Int):neW x y=false↔x=y:=by
 unfold neW;simp only [Bool.not_eq_false',Bool.and_eq_true,beq_iff_eq,Lib.toList_data];constructor
 ·rintro ⟨h1,h2⟩;exact qgf h1 (q5t h2)
 ·rintro rfl;exact⟨rfl,rfl⟩
theorem qq5 (w:World) (x y:Int):(Go.binOp .neq 38 (.agg #[.bool (decide (x < 0)),.string (mg x)]) (.agg #[.bool (decide (y < 0)),.string (mg y)])).run Tryz.prog w = .ok (.bool (neW x y)) w:=by
 have ic:Tryz.prog.stoodInHeld 38=false:=by kernel_rfl
 unfold neW;obtain⟨bx,iX⟩ : ∃ b,b=decide (x < 0):=⟨_,rfl⟩
 obtain⟨yb,oL⟩ : ∃ b,b=decide (y < 0):=⟨_,rfl⟩
 rw[<-iX,<-oL];by_cases h2:(bx == yb)=true <;> by_cases h3:((mg x).toList == (mg y).toList)=true <;> (try simp only [Bool.not_eq_true] at h2) <;> (try simp only [Bool.not_eq_true] at h3) <;>
  simp[go_sem,h2,h3,ic]
theorem qql (r c:Nat) (v u:Value) (l m:List Int) (w:World) (h:Sl w 2 v (wvs l)) (k:Sl w 2 u (wvs m)) (hr:r<=200) (hc:c<=200) (hl:l.length=r*c) (hm:m.length=r*c) :
  Calls Tryz.prog 53 #[.agg #[.int .i64 r,.int .i64 c,v],.agg #[.int .i64 r,.int .i64 c,u]] w fun e w'=>∃ q:Bool,e = .returned (.bool q)/\(q=true↔l=m)/\Below w.heap.size w w':=by
 have HH:=lhd (aiq h k);have Om:=lhd (aiq hl hm);have nG:r*c<=40000:=gn (Nat.mul_le_mul hr hc) (by decide);obtain⟨a,len,cap,rfl⟩:=qg h;obtain⟨b,aj,bE,rfl⟩:=qg k;obtain⟨_,_,h3,h4,h5⟩:=h.open;obtain⟨_,_,k3,k4,k5⟩:=k.open;rw[q2j] at h3 k3;obtain⟨N,hN⟩ : ∃ N,N=r*c:=⟨_,rfl⟩
 have e1:len=N:=by omega
 have e2:aj=N:=by omega
 subst e1;subst e2;have H4:=lhd h4;have H5:=lhd h5;have K4:=lhd k4;have K5:=lhd k5
 have Wv:aj<=40000:=by omega
 have HN:=lhd (aiq (show l.length=aj by omega) (aiq (show m.length=aj by omega) (aiq hr hc)));clear h k h3 k3 h4 h5 k4 k5 hl hm hN nG;go_enter Tryz.func53,Tryz.ntmps53;go_wp2_with fail;obtain⟨W,hW⟩ : ∃ W:World,W=(w.alloc (.cells #[.int .i64 r,.int .i64 c,.slice a aj cap] 44)).alloc (.cells #[.int .i64 r,.int .i64 c,.slice b aj bE] 44):=⟨_,rfl⟩
 rw[<-hW];have aK:Below w.heap.size w W:=by rw[hW];exact((Below.refl _ w).alloc (nlr _) _).alloc (by simp) _
 have x0:W.cell? ⟨w.heap.size,0,none⟩=some (.int .i64 r):=by rw[hW];exact qk (qd w #[.int .i64 r,.int .i64 c,.slice a aj cap] 44 (0,0) 0) _
 have x1:W.cell? ⟨w.heap.size,1,none⟩=some (.int .i64 c):=by rw[hW];exact qk (qd w #[.int .i64 r,.int .i64 c,.slice a aj cap] 44 (0,0) 1) _
 have x2:W.cell? ⟨w.heap.size,2,none⟩=some (.slice a aj cap):=by rw[hW];exact qk (qd w #[.int .i64 r,.int .i64 c,.slice a aj cap] 44 (0,0) 2) _
 have hy:=fun j=>qd (w.alloc (.cells #[.int .i64 r,.int .i64 c,.slice a aj cap] 44)) #[.int .i64 r,.int .i64 c,.slice b aj bE] 44 (0,0) j
 simp only [World.size_alloc] at hy;rw[<-hW] at hy;have y0:W.cell? ⟨w.heap.size+1,0,none⟩=some (.int .i64 r):=hy 0;have y1:W.cell? ⟨w.heap.size+1,1,none⟩=some (.int .i64 c):=hy 1;have y2:W.cell? ⟨w.heap.size+1,2,none⟩=some (.slice b aj bE):=hy 2;clear hW hy;refine(qhl r c _ l W (HH.out.1.q8 aK) HN.out.2.2.1 HN.out.2.2.2 Om.out.1).mono ?_;rintro e w1 ⟨rfl,ai⟩;have z0:=Cx.q8 ai y0;have z1:=Cx.q8 ai y1;have z2:=Cx.q8 ai y2
 have s0:=Cx.q8 ai x0;have s1:=Cx.q8 ai x1;have s2:=Cx.q8 ai x2
 have al:Below w.heap.size w w1:=aK.trans (ai.mono aK.size);have aN:=lhd al;clear ai y0 y1 y2 x0 x1 x2 aK al;go_wp2_with fail;refine(qhl r c _ m w1 (HH.out.2.q8 aN.out) HN.out.2.2.1 HN.out.2.2.2 Om.out.2).mono ?_;rintro e w2 ⟨rfl,ag⟩;have x0:=Cx.q8 ag s0;have x1:=Cx.q8 ag s1;have x2:=Cx.q8 ag s2
 have y0:=Cx.q8 ag z0;have y1:=Cx.q8 ag z1;have y2:=Cx.q8 ag z2
 have aw:Below w.heap.size w w2:=aN.out.trans (ag.mono aN.out.size);have ux:w.heap.size+1 < w2.heap.size:=World.block_lt_of_cell? w2 _ y0;have aF:=lhd aw;clear ag z0 z1 z2 s0 s1 s2 aw;have Ah:((r:Int) != (r:Int))=false:=by simp
 have Df:((c:Int) != (c:Int))=false:=by simp
 go_wp2_with fail
 try go_quiet (fail)
 try go_wp2_with fail
 go_loopw [7] (fun i wr=>∃ k:Nat,i = .int .i64 k/\k<=aj/\l.take k=m.take k/\Below w2.heap.size w2 wr) (fun i _=>aj - (vI i).toNat)
 case atStart=>exact⟨0,rfl,gp _,rfl,qb (Below.refl _ _) 0⟩
 case round =>
  obtain⟨k,rfl,hk,he,hB⟩:=hrel;have He:=lhd he;clear he;have p2:=Cx.q8 hB x2;have q2:=Cx.q8 hB y2;have HB:=lhd (aF.out.trans (hB.mono aF.out.size));have Tu:=lhd hB;by_cases hlt:k < aj
  ·obtain⟨ad,rfl⟩ : ∃ ad,a=some ad:=by
    cases a with
    | none=>have:=H4.out rfl;omega
    | some ad=>exact⟨ad,rfl⟩
   obtain⟨bd,rfl⟩ : ∃ ad,b=some ad:=by
    cases b with
    | none=>have:=K4.out rfl;omega
    | some ad=>exact⟨ad,rfl⟩
   obtain⟨t,ht⟩ : ∃ t,l[k]? = some t:=⟨_,g8 (by rw[HN.out.1];exact hlt)⟩
   obtain⟨s,hs⟩ : ∃ t,m[k]? = some t:=⟨_,g8 (by rw[HN.out.2.1];exact hlt)⟩
   obtain⟨e0,e1⟩:=q7p l k _ ht;obtain⟨e2,e3⟩:=q7p m k _ hs;have d0:wr.cell? (ad.add (k*2))=some (.bool (decide (t < 0))):=Cx.q8 HB.out (H5.out ad rfl _ _ e0);have d1:wr.cell? ⟨(ad.add (k*2)).block,(ad.add (k*2)).off+1,none⟩=some (.string (mg t)):=by rw[qi _ _ _ (by omega)];exact Cx.q8 HB.out (H5.out ad rfl _ _ e1)
   have d2:wr.cell? (bd.add (k*2))=some (.bool (decide (s < 0))):=Cx.q8 HB.out (K5.out bd rfl _ _ e2);have d3:wr.cell? ⟨(bd.add (k*2)).block,(bd.add (k*2)).off+1,none⟩=some (.string (mg s)):=by rw[qi _ _ _ (by omega)];exact Cx.q8 HB.out (K5.out bd rfl _ _ e3)
   obtain⟨q,nz⟩ : ∃ q,neW t s=q:=⟨_,rfl⟩
   have ak:∀ W:World,(Go.binOp .neq 38 (.agg #[.bool (decide (t < 0)),.string (mg t)]) (.agg #[.bool (decide (s < 0)),.string (mg s)])).run Tryz.prog W = .ok (.bool q) W:=fun W=>by rw[<-nz];exact qq5 W t s
   have ot:=qqv;have Hq:=lhd nz;have Ht:=lhd (aiq ht hs);clear e0 e1 e2 e3 nz ht hs hB;go_wp2
   go_quiet (fail)
   by_cases mZ:q=false
   ·subst mZ;go_wp2;go_roundw
    case measure=>simp[vI];omega
    case rel =>
     refine⟨k+1,qh (by omega),by omega,?_,qb Tu.out _⟩;rw[gq,gq,He.out,Ht.out.1,Ht.out.2,(qlk _ _).1 Hq.out]
   ·have vV:q=true:=by simpa using mZ
    subst vV;go_wp2;go_ret;refine⟨false,rfl,⟨fun h=>(by cases h),fun h=>?_⟩,qb HB.out _⟩;exfalso
    have:=Ht.out.1;rw[h,Ht.out.2] at this;injection this with this
    have e:=(qlk _ _).2 this.symm;rw[Hq.out] at e;cases e
  ·have dG:k=aj:=by omega
   have HK:=lhd dG;clear dG hB;go_wp2;go_ret;refine⟨true,rfl,⟨fun _=>?_,fun _=>rfl⟩,HB.out⟩;have:=He.out
   rwa [HK.out,ge (by rw[HN.out.1];exact nlr _),ge (by rw[HN.out.2.1];exact nlr _)] at this
attribute [local go_sem ↓] Go.wp_at_zero Go.wp_at_succ
theorem qqm (a b:Nat) (w:World) (ha:a<=200) (hb:b<=200):Calls Tryz.prog 166 #[.int .i64 a,.int .i64 b] w fun e w'=>e = .returned (.bool true)/\Below w.heap.size w w':=by
 have h1:(0:Int)<=a:=by omega
 have h2:(0:Int)<=b:=by omega
 have h3:(a:Int)<=200:=by omega
 have h4:(b:Int)<=200:=by omega
 go_enter Tryz.func166,Tryz.ntmps166;go_wp2;go_ret;refine⟨?_,Below.refl _ _⟩;show Ending.returned (.bool (decide (max (a:Int) (b:Int)<=200)))=_;rw[decide_eq_true (by omega)]
theorem qqn (r c:Nat) (w:World) (hr:r<=200) (hc:c<=200):Calls Tryz.prog 117 #[.int .i64 r,.int .i64 c] w fun e w'=>∃ E:Nat,e = .returned (.agg #[.int .i64 r,.int .i64 c,.slice (some ⟨E,0,none⟩) (r*c) (r*c)])/\w.heap.size<=E/\E < w'.heap.size/\EW w' E (r*c) (fun _=>0)/\Below w.heap.size w w':=by
 have nG:r*c<=40000:=gn (Nat.mul_le_mul hr hc) (by decide);have iy:=qqr (r*c) (by omega);have pC:IntKind.i64.wrap ((r:Int)*(c:Int))=((r*c:Nat):Int):=by
  rw[Int.natCast_mul];exact IntWalk.i64_in _ (by rw[<-Int.natCast_mul];omega)
 obtain⟨N,hN⟩ : ∃ N,N=r*c:=⟨_,rfl⟩
 rw[<-hN] at iy pC nG ⊢;clear hN;go_enter Tryz.func117,Tryz.ntmps117;go_wp2_with fail;refine(qqm r c _ hr hc).mono ?_;rintro e w1 ⟨rfl,ai⟩;obtain⟨W,hW⟩ : ∃ W,W=w.alloc (.cells #[.int .i64 0,.int .i64 0,.slice none 0 0] 44):=⟨_,rfl⟩
 rw[<-hW] at ai;have c0:W.cell? ⟨w.heap.size,0,none⟩=some (.int .i64 0):=by rw[hW];exact qd w _ _ (0,0) 0
 have c1:W.cell? ⟨w.heap.size,1,none⟩=some (.int .i64 0):=by rw[hW];exact qd w _ _ (0,0) 1
 have c2:W.cell? ⟨w.heap.size,2,none⟩=some (.slice none 0 0):=by rw[hW];exact qd w _ _ (0,0) 2
 have z0:W.frozen? ⟨w.heap.size,0,none⟩=false:=by rw[hW];exact jz (heap_alloc_new w _) 0
 have z1:W.frozen? ⟨w.heap.size,1,none⟩=false:=by rw[hW];exact jz (heap_alloc_new w _) 1
 have z2:W.frozen? ⟨w.heap.size,2,none⟩=false:=by rw[hW];exact jz (heap_alloc_new w _) 2
 have hw:Below w.heap.size w W:=by rw[hW];exact(Below.refl _ _).alloc (nlr _) _
 have hlt:w.heap.size < W.heap.size:=by rw[hW];simp
 clear hW
 replace z0:=qv ai hlt z0
 replace z1:=qv ai hlt z1
 replace z2:=qv ai hlt z2
 replace c0:=Cx.q8 ai c0
 replace c1:=Cx.q8 ai c1
 replace c2:=Cx.q8 ai c2
 have al:Below w.heap.size w w1:=hw.trans (ai.mono hw.size);have Tv:w.heap.size < w1.heap.size:=gZ hlt ai.size;have HB:=lhd al;clear ai hw hlt al;go_wp2_with fail;have e0:∀ (x y z:Value) (o:Obj),((((w1.setCell ⟨w.heap.size,0,none⟩ x).setCell ⟨w.heap.size,1,none⟩ y).setCell ⟨w.heap.size,2,none⟩ z).alloc o).cell? ⟨w.heap.size,0,none⟩=some x:=fun x y z o =>
  qk (js (js (World.cell?_setCell_same' _ _ _ (by rw[c0];rfl)) (by simp)) (by simp)) o
 have e1:∀ (x y z:Value) (o:Obj),((((w1.setCell ⟨w.heap.size,0,none⟩ x).setCell ⟨w.heap.size,1,none⟩ y).setCell ⟨w.heap.size,2,none⟩ z).alloc o).cell? ⟨w.heap.size,1,none⟩=some y:=fun x y z o =>
  qk (js (World.cell?_setCell_same' _ _ _ (by rw[js c1 (by simp)];rfl)) (by simp)) o
 have e2:∀ (x y z:Value) (o:Obj),((((w1.setCell ⟨w.heap.size,0,none⟩ x).setCell ⟨w.heap.size,1,none⟩ y).setCell ⟨w.heap.size,2,none⟩ z).alloc o).cell? ⟨w.heap.size,2,none⟩=some z:=fun x y z o =>
  qk (World.cell?_setCell_same' _ _ _ (by rw[js (js c2 (by simp)) (by simp)];rfl)) o
 refine bodyPost_ret (v:=.agg #[.int .i64 r,.int .i64 c,.slice (some ⟨w1.heap.size,0,none⟩) N N]) (by simp[results,Tryz.results117,go_sem,e0,e1,e2]) rfl ⟨w1.heap.size,rfl,HB.out.size,by simp,?_,?_⟩
 ·have h:=EW.new (((w1.setCell ⟨w.heap.size,0,none⟩ (.int .i64 r)).setCell ⟨w.heap.size,1,none⟩ (.int .i64 c)).setCell ⟨w.heap.size,2,none⟩ (.slice (some ⟨w1.heap.size,0,none⟩) N N)) N 38;simpa using h
 ·exact(((HB.out.setCell (nlr _) _).setCell (nlr _) _).setCell (nlr _) _).alloc (by simpa using HB.out.size) _
end Go.Proofs.YtlhicnfeajejhaaGreatDoor
