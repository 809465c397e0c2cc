/- Steps towards MorseChecks. Conditions: none. -/
import Derived.Laws.AppendOwnNone
import Derived.Lib.SlKeysI
import Derived.Maps.OwnIn
import Derived.Test.YtlhicnfeajejhaaGreatDoorFMd
set_option maxRecDepth 1000000
set_option maxHeartbeats 16000000
namespace Go.Cx
open Go.RowKit
def vI:Value->Int | .int _ q=>q | _=>0
theorem qi (a:Addr) (n k:Nat) (hk:0 < k):(⟨(a.add n).block,(a.add n).off+k,none⟩ : Addr)=a.add (n+k):=by
 unfold Addr.add;by_cases h:n=0
 ·subst h;simp[show k≠0 by omega]
 ·simp[h,Nat.add_assoc]
structure Tm where
 c:Int
 n:Bool
 m:ByteArray
def Tm.x (t:Tm):Int:=iv t.n t.m
def tv (l:List Tm):List Value:=l.flatMap fun t=>[.int .i64 t.c,.bool t.n,.string t.m]
theorem ko (t:Tm) (l:List Tm):tv (t :: l) = .int .i64 t.c :: .bool t.n :: .string t.m :: tv l:=rfl
theorem xp (l m:List Tm):tv (l++m)=tv l++tv m:=by simp[tv]
theorem z6 (l:List Tm):(tv l).length=l.length*3:=by
 induction l with
 | nil=>rfl
 | cons t l ih=>rw[ko];simp only [List.length_cons,ih];omega
theorem jd (l:List Tm) (i:Nat) (t:Tm) (h:l[i]? = some t):(tv l)[i*3]? = some (.int .i64 t.c)/\(tv l)[i*3+1]? = some (.bool t.n)/\(tv l)[i*3+2]? = some (.string t.m):=by
 induction l generalizing i with
 | nil=>simp at h
 | cons u l ih =>
  cases i with
  | zero=>simp at h;subst h;simp[ko]
  | succ i =>
   have:=ih i (by simpa using h);rw[ko];rw[show (i+1)*3=i*3+1+1+1 by omega,show i*3+1+1+1+1=(i*3+1)+1+1+1 by omega,show i*3+1+1+1+2=(i*3+2)+1+1+1 by omega];simpa using this
def TOk (S:Nat) (l:List Tm):Prop:=∀ t∈l,-9223372036854775808<=t.c/\t.c<=9223372036854775807/\t.m.size<=S
theorem TOk.mono {S S':Nat} {l:List Tm} (h:TOk S l) (hS:S<=S'):TOk S' l:=fun t ht=>⟨(h t ht).1,(h t ht).2.1,gn (h t ht).2.2 hS⟩
theorem TOk.app {S:Nat} {l m:List Tm} (h:TOk S l) (k:TOk S m):TOk S (l++m):=fun t ht=>by
 rcases gF.1 ht with ht | ht
 ·exact h t ht
 ·exact k t ht
def prs (l:List Tm):List (Int×Int):=l.map fun t=>(t.c,t.x)
theorem q5u (l m:List Tm):prs (l++m)=prs l++prs m:=by simp[prs]
theorem kq (l:List Tm):(prs l).length=l.length:=by simp[prs]
def co:List (Int×Int)->Int->Int
 | [],_=>0
 | p :: l,c=>(if p.1=c then p.2 else 0)+co l c
theorem q8h (c:Int):co [] c=0:=rfl
theorem jh (p:Int×Int) (l:List (Int×Int)) (c:Int):co (p :: l) c=(if p.1=c then p.2 else 0)+co l c:=rfl
theorem ji (l m:List (Int×Int)) (c:Int):co (l++m) c=co l c+co m c:=by
 induction l with
 | nil=>simp[co]
 | cons p l ih=>rw[gV,jh,jh,ih,Int.add_assoc]
theorem q5a (l:List (Int×Int)) (p:Int×Int) (c:Int):co (l++[p]) c=co l c+(if p.1=c then p.2 else 0):=by
 rw[ji,jh,q8h,bD]
theorem q0j (l:List (Int×Int)) (c:Int) (h:∀ p∈l,p.1≠c):co l c=0:=by
 induction l with
 | nil=>rfl
 | cons p l ih =>
  rw[jh,if_neg (h p (by simp)),ih (fun q hq=>h q (by simp[hq]))];rfl
theorem q1x (l:List Tm) (t:Tm) (c:Int):co (prs (l++[t])) c=co (prs l) c+if t.c=c then t.x else 0:=by
 rw[q5u];exact q5a _ _ _
theorem q0y (S:Nat) (l:List (Int×Int)) (h:∀ p∈l,nb p.2<=S) (c:Int):nb (co l c)<=S+l.length:=by
 induction l with
 | nil=>simp[co,q0g]
 | cons p l ih =>
  have i:=ih (fun q hq=>h q (by simp[hq]));have h1:=h p (by simp);rw[jh];have h2:=qbn (if p.1=c then p.2 else 0) (co l c);have h3:nb (if p.1=c then p.2 else 0)<=S:=by split <;> simp[q0g,h1]
  simp only [List.length_cons];omega
theorem q19 {S:Nat} {l:List Tm} (h:TOk S l):∀ p∈prs l,nb p.2<=S:=by
 intro p hp;obtain⟨t,ht,rfl⟩:=go.1 hp;exact gn (qmd t.n t.m) (h t ht).2.2
def Cn (L:List (Int×Int)):Prop:=L.Pairwise (fun p q=>p.1 < q.1)/\∀ p∈L,p.2≠0
theorem Cn.nil:Cn []:=⟨List.Pairwise.nil,fun p hp=>by simp at hp⟩
theorem zl {L:List (Int×Int)} (h:L.Pairwise (fun p q=>p.1 < q.1)) {p:Int×Int} (hp:p∈L):co L p.1=p.2:=by
 induction L with
 | nil=>simp at hp
 | cons q L ih =>
  rw[gx] at h;rw[jh];rcases gt.1 hp with rfl | hp
  ·rw[if_pos rfl,q0j L p.1 (fun r hr e=>by have:=h.1 r hr;omega),bD]
  ·have h1:=h.1 p hp;rw[if_neg (by omega),ih h.2 hp,Int.zero_add]
theorem Cn.uniq:∀ {L M:List (Int×Int)},Cn L->Cn M->(∀ c,co L c=co M c)->L=M
 | [],[],_,_,_=>rfl
 | [],q :: M,_,hM,he=>by
  exfalso
  have h1:=he q.1;rw[q8h,zl hM.1 (gP ..)] at h1;exact hM.2 q (by simp) h1.symm
 | p :: L,[],hL,_,he=>by
  exfalso
  have h1:=he p.1;rw[q8h,zl hL.1 (gP ..)] at h1;exact hL.2 p (by simp) h1
 | p :: L,q :: M,hL,hM,he=>by
  have Lv:=gx.1 hL.1;have Lw:=gx.1 hM.1;have zP:p.1=q.1:=by
   rcases Int.lt_trichotomy p.1 q.1 with h | h | h
   ·exfalso
    have h1:=he p.1;rw[zl hL.1 (gP ..),q0j (q :: M) p.1 (fun r hr e=>by
     rcases gt.1 hr with rfl | hr
     ·omega
     ·have:=Lw.1 r hr;omega)] at h1
    exact hL.2 p (by simp) h1
   ·exact h
   ·exfalso
    have h1:=he q.1;rw[zl hM.1 (gP ..),q0j (p :: L) q.1 (fun r hr e=>by
     rcases gt.1 hr with rfl | hr
     ·omega
     ·have:=Lv.1 r hr;omega)] at h1
    exact hM.2 q (by simp) h1.symm
  have Gq:p=q:=by
   have h1:=he p.1;rw[zl hL.1 (gP ..),zP,zl hM.1 (gP ..)] at h1;exact Prod.ext zP h1
  subst Gq;rw[Cn.uniq (L:=L) (M:=M) ⟨Lv.2,fun r hr=>hL.2 r (by simp[hr])⟩ ⟨Lw.2,fun r hr=>hM.2 r (by simp[hr])⟩ (fun c=>by
   have:=he c;rw[jh,jh] at this;omega)]
def ctm (L:List (Int×Int)):List Tm:=L.map fun p=>⟨p.1,decide (p.2 < 0),mg p.2⟩
theorem zv (L:List (Int×Int)):prs (ctm L)=L:=by
 simp only [prs,ctm,List.map_map]
 conv=>rhs;rw[<-List.map_id L]
 refine List.map_congr_left fun p _=>?_
 simp[Tm.x,q0i]
theorem qz (L:List (Int×Int)):(ctm L).length=L.length:=by simp[ctm]
theorem xj (L M:List (Int×Int)):ctm (L++M)=ctm L++ctm M:=by simp[ctm]
end Go.Cx
namespace Go.Cx
def nzp (f:Int->Int) (ks:List Int):List (Int×Int):=ks.filterMap fun c=>if f c=0 then none else some (c,f c)
theorem qgw (f:Int->Int) (ks:List Int) (c:Int):nzp f (ks++[c])=nzp f ks++(if f c=0 then [] else [(c,f c)]):=by
 unfold nzp;rw[List.filterMap_append]
 congr 1
 by_cases h:f c=0 <;> simp[h]
theorem q8i {f:Int->Int} {ks:List Int} {p:Int×Int} (h:p∈nzp f ks):p.1∈ks/\p.2=f p.1/\f p.1≠0:=by
 unfold nzp at h;obtain⟨c,hc,he⟩:=List.mem_filterMap.1 h;by_cases h0:f c=0
 ·simp[h0] at he
 ·simp[h0] at he;subst he;exact⟨hc,rfl,h0⟩
theorem qda (f:Int->Int) (ks:List Int):(nzp f ks).length<=ks.length:=List.length_filterMap_le _ _
theorem qgx (f:Int->Int) {ks:List Int} (h:ks.Pairwise (· < ·)):Cn (nzp f ks):=by
 refine⟨?_,fun p hp=>by have:=q8i hp;rw[this.2.1];exact this.2.2⟩;induction ks with
 | nil=>exact List.Pairwise.nil
 | cons c ks ih =>
  rw[gx] at h;have i:=ih h.2;unfold nzp at i ⊢;rw[List.filterMap_cons];by_cases h0:f c=0
  ·simp only [h0,if_true];exact i
  ·simp only [h0,if_false];rw[gx];exact⟨fun p hp=>h.1 _ (q8i hp).1,i⟩
theorem qn6 (f:Int->Int) {ks:List Int} (h:ks.Pairwise (· < ·)) (hk:∀ c,f c≠0->c∈ks) (c:Int):co (nzp f ks) c=f c:=by
 by_cases h0:f c=0
 ·rw[h0];refine q0j _ _ fun p hp e=>?_
  have:=q8i hp;rw[e] at this;exact this.2.2 h0
 ·have hm:(c,f c)∈nzp f ks:=by
   unfold nzp;exact List.mem_filterMap.2 ⟨c,hk c h0,by simp[h0]⟩
  exact zl (qgx f h).1 hm
theorem qf1 (ss:List Int) (h:ss.Nodup):(ss.mergeSort (fun x y=>decide (x<=y))).Pairwise (· < ·):=by
 have h1:=List.pairwise_mergeSort (le:=fun x y:Int=>decide (x<=y)) (fun a b c h1 h2=>by simp at *;omega) (fun a b=>by simp;omega) ss;have h2:(ss.mergeSort (fun x y=>decide (x<=y))).Nodup:=((List.mergeSort_perm ss _).nodup_iff).2 h;refine(h1.and h2).imp fun {a b} cy=>?_
 have h3:a<=b:=by simpa using cy.1
 have h4:a≠b:=cy.2;omega
end Go.Cx
namespace Go.Cx
open Go.RowKit Go.Maps
def hld (v:Value):Option (DataW Value×List MemPlace):=some (.held v,[])
def Mp (P:Program) (k:TypeId) (w:World) (b n:Nat) (g:Int->Option Value):Prop :=
 ∃ D,w.ownsMap P k hld b n D/\∀ x,has D (.int .i64 x)=(g x).isSome/\∀ v,g x=some v->∀ z,D.atKey (.int .i64 x) z = .held v
variable {P:Program} {k t e:TypeId} {w:World} {b n:Nat} {g:Int->Option Value}
theorem Mp.made (w:World) (P:Program) (k:TypeId):Mp P k (w.alloc (.map #[] 0)) w.heap.size 0 (fun _=>none) :=
 ⟨_,World.ownsMap_made w P k hld,fun x=>⟨rfl,fun v h=>by cases h⟩⟩
theorem Mp.kept (h:Mp P k w b n g) {w':World} {row:Option Nat} (hg:w.grownBy w' row) (ak:some b≠row):Mp P k w' b n g:=by
 obtain⟨D,h1,h2⟩:=h;exact⟨D,h1.kept hg ak,h2⟩
theorem Mp.lt (h:Mp P k w b n g):b < w.heap.size:=by obtain⟨D,h1,_⟩:=h;exact h1.lt
theorem Mp.alloc (h:Mp P k w b n g) (o:Obj):Mp P k (w.alloc o) b n g:=h.kept (World.grownBy_alloc w o none) (by simp)
theorem Mp.below (h:Mp P k w b n g) {w':World} {B:Nat} (hb:Below B w w') (hB:b < B):Mp P k w' b n g:=by
 obtain⟨D,⟨es,clock,hh,r⟩,h2⟩:=h;exact⟨D,⟨es,clock,by rw[hb.block b hB];exact hh,r⟩,h2⟩
theorem Mp.q8 (h:Mp P k w b n g) {w':World} (hb:Below w.heap.size w w'):Mp P k w' b n g:=h.below hb h.lt
theorem Mp.setCell (h:Mp P k w b n g) {a:Addr} (ha:b≠a.block) (u:Value):Mp P k (w.setCell a u) b n g:=by
 obtain⟨D,h1,h2⟩:=h;exact⟨D,h1.setCell ha u,h2⟩
theorem Mp.mono (h:Mp P k w b n g) {n':Nat} (hn:n<=n'):Mp P k w b n' g:=by obtain⟨D,h1,h2⟩:=h;exact⟨D,h1.mono hn,h2⟩
theorem q1y {w w':World} (h:Below w.heap.size w w') (row:Option Nat):w.grownBy w' row:=⟨h.os,h.tape,h.output,h.size,fun k hk _=>h.block k hk⟩
theorem q0k {x:Int} (hk:P.underlying k=some (.int .i64)) (h1 : -9223372036854775808<=x) (h2:x<=9223372036854775807):keyOf P k (.int .i64 x)=some (.int .i64 x) :=
 keyOf_int_mk hk (by simp[Lit.wf,IntKind.min,IntKind.max,IntKind.bits,IntKind.signed];omega)
theorem Mp.look (h:Mp P k w b n g) (hk:P.underlying k=some (.int .i64)) (ht:P.underlying t=some (.map k e)) {z:Value} (hz:(zeroValue e).run P w = .ok z w) {x:Int} (hx:keyOf P k (.int .i64 x)=some (.int .i64 x)) :
  (Instr.lookup t (.map (some b)) (.int .i64 x) false).run P w = .ok ((g x).getD z) w:=by
 obtain⟨D,h1,h2⟩:=h;obtain⟨v,ps,hr,hv⟩:=h1.lookup (int_keyed hk) ht hz (zd:=.held z) (zp:=[]) rfl hx;rw[hr];have e1:DataW.held v=D.atKey (.int .i64 x) (.held z):=by simpa [hld] using (congrArg Prod.fst (osi hv))
 cases hg:g x with
 | none =>
  have:=(h2 x).1;rw[hg] at this;rw[atKey_of_not_has (by simpa using this)] at e1;injection e1 with e1;rw[e1];rfl
 | some u =>
  rw[(h2 x).2 u hg] at e1;injection e1 with e1;rw[e1];rfl
theorem Mp.qgy (h:Mp P k w b n g) (hk:P.underlying k=some (.int .i64)) (ht:P.underlying t=some (.map k e)) {z:Value} (hz:(zeroValue e).run P w = .ok z w) {x:Int} (hx:keyOf P k (.int .i64 x)=some (.int .i64 x)) :
  (Instr.lookup t (.map (some b)) (.int .i64 x) true).run P w = .ok (.tuple #[(g x).getD z,.bool (g x).isSome]) w:=by
 obtain⟨D,h1,h2⟩:=h;obtain⟨v,ps,hr,hv⟩:=h1.look_ok (int_keyed hk) ht hz (zd:=.held z) (zp:=[]) rfl hx;rw[hr,(h2 x).1];have e1:DataW.held v=D.atKey (.int .i64 x) (.held z):=by simpa [hld] using (congrArg Prod.fst (osi hv))
 cases hg:g x with
 | none =>
  have:=(h2 x).1;rw[hg] at this;rw[atKey_of_not_has (by simpa using this)] at e1;injection e1 with e1;rw[e1];rfl
 | some u =>
  rw[(h2 x).2 u hg] at e1;injection e1 with e1;rw[e1];rfl
def zg (g:Int->Option Value) (x:Int) (v:Value):Int->Option Value:=fun y=>if y=x then some v else g y
theorem qn7 {D:DataW Value} (hD:IsMap D) (h2:∀ x,has D (.int .i64 x)=(g x).isSome/\∀ v,g x=some v->∀ z,D.atKey (.int .i64 x) z = .held v) (x:Int) (v:Value) :
  ∀ y,has (D.put (.int .i64 x) (.held v)) (.int .i64 y)=(zg g x v y).isSome/\∀ u,zg g x v y=some u->∀ z,(D.put (.int .i64 x) (.held v)).atKey (.int .i64 y) z = .held u:=by
 intro y;by_cases hy:y=x
 ·subst hy;refine⟨by rw[has_put_same hD (k:=.int .i64 y) trivial];simp[zg],fun u hu z=>?_⟩;rw[atKey_put_same hD (k:=.int .i64 y) trivial];simp[zg] at hu;rw[hu]
 ·have ak:(Lit.int .i64 y)≠.int .i64 x:=fun e=>hy (by injection e)
  refine⟨by rw[has_put_other ak,(h2 y).1];simp[zg,hy],fun u hu z=>?_⟩;rw[atKey_put_other ak];exact(h2 y).2 u (by simpa [zg,hy] using hu) z
theorem Mp.set (h:Mp P k w b n g) (hk:P.underlying k=some (.int .i64)) (ht:P.underlying t=some (.map k e)) (hn:n < maxLen) {x:Int} (hx:keyOf P k (.int .i64 x)=some (.int .i64 x)) (v:Value) :
  ∃ w',(Instr.mapUpdate t (.map (some b)) (.int .i64 x) v).run P w = .ok () w'/\Mp P k w' b (n+1) (zg g x v)/\w.grownBy w' (some b):=by
 obtain⟨D,h1,h2⟩:=h;obtain⟨w',hr,ho,hg⟩:=h1.update (int_keyed hk) ht hn (d:=.held v) (ps:=[]) hx rfl;exact⟨w',hr,⟨_,ho,qn7 h1.isMap h2 x v⟩,hg⟩
section
variable {ops:Array Oper} {rest:List Oper} {o:Oper} {a:Act} {Q:Exit->Act->World->Prop} {F:Fence} {nF:Nat}
theorem q3q (hg:o.guard=none) (m x:Operand) (t:TypeId) (aU:o.op=Op.lookup t m x false) (h:Mp P k w b n g) (hk:P.underlying k=some (.int .i64)) (ht:P.underlying t=some (.map k e)) {z:Value} (hz:(zeroValue e).run P w = .ok z w)
  (c:Int) (hm:a.eval m = .map (some b)) (hx:a.eval x = .int .i64 c) (aq:keyOf P k (.int .i64 c)=some (.int .i64 c))
  (hK:wpList P ops Q rest (a.put o.dst ((g c).getD z)) w):wpList P ops Q (o :: rest) a w:=by
 refine wpList_plain hg fun K' oQ=>?_
 unfold Oper.wp;simp[execOp,aU,hm,hx,h.look hk ht hz aq,Result.andThen];exact oQ _ _ hK
theorem q1z (hg:o.guard=none) (m x v:Operand) (t:TypeId) (aU:o.op=Op.mapUpdate t m x v) (h:Mp P k w b n g) (hk:P.underlying k=some (.int .i64)) (ht:P.underlying t=some (.map k e)) (hn:n < maxLen)
  (c:Int) (u:Value) (hm:a.eval m = .map (some b)) (hx:a.eval x = .int .i64 c) (hv:a.eval v=u) (aq:keyOf P k (.int .i64 c)=some (.int .i64 c))
  (hK:∀ w',Mp P k w' b (n+1) (zg g c u)->w.grownBy w' (some b)->wpList P ops Q rest (a.put o.dst undef) w'):wpList P ops Q (o :: rest) a w:=by
 refine wpList_plain hg fun K' oQ=>?_
 obtain⟨w',hr,h1,h2⟩:=h.set hk ht hn aq u;unfold Oper.wp;simp[execOp,aU,hm,hx,hv,hr,Result.andThen];exact oQ _ _ (hK w' h1 h2)
theorem qa5 (hg:o.guard=none) (m x:Operand) (t:TypeId) (aU:o.op=Op.lookup t m x false) (h:Mp P k w b n g) (hk:P.underlying k=some (.int .i64)) (ht:P.underlying t=some (.map k e)) {z:Value} (hz:(zeroValue e).run P w = .ok z w)
  (c:Int) (hm:a.eval m = .map (some b)) (hx:a.eval x = .int .i64 c) (aq:keyOf P k (.int .i64 c)=some (.int .i64 c))
  (hK:wpListIn F nF P ops Q rest (a.put o.dst ((g c).getD z)) w):wpListIn F nF P ops Q (o :: rest) a w:=by
 refine wpListIn_plain hg fun K' oQ=>?_
 unfold Oper.wpIn;refine⟨by simp[Oper.about,aU],?_⟩;rw[Oper.semAt_plain F _ _ (by rw[aU];intro c hc';cases hc')];simp[execOp,aU,hm,hx,h.look hk ht hz aq,Result.andThen];exact oQ _ _ hK
end
theorem Mp.keys {D:DataW Value} (ho:w.ownsMap P k hld b n D) (hk:P.underlying k=some (.int .i64)) (h2:∀ x,has D (.int .i64 x)=(g x).isSome/\∀ v,g x=some v->∀ z,D.atKey (.int .i64 x) z = .held v)
  {ss:List Int} (hs:ss.Perm (intKeys D)):ss.Nodup/\(∀ x,x∈ss↔(g x).isSome=true)/\ss.length<=n/\∀ x∈ss,-9223372036854775808<=x/\x<=9223372036854775807:=by
 obtain⟨es,rfl,hp⟩:=ho.tidy (int_keyed hk);have rh:∀ p∈es,∃ x,p.1 = .int .i64 x:=by
  obtain⟨Lx,clock,hb,F,ao,hD⟩:=ho;injection hD with hD
  intro p ic;rw[hD] at ic;have oS:=(Go.WideShapes.sorted_perm _).mem_iff.1 ic;obtain⟨v,hv⟩:=fit_keys F p oS;obtain⟨x,_,hx,_⟩:=keyOf_i64 hk hv;exact⟨x,hx⟩
 have mY:(intKeys (.map es)).Nodup:=by
  show (es.map fun p=>intOf p.1).Nodup;refine List.pairwise_map.2 (hp.imp_of_mem fun {p q} ic Ql ak e=>ak ?_);obtain⟨a,ha⟩:=rh p ic;obtain⟨b,hb⟩:=rh q Ql;rw[ha,hb] at e ⊢;exact congrArg _ e
 have aZ:∀ x,x∈intKeys (.map es)↔(g x).isSome=true:=by
  intro x;rw[<-(h2 x).1,has_eq,List.any_eq_true];show x∈es.map (fun p=>intOf p.1)↔_;rw[go];constructor
  ·rintro ⟨p,ic,rfl⟩;obtain⟨a,ha⟩:=rh p ic;exact⟨p,ic,by rw[ha];simp[Lit.sameKey,intOf]⟩
  ·rintro ⟨p,ic,hs⟩;obtain⟨a,ha⟩:=rh p ic;rw[ha] at hs;exact⟨p,ic,by rw[ha];simpa [Lit.sameKey,intOf] using hs⟩
 refine⟨hs.nodup_iff.2 mY,fun x=>by rw[hs.mem_iff];exact aZ x,?_,?_⟩
 ·rw[hs.length_eq];have:=ho.size_le;simpa [intKeys,Maps.size] using this
 ·intro x hx;have:=intKeys_wf ho hk x (hs.mem_iff.1 hx);simp[Lit.wf,IntKind.min,IntKind.max,IntKind.bits,IntKind.signed] at this;omega
end Go.Cx
namespace Go.Proofs.YtlhicnfeajejhaaGreatDoor
open Go.RowKit Go.Cx
theorem q20 (w:World):(zeroValue 38).run Tryz.prog w = .ok (wv 0) w:=by
 rw[qd5];exact(by kernel_rfl:(zeroValue 38).run Tryz.prog w = .ok (.agg #[.bool false,.string ⟨#[]⟩]) w)
theorem qmi (b N:Nat) (g:Int->Option Value) (c:Int) (n:Bool) (s:ByteArray) (fc:Int) (w:World) (h:Mp Tryz.prog 3 w b N g) (hN:N<=1099511627776) (eI : -9223372036854775808<=c) (kJ:c<=9223372036854775807)
  (hg:(g c).getD (wv 0)=wv fc) (hf:nb fc<=1099511627776) (hs:s.size<=1099511627776) :
  Calls Tryz.prog 78 #[.map (some b),.int .i64 c,.agg #[.bool n,.string s]] w fun e w'=>e = .returned (.tuple #[])/\Mp Tryz.prog 3 w' b (N+1) (zg g c (wv (fc+iv n s)))/\w.grownBy w' (some b):=by
 have aq:=q0k (P:=Tryz.prog) (k:=3) Tryz.underlying3 eI kJ;go_enter Tryz.func78,Tryz.ntmps78;go_wp2_with (at_lookup;refine q3q rfl _ _ 99 rfl (h.alloc _) Tryz.underlying3 Tryz.underlying99 (q20 _) c rfl rfl aq ?_;rw[hg]);refine(qov _ _ _ _ _ (by rw[j5];exact hf) hs).mono ?_;rintro e w1 ⟨rfl,ai⟩;rw[q0i];go_wp2_with (at_mapUpdate;refine q1z rfl _ _ _ 99 rfl ((h.alloc _).q8 ai) Tryz.underlying3 Tryz.underlying99 (by unfold maxLen;omega) c _ rfl rfl rfl aq ?_);intro w2 dy dH;go_wp2
 go_end0
 refine⟨rfl,dy,?_⟩;exact((World.grownBy_alloc w _ (some b)).trans (q1y ai (some b))).trans dH
def SlL (w:World) (v:Value) (ls:List (List Tm)):Prop:=∃ vs,Sl w 1 v vs/\vs.length=ls.length/\∀ (i:Nat) u l,vs[i]? = some u->ls[i]? = some l->Sl w 3 u (tv l)
def q2z (g:Int->Option Value) (f:Int->Int):Prop:=∀ c,(g c).getD (wv 0)=wv (f c)
theorem q2z.zero:q2z (fun _=>none) (fun _=>0):=fun _=>rfl
theorem q2z.put {g:Int->Option Value} {f:Int->Int} (h:q2z g f) (c x:Int):q2z (zg g c (wv (f c+x))) (fun d=>f d+if c=d then x else 0):=by
 intro d;by_cases hd:d=c
 ·subst hd;simp[zg]
 ·show (zg g c (wv (f c+x)) d).getD (wv 0)=wv (f d+if c=d then x else 0);rw[zg,if_neg hd,if_neg (fun e:c=d=>hd e.symm),bD];exact h d
theorem q2z.congr {g:Int->Option Value} {f f':Int->Int} (h:q2z g f) (e:∀ c,f c=f' c):q2z g f':=fun c=>by rw[<-e];exact h c
theorem qn8 (v:Value) (ls:List (List Tm)) (S:Nat) (w:World) (h:SlL w v ls) (hS:∀ l∈ls,TOk S l) (hb:S+ls.flatten.length<=1099511627775) :
  Calls Tryz.prog 81 #[v] w fun e w'=>e = .returned (.map (some w.heap.size))/\(∃ g,Mp Tryz.prog 3 w' w.heap.size ls.flatten.length g/\q2z g (co (prs ls.flatten)))/\Below w.heap.size w w':=by
 obtain⟨vs,hv,rV,tI⟩:=h;obtain⟨a,len,cap,rfl,h1,h2,h3,h4,h5⟩:=hv;unfold maxLen at h2;rw[gK] at h3;have H3:=lhd h3;clear h3;have H4:=lhd h4;clear h4;have H5:=lhd h5;clear h5;have Gr:=lhd rV;clear rV;have Qm:=lhd tI;clear tI;have HS:=lhd hS;clear hS;have cC:=@run_makeMap Tryz.prog;go_enter Tryz.func81,Tryz.ntmps81;go_wp2;go_loopw [11] (fun i wr=>∃ (k:Nat) (g:Int->Option Value),i = .int .i64 k/\k<=len/\Mp Tryz.prog 3 wr w.heap.size (ls.take k).flatten.length g/\q2z g (co (prs (ls.take k).flatten))/\Below w.heap.size w wr) (fun i _=>len - (vI i).toNat)
 case atStart=>exact⟨0,_,rfl,gp _,Mp.made _ _ _,q2z.zero,(Below.refl _ _).alloc (nlr _) _⟩
 case round =>
  obtain⟨k,g,rfl,hk,hm,hg,hB⟩:=hrel;have Hg:=lhd hg;clear hg;by_cases hlt:k < len
  ·obtain⟨ad,rfl⟩ : ∃ ad,a=some ad:=by
    cases a with
    | none=>have:=H4.out rfl;omega
    | some ad=>exact⟨ad,rfl⟩
   obtain⟨u,hu⟩ : ∃ u,vs[k]? = some u:=⟨_,g8 (by rw[H3.out];exact hlt)⟩
   obtain⟨l,hl⟩ : ∃ l,ls[k]? = some l:=⟨_,g8 (by rw[<-Gr.out,H3.out];exact hlt)⟩
   have Qn:=Qm.out k u l hu hl;have Ly:=HS.out l (gd hl);have c1:wr.cell? (ad.add k)=some u:=q8 hB (H5.out ad rfl k _ hu);obtain⟨b,aj,bE,rfl,k1,k2,k3,k4,k5⟩:=Qn;unfold maxLen at k2;rw[z6] at k3;have oT:(ls.take (k+1)).flatten=(ls.take k).flatten++l:=by
    rw[gq,hl];simp
   have E0:(ls.take k).flatten.length+l.length<=ls.flatten.length:=by
    have e1:ls.flatten=(ls.take (k+1)).flatten++(ls.drop (k+1)).flatten:=by rw[<-List.flatten_append,gr]
    have:=congrArg List.length e1;rw[oT,gl,gl] at this;omega
   have Lz:=lhd oT;clear oT;have Hu:=lhd hu;clear hu;have Hl:=lhd hl;clear hl;have L0:=lhd Ly;clear Ly;have K4:=lhd k4;clear k4;have K5:=lhd k5;clear k5;have kl:l.length=aj:=by omega
   rw[kl] at E0;clear k3;have Kl:=lhd kl;clear kl;obtain⟨wo,db⟩ : ∃ wo:World,wo=wr:=⟨_,rfl⟩
   subst db;go_wp2;go_loopw [17] (fun i wr=>∃ (j:Nat) (g:Int->Option Value),i = .int .i64 j/\j<=aj/\Mp Tryz.prog 3 wr w.heap.size ((ls.take k).flatten.length+j) g/\q2z g (co (prs ((ls.take k).flatten++l.take j)))/\Below w.heap.size w wr) (fun i _=>aj - (vI i).toNat)
   case atStart=>exact⟨0,g,rfl,gp _,hm,by simpa using Hg.out,hB⟩
   case round =>
    obtain⟨j,g2,rfl,hj,dy,dH,aw⟩:=hrel;have Gt:=lhd dH;clear dH;by_cases dP:j < aj
    ·obtain⟨bd,rfl⟩ : ∃ bd,b=some bd:=by
      cases b with
      | none=>have:=K4.out rfl;omega
      | some bd=>exact⟨bd,rfl⟩
     obtain⟨⟨tc,tn,tm⟩,ht⟩ : ∃ t,l[j]? = some t:=⟨_,g8 (by rw[Kl.out];exact dP)⟩
     obtain⟨e0,e1,e2⟩:=jd l j _ ht;have d0:wr.cell? (bd.add (j*3))=some (.int .i64 tc):=q8 aw (K5.out bd rfl _ _ e0);have d1:wr.cell? ⟨(bd.add (j*3)).block,(bd.add (j*3)).off+1,none⟩=some (.bool tn):=by rw[qi _ _ _ (by omega)];exact q8 aw (K5.out bd rfl _ _ e1)
     have d2:wr.cell? ⟨(bd.add (j*3)).block,(bd.add (j*3)).off+2,none⟩=some (.string tm):=by rw[qi _ _ _ (by omega)];exact q8 aw (K5.out bd rfl _ _ e2)
     clear e0 e1 e2;obtain⟨q1,q2,q3⟩:=L0.out _ (gd ht)
     dsimp only at q1 q2 q3
     have Ht:=lhd ht;clear ht;have oy:l.take (j+1)=l.take j++[⟨tc,tn,tm⟩]:=by rw[gq,Ht.out];rfl
     have Qo:=lhd oy;clear oy;have AY:((ls.take k).flatten++l.take j).length=(ls.take k).flatten.length+j:=by
      rw[gl,gh,Kl.out];omega
     have jG:nb (co (prs ((ls.take k).flatten++l.take j)) tc)<=1099511627776:=by
      have:=q0y S (prs ((ls.take k).flatten++l.take j)) (q19 (fun t ht=>?tok)) tc
      ·rw[kq,AY] at this;omega
      case tok =>
       rcases gF.1 ht with ht | ht
       ·obtain⟨m,hm,ht⟩:=List.mem_flatten.1 ht;exact HS.out m (gU hm) t ht
       ·exact L0.out t (gU ht)
     clear AY;go_wp2_with fail;refine(qmi w.heap.size _ g2 tc tn tm _ _ (dy.alloc _) (by omega) q1 q2 (Gt.out tc) jG (by omega)).mono ?_;rintro e w2 ⟨rfl,iW,rW⟩;have aS:w.heap.size<=wr.heap.size:=aw.size;have aB:Below w.heap.size w w2:=(aw.alloc aS _).grown rW (by simp;omega) (fun r hr=>by cases hr;exact nlr _);go_wp2;go_roundw
     case measure=>simp[vI];omega
     case rel =>
      refine⟨j+1,_,qh (by omega),by omega,iW,?_,aB⟩;refine(Gt.out.put tc (iv tn tm)).congr fun c=>?_
      rw[Qo.out,<-gz,q1x];rfl
    ·have cX:j=aj:=by omega
     have L5:=lhd cX;clear cX;go_wp2;go_roundw
     case measure=>simp[vI];omega
     case rel =>
      refine⟨k+1,g2,qh (by omega),by omega,?_,?_,aw⟩
      ·rw[Lz.out,gl,Kl.out];rw[L5.out] at dy;exact dy
      ·have:=Gt.out;rw[L5.out,ge (Nat.le_of_eq Kl.out)] at this;rw[Lz.out];exact this
  ·have aR:k=len:=by omega
   have zM:=lhd aR;clear aR;go_wp2;go_ret;refine⟨rfl,⟨g,?_,?_⟩,hB⟩
   ·rw[zM.out,ge (by rw[<-Gr.out,H3.out];omega)] at hm;exact hm
   ·have:=Hg.out;rw[zM.out,ge (by rw[<-Gr.out,H3.out];omega)] at this;exact this
end Go.Proofs.YtlhicnfeajejhaaGreatDoor
namespace Go.Cx
open Go.RowKit
theorem add_add (a:Addr) (i j:Nat):(a.add i).add j=a.add (i+j):=by
 unfold Addr.add;by_cases h:i=0
 ·subst h;simp
 ·by_cases h':j=0
  ·subst h';simp[h]
  ·simp[h,h',Nat.add_assoc]
theorem Sl.drop {w:World} {st:Nat} {a:Option Addr} {n cap k:Nat} {xs:List Value} (h:Sl w st (.slice a n cap) xs) (hk:k<=n):Sl w st (.slice (a.map (·.add (k*st))) (n - k) (cap - k)) (xs.drop (k*st)):=by
 obtain⟨h2,h3,h4,h5,h6⟩:=h.open;refine⟨_,_,_,rfl,by omega,by unfold maxLen at *;omega,?_,?_,?_⟩
 ·rw[gC,h4,Nat.sub_mul]
 ·intro e;have:=h5 (by simpa using e);omega
 ·intro ad ha j u hj;cases a with
  | none=>cases ha
  | some a =>
   simp at ha;subst ha;rw[List.getElem?_drop] at hj;rw[add_add];exact h6 a rfl _ u hj
theorem qm {P:Program} {ops:Array Oper} {rest:List Oper} {o:Oper} {a:Act} {Q:Exit->Act->World->Prop} {W wr:World} (ot:o.guard=none) (s x:Operand) (t:TypeId)
  (ho:o.op = .call { callee:=.builtin .append,args:=#[s,x],argTypes:=#[t,t] })
  (base:Nat) (e:TypeId) {z:Value} {size bytes:Nat} (dV:(P.info? e).map (fun i=>(i.zero,i.size,i.bytes))=some (some z,size,bytes)) (ht:P.underlying t=some (.slice e))
  (fF:z.cells.size=size) (ao:0 < size) (oL:0 < bytes)
  (v:Value) (n:Nat) (xs:List Value) (hs:a.eval s=v) (ah:wr.ownsRow base e size v n xs)
  (u:Value) (m:Nat) (ys:List Value) (hx:a.eval x=u) (oU:Sl wr size u ys) (hl:ys.length=m*size) (h1:∀ u∈ys,u.oneCell'=true)
  (cE:(n+m)*bytes<=140737488355328) (hb:Below base W wr) (af:base<=wr.heap.size)
  (h:∀ v' w',w'.ownsRow base e size v' (n+m) (xs++ys)->wr.grownBy w' v.ownBlock->Below base W w'->wpList P ops Q rest (a.put o.dst v') w') :
  wpList P ops Q (o :: rest) a wr:=by
 obtain⟨i0,hi,bL,bT,cp⟩:=info_parts dV;obtain⟨ad,k,cap,rfl,h2,h3,h4,h5,h6⟩:=oU;have hk:k=m:=Nat.eq_of_mul_eq_mul_right ao (by rw[<-h4,hl]);subst hk;cases ad with
 | none =>
  have hc:=h5 rfl;have hk:k=0:=by omega
  subst hc hk;have dW:ys=[]:=gu (by rw[h4,Nat.zero_mul]);subst dW;refine wpList_append_own_none ot s x t ho base e i0 size ht hi v n xs hs ah hx ?_;exact h v wr (by simpa using ah) ⟨rfl,rfl,rfl,nlr _,fun _ _ _=>rfl⟩ hb
 | some ad =>
  refine wpList_append_own _ ot s x t ho base e i0 z size bytes ht hi bL bT cp fF ao v n xs hs ah ad k cap ys hx h4 (fun j u hj=>h6 ad rfl j u hj) h1 ?_ cE af ?_
  ·have:(n+k)*1<=(n+k)*bytes:=Nat.mul_le_mul_left _ oL;unfold maxLen;omega
  ·intro v' w' r1 r2 _;exact h v' w' r1 r2 (hb.grown r2 af (fun k hk=>(ah.lt k hk).1))
theorem q3r (l:List Tm) (k:Nat):(tv l).take (k*3)=tv (l.take k):=by
 induction l generalizing k with
 | nil=>simp[tv]
 | cons t l ih =>
  cases k with
  | zero=>simp[tv]
  | succ k=>rw[ko,show (k+1)*3=k*3+1+1+1 by omega];simp[ko,ih]
end Go.Cx
