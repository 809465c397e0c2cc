/- Steps towards SequenceChecks. Conditions: none. -/
import Derived.Laws.AppendOwnNone
import Derived.Lib.SlKeysI
import Derived.Maps.OwnIn
import Derived.Test.YtmkpbhaoalbhjaaGreatDoorXMd
set_option maxRecDepth 1000000
set_option maxHeartbeats 0
open Go.Value renaming slice→O,agg→I,bool→τ,int→H,tuple→ψ,string→ω
open Option renaming none→Z,some→Y
open Go renaming undef→V,World→δ,Value→ε
open Go.IntKind renaming i64→φ
namespace Go.Cx
open Go.RowKit
def vI:ε->Int | H _ q=>q|_=>0
theorem qi (a:Addr)(n k:Nat)(hk:0<k):(⟨(a.add n).block,(a.add n).off+k,Z⟩ : Addr)=a.add (n+k):=by
 unfold Addr.add;by_cases h:n=0
 ·subst h;simp[show k≠0 by omega]
 ·simp[h,Nat.add_assoc]
structure Tm where
 c:Int
 n:Bool
 m:ByteArray
def Tm.x (t:Tm):Int:=iv t.n t.m
def tv (l:List Tm):List Value:=l.flatMap fun t=>[t.c,τ t.n,ω t.m]
theorem ko (t:Tm)(l:List Tm):tv (t :: l)=H φ t.c :: τ t.n :: ω t.m :: tv l:=rfl
theorem xp (l m:List Tm):tv (l++m)=tv l++tv m:=by simp[tv]
theorem q8u (l:List Tm):(tv l).length=l.length*3:=by
 induction l with
 |nil=>rfl
 |cons t l ih=>rw[ko];simp only [List.length_cons,ih];omega
theorem jd (l:List Tm)(i:Nat)(t:Tm)(h:l[i]? =Y t):(tv l)[i*3]? =Y t.c/\(tv l)[i*3+1]? =Y (τ t.n)/\(tv l)[i*3+2]? =Y (ω t.m):=by
 induction l generalizing i with
 |nil=>simp at h
 |cons u l ih =>
  cases i with
  |zero=>simp at h;subst h;simp[ko]
  |succ i =>have:=ih i (by simpa using h);rw[ko];rw[show (i+1)*3=i*3+1+1+1 by omega,show i*3+1+1+1+1=(i*3+1)+1+1+1 by omega,show i*3+1+1+1+2=(i*3+2)+1+1+1 by omega];simpa using this
def TOk (S:Nat)(l:List Tm):Prop:=∀t∈l,-9223372036854775808<=t.c/\t.c<=9223372036854775807/\t.m.size<=S
theorem TOk.mono {S S':Nat}{l:List Tm}(h:TOk S l)(hS:S<=S'):TOk S' l:=fun t ht=>⟨(h t ht).1,(h t ht).2.1,gd (h t ht).2.2 hS⟩
def prs (l:List Tm):List (Int×Int):=l.map fun t=>(t.c,t.x)
theorem q5u (l m:List Tm):prs (l++m)=prs l++prs m:=by simp[prs]
theorem kq (l:List Tm):(prs l).length=l.length:=by simp[prs]
def co:List (Int×Int)->Int->Int
 |[],_=>0
 |p :: l,c=>(if p.1=c then p.2 else 0)+co l c
theorem q8h (c:Int):co [] c=0:=rfl
theorem jh (p:Int×Int)(l:List (Int×Int))(c:Int):co (p :: l) c=(if p.1=c then p.2 else 0)+co l c:=rfl
theorem ji (l m:List (Int×Int))(c:Int):co (l++m) c=co l c+co m c:=by
 induction l with
 |nil=>simp[co]
 |cons p l ih=>rw[bw,jh,jh,ih,Int.add_assoc]
theorem q5a (l:List (Int×Int))(p:Int×Int)(c:Int):co (l++[p]) c=co l c+(if p.1=c then p.2 else 0):=by rw[ji,jh,q8h,bA]
theorem q0j (l:List (Int×Int))(c:Int)(h:∀p∈l,p.1≠c):co l c=0:=by
 induction l with
 |nil=>rfl
 |cons p l ih =>rw[jh,if_neg (h p (by simp)),ih (fun q hq=>h q (by simp[hq]))];rfl
theorem q1x (l:List Tm)(t:Tm)(c:Int):co (prs (l++[t])) c=co (prs l) c+if t.c=c then t.x else 0:=by rw[q5u];exact q5a _ _ _
theorem q0y (S:Nat)(l:List (Int×Int))(h:∀p∈l,nb p.2<=S)(c:Int):nb (co l c)<=S+l.length:=by
 induction l with
 |nil=>simp[co,q0g]
 |cons p l ih =>
  have i:=ih (fun q hq=>h q (by simp[hq]));have h1:=h p (by simp);rw[jh];have h2:=qbn (if p.1=c then p.2 else 0) (co l c);have h3:nb (if p.1=c then p.2 else 0)<=S:=by split <;> simp[q0g,h1]
  simp only [List.length_cons];omega
theorem q19 {S:Nat}{l:List Tm}(h:TOk S l):∀p∈prs l,nb p.2<=S:=by intro p hp;obtain⟨t,ht,rfl⟩:=gj.1 hp;exact gd (qmd t.n t.m) (h t ht).2.2
def Cn (L:List (Int×Int)):Prop:=L.Pairwise (fun p q=>p.1<q.1)/\∀p∈L,p.2≠0
theorem Cn.nil:Cn []:=⟨List.Pairwise.nil,fun p hp=>by simp at hp⟩
theorem zl {L:List (Int×Int)}(h:L.Pairwise (fun p q=>p.1<q.1)){p:Int×Int}(hp:p∈L):co L p.1=p.2:=by
 induction L with
 |nil=>simp at hp
 |cons q L ih =>
  rw[gJ]at h;rw[jh];rcases gH.1 hp with rfl|hp
  ·rw[if_pos rfl,q0j L p.1 (fun r hr e=>by have:=h.1 r hr;omega),bA]
  ·have h1:=h.1 p hp;rw[if_neg (by omega),ih h.2 hp,Int.zero_add]
theorem Cn.uniq:∀ {L M:List (Int×Int)},Cn L->Cn M->(∀c,co L c=co M c)->L=M
 |[],[],_,_,_=>rfl
 |[],q :: M,_,hM,he=>by
  exfalso
  have h1:=he q.1;rw[q8h,zl hM.1 (bg ..)]at h1;exact hM.2 q (by simp) h1.symm
 |p :: L,[],hL,_,he=>by
  exfalso
  have h1:=he p.1;rw[q8h,zl hL.1 (bg ..)]at h1;exact hL.2 p (by simp) h1
 |p :: L,q :: M,hL,hM,he=>by
  have Nk:=gJ.1 hL.1;have Nl:=gJ.1 hM.1;have Nn:p.1=q.1:=by
   rcases Int.lt_trichotomy p.1 q.1 with h|h|h
   ·exfalso
    have h1:=he p.1;rw[zl hL.1 (bg ..),q0j (q :: M) p.1 (fun r hr e=>by
     rcases gH.1 hr with rfl|hr
     ·omega
     ·have:=Nl.1 r hr;omega)]at h1
    exact hL.2 p (by simp) h1
   ·exact h
   ·exfalso
    have h1:=he q.1;rw[zl hM.1 (bg ..),q0j (p :: L) q.1 (fun r hr e=>by
     rcases gH.1 hr with rfl|hr
     ·omega
     ·have:=Nk.1 r hr;omega)]at h1
    exact hM.2 q (by simp) h1.symm
  have Ji:p=q:=by have h1:=he p.1;rw[zl hL.1 (bg ..),Nn,zl hM.1 (bg ..)]at h1;exact Prod.ext Nn h1
  subst Ji;rw[Cn.uniq (L:=L) (M:=M) ⟨Nk.2,fun r hr=>hL.2 r (by simp[hr])⟩ ⟨Nl.2,fun r hr=>hM.2 r (by simp[hr])⟩ (fun c=>by have:=he c;rw[jh,jh]at this;omega)]
def ctm (L:List (Int×Int)):List Tm:=L.map fun p=>⟨p.1,decide (p.2<0),mg p.2⟩
theorem zv (L:List (Int×Int)):prs (ctm L)=L:=by
 simp only [prs,ctm,List.map_map]
 conv=>rhs;rw[<-List.map_id L]
 refine List.map_congr_left fun p _=>?_
 simp[Tm.x,q0i]
theorem q4s (L:List (Int×Int)):(ctm L).length=L.length:=by simp[ctm]
theorem xj (L M:List (Int×Int)):ctm (L++M)=ctm L++ctm M:=by simp[ctm]
end Go.Cx
namespace Go.Cx
def nzp (f:Int->Int)(ks:List Int):List (Int×Int):=ks.filterMap fun c=>if f c=0 then Z else Y (c,f c)
theorem qgw (f:Int->Int)(ks:List Int)(c:Int):nzp f (ks++[c])=nzp f ks++(if f c=0 then []else [(c,f c)]):=by
 unfold nzp;rw[List.filterMap_append]
 congr 1
 by_cases h:f c=0 <;> simp[h]
theorem q8i {f:Int->Int}{ks:List Int}{p:Int×Int}(h:p∈nzp f ks):p.1∈ks/\p.2=f p.1/\f p.1≠0:=by
 unfold nzp at h;obtain⟨c,hc,he⟩:=List.mem_filterMap.1 h;by_cases h0:f c=0
 ·simp[h0]at he
 ·simp[h0]at he;subst he;exact⟨hc,rfl,h0⟩
theorem qda (f:Int->Int)(ks:List Int):(nzp f ks).length<=ks.length:=List.length_filterMap_le _ _
theorem qgx (f:Int->Int){ks:List Int}(h:ks.Pairwise (· < ·)):Cn (nzp f ks):=by
 refine⟨?_,fun p hp=>by have:=q8i hp;rw[this.2.1];exact this.2.2⟩;induction ks with
 |nil=>exact List.Pairwise.nil
 |cons c ks ih =>
  rw[gJ]at h;have i:=ih h.2;unfold nzp at i ⊢;rw[List.filterMap_cons];by_cases h0:f c=0
  ·simp only [h0,if_true];exact i
  ·simp only [h0,if_false];rw[gJ];exact⟨fun p hp=>h.1 _ (q8i hp).1,i⟩
theorem qn6 (f:Int->Int){ks:List Int}(h:ks.Pairwise (· < ·))(hk:∀c,f c≠0->c∈ks)(c:Int):co (nzp f ks) c=f c:=by
 by_cases h0:f c=0
 ·rw[h0];refine q0j _ _ fun p hp e=>?_
  have:=q8i hp;rw[e]at this;exact this.2.2 h0
 ·have hm:(c,f c)∈nzp f ks:=by unfold nzp;exact List.mem_filterMap.2 ⟨c,hk c h0,by simp[h0]⟩
  exact zl (qgx f h).1 hm
theorem qf1 (ss:List Int)(h:ss.Nodup):(ss.mergeSort (fun x y=>decide (x<=y))).Pairwise (· < ·):=by
 have h1:=List.pairwise_mergeSort (le:=fun x y:Int=>decide (x<=y)) (fun a b c h1 h2=>by simp at *;omega) (fun a b=>by simp;omega) ss;have h2:(ss.mergeSort (fun x y=>decide (x<=y))).Nodup:=((List.mergeSort_perm ss _).nodup_iff).2 h;refine(h1.and h2).imp fun {a b} pZ=>?_
 have h3:a<=b:=by simpa using pZ.1
 have h4:a≠b:=pZ.2;omega
end Go.Cx
namespace Go.Cx
open Go.RowKit Go.Maps
def hld (v:ε):Option (DataW ε×List MemPlace):=Y (.held v,[])
def Mp (P:Program)(k:TypeId)(w:δ)(b n:Nat)(g:Int->Option ε):Prop :=
 ∃D,w.ownsMap P k hld b n D/\∀x,has D (.int .i64 x)=(g x).isSome/\∀v,g x=some v->∀z,D.atKey (.int .i64 x) z=.held v
variable {P:Program}{k t e:TypeId}{w:δ}{b n:Nat}{g:Int->Option ε}
theorem Mp.made (w:World)(P:Program)(k:TypeId):Mp P k (w.alloc (.map #[] 0)) w.heap.size 0 (fun _=>none) :=
 ⟨_,World.ownsMap_made w P k hld,fun x=>⟨rfl,fun v h=>by cases h⟩⟩
theorem Mp.kept (h:Mp P k w b n g){w':World}{row:Option Nat}(hg:w.grownBy w' row)(ah:some b≠row):Mp P k w' b n g:=by obtain⟨D,h1,h2⟩:=h;exact⟨D,h1.kept hg ah,h2⟩
theorem Mp.lt (h:Mp P k w b n g):b<w.heap.size:=by obtain⟨D,h1,_⟩:=h;exact h1.lt
theorem Mp.alloc (h:Mp P k w b n g)(o:Obj):Mp P k (w.alloc o) b n g:=h.kept (World.grownBy_alloc w o Z) (by simp)
theorem Mp.below (h:Mp P k w b n g){w':World}{B:Nat}(hb:Below B w w')(hB:b<B):Mp P k w' b n g:=by obtain⟨D,⟨es,clock,hh,r⟩,h2⟩:=h;exact⟨D,⟨es,clock,by rw[hb.block b hB];exact hh,r⟩,h2⟩
theorem Mp.keep (h:Mp P k w b n g){w':δ}(hb:Below w w w'):Mp P k w' b n g:=h.below hb h.lt
theorem Mp.setCell (h:Mp P k w b n g){a:Addr}(ha:b≠a.block)(u:Value):Mp P k (w.setCell a u) b n g:=by obtain⟨D,h1,h2⟩:=h;exact⟨D,h1.setCell ha u,h2⟩
theorem Mp.mono (h:Mp P k w b n g){n':Nat}(hn:n<=n'):Mp P k w b n' g:=by obtain⟨D,h1,h2⟩:=h;exact⟨D,h1.mono hn,h2⟩
theorem q1y {w w':δ}(h:Below w w w')(row:Option Nat):w.grownBy w' row:=⟨h.os,h.tape,h.output,h.size,fun k hk _=>h.block k hk⟩
theorem q0k {x:Int}(hk:P.underlying k=some (.int .i64))(h1 : -9223372036854775808<=x)(h2:x<=9223372036854775807):keyOf P k (.int .i64 x)=some (.int .i64 x) :=
 keyOf_int_mk hk (by simp[Lit.wf,IntKind.min,IntKind.max,IntKind.bits,IntKind.signed];omega)
theorem Mp.look (h:Mp P k w b n g)(hk:P.underlying k=some (.int .i64))(ht:P.underlying t=some (.map k e)){z:Value}(hz:(zeroValue e).run P w=.ok z w){x:Int}(hx:keyOf P k (.int .i64 x)=some (.int .i64 x)) :
  (Instr.lookup t (.map (Y b)) x false).run P w=.ok ((g x).getD z) w:=by
 obtain⟨D,h1,h2⟩:=h;obtain⟨v,ps,hr,hv⟩:=h1.lookup (int_keyed hk) ht hz (zd:=.held z) (zp:=[]) rfl hx;rw[hr];have e1:DataW.held v=D.atKey (.int .i64 x) (.held z):=by simpa [hld]using (congrArg Prod.fst (osi hv))
 cases hg:g x with
 |none =>have:=(h2 x).1;rw[hg]at this;rw[atKey_of_not_has (by simpa using this)]at e1;injection e1 with e1;rw[e1];rfl
 |some u =>rw[(h2 x).2 u hg]at e1;injection e1 with e1;rw[e1];rfl
theorem Mp.qgy (h:Mp P k w b n g)(hk:P.underlying k=some (.int .i64))(ht:P.underlying t=some (.map k e)){z:Value}(hz:(zeroValue e).run P w=.ok z w){x:Int}(hx:keyOf P k (.int .i64 x)=some (.int .i64 x)) :
  (Instr.lookup t (.map (some b)) x true).run P w=.ok (.tuple #[(g x).getD z,.bool (g x).isSome]) w:=by
 obtain⟨D,h1,h2⟩:=h;obtain⟨v,ps,hr,hv⟩:=h1.look_ok (int_keyed hk) ht hz (zd:=.held z) (zp:=[]) rfl hx;rw[hr,(h2 x).1];have e1:DataW.held v=D.atKey (.int .i64 x) (.held z):=by simpa [hld]using (congrArg Prod.fst (osi hv))
 cases hg:g x with
 |none =>have:=(h2 x).1;rw[hg]at this;rw[atKey_of_not_has (by simpa using this)]at e1;injection e1 with e1;rw[e1];rfl
 |some u =>rw[(h2 x).2 u hg]at e1;injection e1 with e1;rw[e1];rfl
def zg (g:Int->Option ε)(x:Int)(v:ε):Int->Option Value:=fun y=>if y=x then Y v else g y
theorem qn7 {D:DataW Value}(hD:IsMap D)(h2:∀x,has D (.int .i64 x)=(g x).isSome/\∀v,g x=some v->∀z,D.atKey (.int .i64 x) z=.held v)(x:Int)(v:Value) :
  ∀y,has (D.put (.int .i64 x) (.held v)) (.int .i64 y)=(zg g x v y).isSome/\∀u,zg g x v y=some u->∀z,(D.put (.int .i64 x) (.held v)).atKey (.int .i64 y) z=.held u:=by
 intro y;by_cases hy:y=x
 ·subst hy;refine⟨by rw[has_put_same hD (k:=.int .i64 y) trivial];simp[zg],fun u hu z=>?_⟩;rw[atKey_put_same hD (k:=.int .i64 y) trivial];simp[zg]at hu;rw[hu]
 ·have ah:(Lit.int .i64 y)≠.int .i64 x:=fun e=>hy (by injection e)
  refine⟨by rw[has_put_other ah,(h2 y).1];simp[zg,hy],fun u hu z=>?_⟩;rw[atKey_put_other ah];exact(h2 y).2 u (by simpa [zg,hy]using hu) z
theorem Mp.set (h:Mp P k w b n g)(hk:P.underlying k=some (.int .i64))(ht:P.underlying t=some (.map k e))(hn:n<maxLen){x:Int}(hx:keyOf P k (.int .i64 x)=some (.int .i64 x))(v:Value) :
  ∃w',(Instr.mapUpdate t (.map (Y b)) x v).run P w=.ok () w'/\Mp P k w' b (n+1) (zg g x v)/\w.grownBy w' (Y b):=by
 obtain⟨D,h1,h2⟩:=h;obtain⟨w',hr,ho,hg⟩:=h1.update (int_keyed hk) ht hn (d:=.held v) (ps:=[]) hx rfl;exact⟨w',hr,⟨_,ho,qn7 h1.isMap h2 x v⟩,hg⟩
section
variable {ops:Array Oper}{rest:List Oper}{o:Oper}{a:Act}{Q:Exit->Act->δ->Prop}{F:Fence}{nF:Nat}
theorem q3q (hg:o.guard=Z)(m x:Operand)(t:TypeId)(aX:o.op=Op.lookup t m x false)(h:Mp P k w b n g)(hk:P.underlying k=Y (.int φ))(ht:P.underlying t=Y (.map k e)){z:ε}(hz:(zeroValue e).run P w=.ok z w)
  (c:Int) (hm:a.eval m=.map (some b)) (hx:a.eval x=.int .i64 c) (av:keyOf P k (.int .i64 c)=some (.int .i64 c))
  (hK:wpList P ops Q rest (a.put o.dst ((g c).getD z)) w):wpList P ops Q (o :: rest) a w:=by
 refine wpList_plain hg fun K' oQ=>?_
 unfold Oper.wp;simp[execOp,aX,hm,hx,h.look hk ht hz av,Result.andThen];exact oQ _ _ hK
theorem q1z (hg:o.guard=Z)(m x v:Operand)(t:TypeId)(aX:o.op=Op.mapUpdate t m x v)(h:Mp P k w b n g)(hk:P.underlying k=Y (.int φ))(ht:P.underlying t=Y (.map k e))(hn:n<maxLen)
  (c:Int) (u:Value) (hm:a.eval m=.map (some b)) (hx:a.eval x=.int .i64 c) (hv:a.eval v=u) (av:keyOf P k (.int .i64 c)=some (.int .i64 c))
  (hK:∀w',Mp P k w' b (n+1) (zg g c u)->w.grownBy w' (Y b)->wpList P ops Q rest (a.put o.dst V) w'):wpList P ops Q (o :: rest) a w:=by
 refine wpList_plain hg fun K' oQ=>?_
 obtain⟨w',hr,h1,h2⟩:=h.set hk ht hn av u;unfold Oper.wp;simp[execOp,aX,hm,hx,hv,hr,Result.andThen];exact oQ _ _ (hK w' h1 h2)
theorem qa5 (hg:o.guard=Z)(m x:Operand)(t:TypeId)(aX:o.op=Op.lookup t m x false)(h:Mp P k w b n g)(hk:P.underlying k=Y (.int φ))(ht:P.underlying t=Y (.map k e)){z:ε}(hz:(zeroValue e).run P w=.ok z w)
  (c:Int) (hm:a.eval m=.map (some b)) (hx:a.eval x=.int .i64 c) (av:keyOf P k (.int .i64 c)=some (.int .i64 c))
  (hK:wpListIn F nF P ops Q rest (a.put o.dst ((g c).getD z)) w):wpListIn F nF P ops Q (o :: rest) a w:=by
 refine wpListIn_plain hg fun K' oQ=>?_
 unfold Oper.wpIn;refine⟨by simp[Oper.about,aX],?_⟩;rw[Oper.semAt_plain F _ _ (by rw[aX];intro c hc';cases hc')];simp[execOp,aX,hm,hx,h.look hk ht hz av,Result.andThen];exact oQ _ _ hK
end
theorem Mp.keys {D:DataW Value}(ho:w.ownsMap P k hld b n D)(hk:P.underlying k=some (.int .i64))(h2:∀x,has D (.int .i64 x)=(g x).isSome/\∀v,g x=some v->∀z,D.atKey (.int .i64 x) z=.held v)
  {ss:List Int} (hs:ss.Perm (intKeys D)):ss.Nodup/\(∀x,x∈ss↔(g x).isSome=true)/\ss.length<=n/\∀x∈ss,-9223372036854775808<=x/\x<=9223372036854775807:=by
 obtain⟨es,rfl,hp⟩:=ho.tidy (int_keyed hk);have jT:∀p∈es,∃x,p.1=.int .i64 x:=by
  obtain⟨yI,clock,hb,F,hsz,hD⟩:=ho;injection hD with hD
  intro p qA;rw[hD]at qA;have jL:=(Go.WideShapes.sorted_perm _).mem_iff.1 qA;obtain⟨v,hv⟩:=fit_keys F p jL;obtain⟨x,_,hx,_⟩:=keyOf_i64 hk hv;exact⟨x,hx⟩
 have oR:(intKeys (.map es)).Nodup:=by show (es.map fun p=>intOf p.1).Nodup;refine List.pairwise_map.2 (hp.imp_of_mem fun {p q} qA iW ah e=>ah ?_);obtain⟨a,ha⟩:=jT p qA;obtain⟨b,hb⟩:=jT q iW;rw[ha,hb]at e ⊢;exact congrArg _ e
 have cG:∀x,x∈intKeys (.map es)↔(g x).isSome=true:=by
  intro x;rw[<-(h2 x).1,has_eq,List.any_eq_true];show x∈es.map (fun p=>intOf p.1)↔_;rw[gj];constructor
  ·rintro ⟨p,qA,rfl⟩;obtain⟨a,ha⟩:=jT p qA;exact⟨p,qA,by rw[ha];simp[Lit.sameKey,intOf]⟩
  ·rintro ⟨p,qA,hs⟩;obtain⟨a,ha⟩:=jT p qA;rw[ha]at hs;exact⟨p,qA,by rw[ha];simpa [Lit.sameKey,intOf]using hs⟩
 refine⟨hs.nodup_iff.2 oR,fun x=>by rw[hs.mem_iff];exact cG x,?_,?_⟩
 ·rw[hs.length_eq];have:=ho.size_le;simpa [intKeys,Maps.size]using this
 ·intro x hx;have:=intKeys_wf ho hk x (hs.mem_iff.1 hx);simp[Lit.wf,IntKind.min,IntKind.max,IntKind.bits,IntKind.signed]at this;omega
end Go.Cx
namespace Go.Proofs.YtmkpbhaoalbhjaaGreatDoor
open Go.RowKit Go.Cx
theorem q20 (w:δ):(zeroValue 110).run Tryz.prog w=.ok (wv 0) w:=by rw[qd5];exact(by kernel_rfl:(zeroValue 110).run Tryz.prog w=.ok (I #[τ false,ω ⟨#[]⟩]) w)
theorem qmi (b N:Nat)(g:Int->Option ε)(c:Int)(n:Bool)(s:ByteArray)(fc:Int)(w:δ)(h:Mp Tryz.prog 3 w b N g)(hN:N<=1099511627776)(fx : -9223372036854775808<=c)(fO:c<=9223372036854775807)
  (hg:(g c).getD (wv 0)=wv fc) (hf:nb fc<=1099511627776) (hs:s.size<=1099511627776) :
  Calls Tryz.prog 145 #[.map (some b),.int .i64 c,.agg #[.bool n,.string s]] w fun e w'=>e=.returned (.tuple #[])/\Mp Tryz.prog 3 w' b (N+1) (zg g c (wv (fc+iv n s)))/\w.grownBy w' (some b):=by
 have av:=q0k (P:=Tryz.prog) (k:=3) Tryz.underlying3 fx fO;go_enter Tryz.func145,Tryz.ntmps145;go_wp2_with (at_lookup;refine q3q rfl _ _ 199 rfl (h.alloc _) Tryz.underlying3 Tryz.underlying199 (q20 _) c rfl rfl av ?_;rw[hg]);refine(qov _ _ _ _ _ (by rw[j5];exact hf) hs).mono ?_;rintro e w1 ⟨rfl,ae⟩;rw[q0i];go_wp2_with (at_mapUpdate;refine q1z rfl _ _ _ 199 rfl ((h.alloc _).keep ae) Tryz.underlying3 Tryz.underlying199 (by unfold maxLen;omega) c _ rfl rfl rfl av ?_);intro w2 dE fY;go_wp2
 go_end0
 refine⟨rfl,dE,?_⟩;exact((World.grownBy_alloc w _ (Y b)).trans (q1y ae (Y b))).trans fY
def SlL (w:δ)(v:ε)(ls:List (List Tm)):Prop:=∃vs,Sl w 1 v vs/\vs.length=ls.length/\∀(i:Nat) u l,vs[i]? =Y u->ls[i]? =Y l->Sl w 3 u (tv l)
def q2z (g:Int->Option ε)(f:Int->Int):Prop:=∀c,(g c).getD (wv 0)=wv (f c)
theorem q2z.zero:q2z (fun _=>Z) (fun _=>0):=fun _=>rfl
theorem q2z.put {g:Int->Option ε}{f:Int->Int}(h:q2z g f)(c x:Int):q2z (zg g c (wv (f c+x))) (fun d=>f d+if c=d then x else 0):=by
 intro d;by_cases hd:d=c
 ·subst hd;simp[zg]
 ·show (zg g c (wv (f c+x)) d).getD (wv 0)=wv (f d+if c=d then x else 0);rw[zg,if_neg hd,if_neg (fun e:c=d=>hd e.symm),bA];exact h d
theorem q2z.congr {g:Int->Option ε}{f f':Int->Int}(h:q2z g f)(e:∀c,f c=f' c):q2z g f':=fun c=>by rw[<-e];exact h c
theorem qn8 (v:ε)(ls:List (List Tm))(S:Nat)(w:δ)(h:SlL w v ls)(hS:∀l∈ls,TOk S l)(hb:S+ls.flatten.length<=1099511627775) :
  Calls Tryz.prog 140 #[v] w fun e w'=>e=.returned (.map (Y w))/\(∃g,Mp Tryz.prog 3 w' w ls.flatten.length g/\q2z g (co (prs ls.flatten)))/\Below w w w':=by
 obtain⟨vs,hv,yJ,fZ⟩:=h;obtain⟨a,len,cap,rfl,h1,h2,h3,h4,h5⟩:=hv;unfold maxLen at h2;rw[gK]at h3;have H3:=lhd h3;clear h3;have H4:=lhd h4;clear h4;have H5:=lhd h5;clear h5;have Jj:=lhd yJ;clear yJ;have Rf:=lhd fZ;clear fZ;have HS:=lhd hS;clear hS;have dU:=@run_makeMap Tryz.prog;go_enter Tryz.func140,Tryz.ntmps140;go_wp2;go_loopw [11] (fun i wr=>∃(k:Nat) (g:Int->Option ε),i=k/\k<=len/\Mp Tryz.prog 3 wr w (ls.take k).flatten.length g/\q2z g (co (prs (ls.take k).flatten))/\Below w w wr) (fun i _=>len-(vI i).toNat)
 case atStart=>exact⟨0,_,rfl,gm _,Mp.made _ _ _,q2z.zero,(q9).alloc (nlr _) _⟩
 case round =>
  obtain⟨k,g,rfl,hk,hm,hg,hB⟩:=hrel;have Hg:=lhd hg;clear hg;by_cases ak:k<len
  ·obtain⟨ad,rfl⟩:=sadq H4.out (by omega)
   obtain⟨u,hu⟩:∃u,vs[k]? =Y u:=⟨_,gg (by rw[H3.out];exact ak)⟩
   obtain⟨l,hl⟩:∃l,ls[k]? =Y l:=⟨_,gg (by rw[<-Jj.out,H3.out];exact ak)⟩
   have Rg:=Rf.out k u l hu hl;have Np:=HS.out l (gi hl);have c1:wr (ad.add k)=Y u:=keep hB (H5.out ad rfl k _ hu);obtain⟨b,ay,dQ,rfl,k1,k2,k3,k4,k5⟩:=Rg;unfold maxLen at k2;rw[q8u]at k3;have fh:(ls.take (k+1)).flatten=(ls.take k).flatten++l:=by rw[gC,hl];simp
   have yK:(ls.take k).flatten.length+l.length<=ls.flatten.length:=by
    have e1:ls.flatten=(ls.take (k+1)).flatten++(ls.drop (k+1)).flatten:=by rw[<-List.flatten_append,bC]
    have:=congrArg List.length e1;rw[fh,gw,gw]at this;omega
   have Nq:=lhd fh;clear fh;have Hu:=lhd hu;clear hu;have Hl:=lhd hl;clear hl;have Nr:=lhd Np;clear Np;have K4:=lhd k4;clear k4;have K5:=lhd k5;clear k5;have kl:l.length=ay:=by omega
   rw[kl]at yK;clear k3;have Kl:=lhd kl;clear kl;obtain⟨wo,eE⟩:=x4 wr;subst eE;go_wp2;go_loopw [17] (fun i wr=>∃(j:Nat) (g:Int->Option ε),i=j/\j<=ay/\Mp Tryz.prog 3 wr w ((ls.take k).flatten.length+j) g/\q2z g (co (prs ((ls.take k).flatten++l.take j)))/\Below w w wr) (fun i _=>ay-(vI i).toNat)
   case atStart=>exact⟨0,g,rfl,gm _,hm,by simpa using Hg.out,hB⟩
   case round =>
    obtain⟨j,g2,rfl,hj,dE,fY,aI⟩:=hrel;have Jk:=lhd fY;clear fY;by_cases eV:j<ay
    ·obtain⟨bd,rfl⟩:=sadq K4.out (by omega)
     obtain⟨⟨tc,tn,tm⟩,ht⟩:∃t,l[j]? =Y t:=⟨_,gg (by rw[Kl.out];exact eV)⟩
     obtain⟨e0,e1,e2⟩:=jd l j _ ht;have d0:wr (bd.add (j*3))=tc:=keep aI (K5.out bd rfl _ _ e0);have d1:wr ⟨(bd.add (j*3)).block,(bd.add (j*3)).off+1,Z⟩=τ tn:=by rw[qi _ _ _ (by omega)];exact keep aI (K5.out bd rfl _ _ e1)
     have d2:wr ⟨(bd.add (j*3)).block,(bd.add (j*3)).off+2,Z⟩=ω tm:=by rw[qi _ _ _ (by omega)];exact keep aI (K5.out bd rfl _ _ e2)
     clear e0 e1 e2;obtain⟨q1,q2,q3⟩:=Nr.out _ (gi ht)
     dsimp only at q1 q2 q3
     have Ht:=lhd ht;clear ht;have cy:l.take (j+1)=l.take j++[⟨tc,tn,tm⟩]:=by rw[gC,Ht.out];rfl
     have Rh:=lhd cy;clear cy;have Bm:((ls.take k).flatten++l.take j).length=(ls.take k).flatten.length+j:=by rw[gw,gD,Kl.out];omega
     have o4:nb (co (prs ((ls.take k).flatten++l.take j)) tc)<=1099511627776:=by
      have:=q0y S (prs ((ls.take k).flatten++l.take j)) (q19 (fun t ht=>?tok)) tc
      ·rw[kq,Bm]at this;omega
      case tok =>
       rcases gO.1 ht with ht|ht
       ·obtain⟨m,hm,ht⟩:=List.mem_flatten.1 ht;exact HS.out m (gX hm) t ht
       ·exact Nr.out t (gX ht)
     clear Bm;go_wp2_with fail;refine(qmi w _ g2 tc tn tm _ _ (dE.alloc _) (by omega) q1 q2 (Jk.out tc) o4 (by omega)).mono ?_;rintro e w2 ⟨rfl,Ri,ni⟩;have ag:w.heap.size<=wr:=aI.size;have aJ:Below w w w2:=(aI.alloc ag _).grown ni (by simp;omega) (fun r hr=>by cases hr;exact nlr _);go_wp2;go_roundw
     case measure=>simp[vI];omega
     case rel =>
      refine⟨j+1,_,qh (by omega),by omega,Ri,?_,aJ⟩;refine(Jk.out.put tc (iv tn tm)).congr fun c=>?_
      rw[Rh.out,<-bj,q1x];rfl
    ·have np:j=ay:=by omega
     have Ns:=lhd np;clear np;go_wp2;go_roundw
     case measure=>simp[vI];omega
     case rel =>
      refine⟨k+1,g2,qh (by omega),by omega,?_,?_,aI⟩
      ·rw[Nq.out,gw,Kl.out];rw[Ns.out]at dE;exact dE
      ·have:=Jk.out;rw[Ns.out,gr (Nat.le_of_eq Kl.out)]at this;rw[Nq.out];exact this
  ·have aZ:k=len:=by omega
   have Bf:=lhd aZ;clear aZ;go_wp2;go_ret;refine⟨rfl,⟨g,?_,?_⟩,hB⟩
   ·rw[Bf.out,gr (by rw[<-Jj.out,H3.out];omega)]at hm;exact hm
   ·have:=Hg.out;rw[Bf.out,gr (by rw[<-Jj.out,H3.out];omega)]at this;exact this
end Go.Proofs.YtmkpbhaoalbhjaaGreatDoor
namespace Go.Cx
open Go.RowKit
theorem add_add (a:Addr)(i j:Nat):(a.add i).add j=a.add (i+j):=by
 unfold Addr.add;by_cases h:i=0
 ·subst h;simp
 ·by_cases h':j=0
  ·subst h';simp[h]
  ·simp[h,h',Nat.add_assoc]
theorem Sl.drop {w:δ}{st:Nat}{a:Option Addr}{n cap k:Nat}{xs:List ε}(h:Sl w st (O a n cap) xs)(hk:k<=n):Sl w st (O (a.map (·.add (k*st))) (n-k) (cap-k)) (xs.drop (k*st)):=by
 obtain⟨h2,h3,h4,h5,h6⟩:=h.open;refine⟨_,_,_,rfl,by omega,by unfold maxLen at *;omega,?_,?_,?_⟩
 ·rw[bF,h4,Nat.sub_mul]
 ·intro e;have:=h5 (by simpa using e);omega
 ·intro ad ha j u hj;cases a with
  |none=>cases ha
  |some a =>simp at ha;subst ha;rw[List.getElem?_drop]at hj;rw[add_add];exact h6 a rfl _ u hj
theorem q2f {P:Program}{ops:Array Oper}{rest:List Oper}{o:Oper}{a:Act}{Q:Exit->Act->δ->Prop}{W wr:δ}(wj:o.guard=Z)(s x:Operand)(t:TypeId)
  (ho:o.op=.call { callee:=.builtin .append,args:=#[s,x],argTypes:=#[t,t] })
  (base:Nat) (e:TypeId) {z:ε} {size bytes:Nat} (fE:(P.info? e).map (fun i=>(i.zero,i.size,i.bytes))=Y (Y z,size,bytes)) (ht:P.underlying t=Y (.slice e))
  (jJ:z.cells.size=size) (hsz:0<size) (iO:0<bytes)
  (v:ε) (n:Nat) (xs:List ε) (hs:a.eval s=v) (af:wr.ownsRow base e size v n xs)
  (u:ε) (m:Nat) (ys:List ε) (hx:a.eval x=u) (mo:Sl wr size u ys) (hl:ys.length=m*size) (h1:∀u∈ys,u.oneCell'=true)
  (dR:(n+m)*bytes<=140737488355328) (hb:Below base W wr) (ab:base<=wr)
  (h:∀v' w',w'.ownsRow base e size v' (n+m) (xs++ys)->wr.grownBy w' v.ownBlock->Below base W w'->wpList P ops Q rest (a.put o.dst v') w') :
  wpList P ops Q (o :: rest) a wr:=by
 obtain⟨i0,hi,dv,dB,de⟩:=info_parts fE;obtain⟨ad,k,cap,rfl,h2,h3,h4,h5,h6⟩:=mo;have hk:k=m:=Nat.eq_of_mul_eq_mul_right hsz (by rw[<-h4,hl]);subst hk;cases ad with
 |none =>
  have hc:=h5 rfl;have hk:k=0:=by omega
  subst hc hk;have iT:ys=[]:=gl (by rw[h4,Nat.zero_mul]);subst iT;refine wpList_append_own_none wj s x t ho base e i0 size ht hi v n xs hs af hx ?_;exact h v wr (by simpa using af) ⟨rfl,rfl,rfl,nlr _,fun _ _ _=>rfl⟩ hb
 |some ad =>
  refine wpList_append_own _ wj s x t ho base e i0 z size bytes ht hi dv dB de jJ hsz v n xs hs af ad k cap ys hx h4 (fun j u hj=>h6 ad rfl j u hj) h1 ?_ dR ab ?_
  ·have:(n+k)*1<=(n+k)*bytes:=Nat.mul_le_mul_left _ iO;unfold maxLen;omega
  ·intro v' w' r1 r2 _;exact h v' w' r1 r2 (hb.grown r2 ab (fun k hk=>(af.lt k hk).1))
theorem jf (l:List Tm):∀u∈tv l,u.oneCell'=true:=by intro u hu;obtain⟨t,_,ht⟩:=List.mem_flatMap.1 hu;simp at ht;rcases ht with rfl|rfl|rfl <;> rfl
end Go.Cx
namespace Go.Proofs.YtmkpbhaoalbhjaaGreatDoor
open Go.RowKit Go.Cx
attribute [local go_sem ↓] Go.wp_at_zero Go.wp_at_succ
theorem Tryz.xm:(Tryz.prog.info? 167).map (fun i=>(i.zero,i.size,i.bytes))=Y (Y (I #[H φ 0,τ false,ω ⟨#[]⟩]),3,32):=by kernel_rfl
