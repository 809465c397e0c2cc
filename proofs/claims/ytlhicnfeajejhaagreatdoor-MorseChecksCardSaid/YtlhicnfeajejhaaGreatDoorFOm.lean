/- Steps towards MorseChecks. Conditions: none. -/
import Derived.Deep.SlicePairs
import Derived.Great.BuildSlice
import Derived.OpenShut
import Derived.ProofKit
import Derived.Test.YtlhicnfeajejhaaGreatDoorFMl
set_option maxRecDepth 1000000
set_option maxHeartbeats 16000000
namespace Go.Proofs.YtlhicnfeajejhaaGreatDoor
open Go.RowKit Go.Cx
inductive Fk
 | any
 | tt
 | val (v:Value)
 | cx (K:List Cl)
 | ints (l:List (Int×Int))
 | ch (L:List (Int×Int))
 | cf (f:Int->Int) (N S:Nat)
 | wd (l:List Int)
 | tup (l:List Int)
 | own (b:Nat) (L:List (Int×Int))
def Fk.holds:Fk->Value->World->Prop
 | .any,_,_=>True
 | .tt,v,_=>v = .bool true
 | .val x,v,_=>v=x
 | .cx K,v,w=>∃ u l,v = .agg #[u]/\SlC w u l/\l.map Ce.cl=K
 | .ints l,v,w=>Sl w 1 v (pv l)
 | .ch L,v,w=>Sl w 3 v (tv (ctm L))
 | .cf f N S,v,w=>∃ L,Cn L/\(∀ c,co L c=f c)/\L.length<=N/\TOk S (ctm L)/\Sl w 3 v (tv (ctm L))
 | .wd l,v,w=>Sl w 2 v (wvs l)
 | .own b L,v,w=>b<=w.heap.size/\w.ownsRow b 71 3 v L.length (tv (ctm L))
 | .tup l,v,w=>∃ r,v = .tuple #[r,.bool true]/\Sl w 2 r (wvs l)
theorem Fk.q8 {k:Fk} {v:Value} {w w':World} (h:k.holds v w) (hb:Below w.heap.size w w'):k.holds v w':=by
 cases k with
 | any=>trivial
 | tt=>exact h
 | val x=>exact h
 | cx K=>obtain⟨u,l,h1,h2,h3⟩:=h;exact⟨u,l,h1,h2.mono fun p u hc=>Cx.q8 hb hc,h3⟩
 | ints l=>exact Sl.q8 h hb
 | ch L=>exact Sl.q8 h hb
 | cf f N S=>obtain⟨L,h1,h2,h3,h4,h5⟩:=h;exact⟨L,h1,h2,h3,h4,h5.q8 hb⟩
 | wd l=>exact Sl.q8 h hb
 | own b L=>exact⟨gn h.1 hb.size,qa h.2 hb⟩
 | tup l=>obtain⟨r,h1,h2⟩:=h;exact⟨r,h1,h2.q8 hb⟩
def qaj (k:Fk) (w:World) (e:Ending) (w':World):Prop:=∃ r,e = .returned r/\k.holds r w'/\Below w.heap.size w w'
theorem q2p {P:Program} (w:World) (t e:TypeId) (len:Nat) (parts:Array (Nat×Value)) (cells:Array Value) (z:Value) (s b:Nat) (hu:P.underlying t=some (.slice e))
  (hi:(P.info? e).map (fun i=>(i.zero,i.size,i.bytes))=some (some z,s,b)) (xB:¬ len*s > 2 ^ 24) (lC:¬ len*s=0)
  (hf:Instr.fill (fun i=>some (i*s,s)) ((Array.range (len*s)).map (z.cells[· % z.cells.size]!)) parts.toList=some cells) :
  (Instr.buildSlice t len parts).run P w = .ok (.slice (some ⟨w.heap.size,0,none⟩) len len) (w.alloc (.cells cells e)):=by
 cases hie:P.info? e with
 | none=>rw[hie] at hi;simp at hi
 | some ie =>
  rw[hie] at hi;simp only [Option.map_some,Option.some.injEq,Prod.mk.injEq] at hi;obtain⟨h1,h2,_⟩:=hi;subst h2;exact run_buildSlice w t e len parts cells ie z hu hie h1 xB lC hf
def z8 (K:List Cl):List (Int×Sd):=K.flatMap fun x=>x.s.map fun y=>(x.id,y)
theorem q2q (l:List Ce):zk l=z8 (l.map Ce.cl):=by
 induction l with
 | nil=>rfl
 | cons x l ih=>show _++zk l=_;rw[ih];rfl
def KOk (K:List Cl):Prop:=∀ x∈K,(I64 x.id/\I64 x.dim)/\x.s.length<=19/\∀ s∈x.s,I64 s.c/\I64 s.g
theorem KOk.cok {K:List Cl} {l:List Ce} (h:KOk K) (hl:l.map Ce.cl=K):COk l:=fun x hx=>by
 have:=h x.cl (by rw[<-hl];exact go.2 ⟨x,hx,rfl⟩);exact this
def LOk (S:Nat) (L:List (Int×Int)):Prop:=∀ p∈L,I64 p.1/\nb p.2<=S
theorem LOk.tok {S:Nat} {L:List (Int×Int)} (h:LOk S L):TOk S (ctm L):=fun t ht=>by
 obtain⟨p,hp,rfl⟩:=go.1 ht;exact⟨(h p hp).1.1,(h p hp).1.2,by show (mg p.2).size<=S;rw[j5];exact(h p hp).2⟩
section
variable {P:Program} {Q:Exit->Act->World->Prop} {o:Oper} {a:Act} {w:World} {K:Act->World->Prop}
variable {k:Fk}
theorem qn {ops:Array Oper} (j d:Nat) (hg:o.guard=some (j,true)) (hj:(ops[j]?).bind (·.dst)=some d) (hs:d < a.tmps.size) (h:a.tmps.getD d undef = .bool true):Region.wanted o (yielded ops a.tmps)=true:=by
 have h1:a.tmps[d]? = some (.bool true):=by
  rw[Array.getD_eq_getD_getElem?,Array.getElem?_eq_getElem hs] at h;rw[Array.getElem?_eq_getElem hs];exact congrArg some h
 unfold Region.wanted;rw[hg];show (yielded ops a.tmps j == some true)=true;unfold yielded;rw[hj];show ((match a.tmps[d]? with | some (.bool b)=>some b | _=>none) == some true)=true;rw[h1];rfl
def qhv (ops:Array Oper) (s:Nat):Bool:=(List.range ops.size).all fun i=>(ops[i]?).bind (·.dst) != some s
theorem qu {ops:Array Oper} {s:Nat} (h:qhv ops s=true) (i:Nat) (o:Oper) (ho:ops[i]? = some o):o.dst≠some s:=fun e=>by
 have h1:=bC.1 h i (gy.2 (gw.1 ho).1);rw[ho] at h1;simp[e] at h1
end
theorem k8 {P : Program} {f : Nat} {fn : Func} (hf : P.funcs[f]? = some fn) (h1 : (fn.name == "runtime.NumGoroutine") = false) (h2 : fn.body.isNone = false) (args : Array Value) (w : World) : (callFunc f args).run P w = .ok (.enter f args) w := by
 have h3 : ¬ fn.name = "runtime.NumGoroutine" := by simpa using h1
 have h4:¬ fn.body=none:=fun e=>by rw[e] at h2;cases h2
 simp[callFunc,hf,h3,h4,go_sem]
theorem lok {L:List (Int×Int)} (h:∀ p∈L,(0<=p.1/\p.1<=100)/\p.2.natAbs < 256):LOk 100 L:=fun p hp=>⟨by have:=h p hp;unfold I64;omega,gn (q31 p.2 1 (by have:=(h p hp).2;omega)) (by omega)⟩
theorem q0u:∀ args w,(callFunc 23 args).run Tryz.prog w = .ok (.enter 23 args) w:=k8 Tryz.func23 (by kernel_rfl) (by kernel_rfl)
theorem q77:∀ args w,(callFunc 29 args).run Tryz.prog w = .ok (.enter 29 args) w:=k8 Tryz.func29 (by kernel_rfl) (by kernel_rfl)
theorem svSame' (v u:Value) (L:List (Int×Int)) (w:World) (h:(Fk.ch L).holds v w) (k:(Fk.ch L).holds u w) :
  Calls Tryz.prog 23 #[v,u] w (qaj .tt w) :=
 (qna v u _ _ w h k).mono fun e w' ⟨q,he,hq,hb⟩=>⟨_,he,by show Value.bool q=_;rw[hq.2 rfl],hb⟩
end Go.Proofs.YtlhicnfeajejhaaGreatDoor
namespace Go.Proofs.YtlhicnfeajejhaaGreatDoor
open Go.RowKit Go.Cx
attribute [local go_sem ↓] Go.wp_at_zero Go.wp_at_succ
def qp3:List Cl:=[⟨1,0,[]⟩,⟨2,0,[]⟩,⟨3,0,[]⟩,⟨4,1,[⟨1,-1⟩,⟨2,1⟩]⟩,⟨5,1,[⟨1,-1⟩,⟨3,1⟩]⟩,⟨6,1,[⟨2,-1⟩,⟨3,1⟩]⟩,⟨7,2,[⟨4,1⟩,⟨5,-1⟩,⟨6,1⟩]⟩]
theorem qkt:KOk qp3:=by
 intro x hx;simp only [qp3,List.mem_cons,List.not_mem_nil,or_false] at hx;rcases hx with rfl | rfl | rfl | rfl | rfl | rfl | rfl <;> refine⟨⟨by unfold I64;decide,by unfold I64;decide⟩,by decide,?_⟩ <;> intro s hs <;> simp only [List.mem_cons,List.not_mem_nil,or_false] at hs
 all_goals first | (rcases hs with rfl | rfl | rfl <;> exact⟨by unfold I64;decide,by unfold I64;decide⟩) | (rcases hs with rfl | rfl <;> exact⟨by unfold I64;decide,by unfold I64;decide⟩)
theorem qqv:Tryz.prog.eqGuardType Tryz.prog.depth 38=false:=by kernel_rfl
theorem ldK {w:World} {b:Nat} {v:Value} (h:Bv w b v):(Instr.loadAt 26 (.pointer (some ⟨b,0,none⟩))).run Tryz.prog w = .ok (.agg #[v]) w:=by
 have h1:=h.1;simp[go_sem,h1]
end Go.Proofs.YtlhicnfeajejhaaGreatDoor
namespace Go.Cx
open Go.RowKit
variable {P:Program} {Q:Exit->Act->World->Prop} {o:Oper} {a:Act}
def qhw (K:Act->World->Prop):Exit->Act->World->Prop
 | .normal,a,w=>K a w
 | _,_,_=>False
theorem q7t {K next:Act->World->Prop} {r:Result Next} (h:o.upon P a next (qhw K) r):o.upon P a next Q r:=by
 cases r with
 | ok n w =>
  cases n
  case value=>exact h
  case skip=>exact h
  case defer=>exact h
  case row=>exact h
  case enter f args =>
   refine Calls.mono h fun e w' he=>?_
   cases e with
   | returned v=>exact he
   | panicked c=>exact he.elim
   | outgrown=>obtain⟨_,_,h⟩:=he;exact h.elim
  all_goals exact h.elim
 | halt x w =>
  cases x
  case panic=>exact h.elim
  all_goals exact h.elim
theorem qfe {wr:World} {K:Act->World->Prop} (s x:Operand) (t:TypeId)
  (ho:o.op = .call { callee:=.builtin .append,args:=#[s,x],argTypes:=#[t,t] })
  (base:Nat) (e:TypeId) {z:Value} {size bytes:Nat} (dV:(P.info? e).map (fun i=>(i.zero,i.size,i.bytes))=some (some z,size,bytes)) (ht:P.underlying t=some (.slice e))
  (fF:z.cells.size=size) (ao:0 < size) (oL:0 < bytes)
  (v:Value) (n:Nat) (xs:List Value) (hs:a.eval s=v) (ah:wr.ownsRow base e size v n xs)
  (u:Value) (m:Nat) (ys:List Value) (hx:a.eval x=u) (oU:Sl wr size u ys) (hl:ys.length=m*size) (h1:∀ u∈ys,u.oneCell'=true)
  (cE:(n+m)*bytes<=140737488355328) (af:base<=wr.heap.size)
  (h:∀ v' w',w'.ownsRow base e size v' (n+m) (xs++ys)->Below base wr w'->K (a.put o.dst v') w'):Oper.wp P o a wr K Q:=by
 have key:wpList P #[] (qhw K) [{ o with guard:=none }] a wr :=
  qm (W:=wr) rfl s x t ho base e dV ht fF ao oL v n xs hs ah u m ys hx oU hl h1 cE (Below.refl _ _) af fun v' w' r1 _ r3=>h v' w' r1 r3
 unfold wpList at key;split at key
 ·rcases key with key | ⟨_,_,_,key⟩
  ·exact q7t key
  ·exact key.elim
 ·rename_i hn;exact absurd rfl hn
end Go.Cx
namespace Go.Proofs.YtlhicnfeajejhaaGreatDoor
open Go.RowKit Go.Cx Go.ChangeShapes Go.WideShapes
theorem Tryz.qhy:Tryz.prog.cellsOf 3=1:=by kernel_rfl
theorem wfI {n:Int} (h:(Lit.int .i64 n).wf=true):I64 n:=by
 have h1:IntKind.i64.min = -9223372036854775808:=rfl;have h2:IntKind.i64.max=9223372036854775807:=rfl;simp only [Lit.wf,Bool.and_eq_true,decide_eq_true_eq] at h;unfold I64;omega
theorem qgh {H:Type} {enc:TypeId×Value->H} {W:World} {t e:TypeId} {fuel:Nat} {v:Value} {x:DataW H×List MemPlace} (ht:Tryz.prog.underlying t=some (.slice e)) (he:Tryz.prog.underlying e=some (.array 2 3)) (ce:Tryz.prog.cellsOf e=2)
  (h:DataW.trod enc Tryz.prog W 0 (fun _=>true) true fuel t [v]=some x):∃ l:List (Int×Int),Sl W 2 v (pv l)/\∀ p∈l,I64 p.1/\I64 p.2:=by
 rcases Deep.open_slice ht h with ⟨hc,_⟩ | ⟨a,len,cap,m,n,D,Pl,hc,_,hl,hm,cC,_,hx⟩
 ·obtain rfl:v = .slice none 0 0:=by simpa using hc
  exact⟨[],Sl.nil _ _,fun p hp=>by cases hp⟩
 ·obtain rfl:v = .slice (some a) len cap:=by simpa using hc
  simp only [if_true] at cC;rw[cC] at hx;have key:∀ i,i < cap->∃ q:Value×Value,W.cell? (a.add (i*2))=some (.int .i64 (vI q.1))/\W.cell? (a.add (i*2+1))=some (.int .i64 (vI q.2))/\I64 (vI q.1)/\I64 (vI q.2):=fun i hi=>by
   obtain⟨RY,h1,h2⟩:=hx i hi;rw[ce] at h1;obtain⟨_,hlen,aA⟩:=World.cells?_some h1;obtain⟨xs,k,_,_,_,dx,hf⟩:=DataW.trod_array he h2
   match xs,dx,RY,hlen with
   | [y0,y1],_,[v0,v1],_ =>
    have g0:=hf 0 (by decide);have g1:=hf 1 (by decide);simp[Tryz.qhy] at g0 g1;have e0:=aA 0 (by omega);have e1:=aA 1 (by omega);rw[add_add] at e0 e1;obtain⟨x,r1,_,w1⟩:=DataW.trod_int Tryz.underlying3 g0;obtain⟨y,r2,_,w2⟩:=DataW.trod_int Tryz.underlying3 g1;simp at r1 r2;subst r1 r2;exact⟨(.int .i64 x,.int .i64 y),by simpa [vI] using e0,by simpa [vI] using e1,wfI w1,wfI w2⟩
  obtain⟨q,hV⟩:=Deep.choose_lt key;obtain⟨V0,BT⟩ : ∃ V0:Nat->Value,V0=fun i=>(q i).1:=⟨_,rfl⟩
  obtain⟨V1,Am⟩ : ∃ V1:Nat->Value,V1=fun i=>(q i).2:=⟨_,rfl⟩
  have hV:∀ i,i < cap->W.cell? (a.add (i*2))=some (.int .i64 (vI (V0 i)))/\W.cell? (a.add (i*2+1))=some (.int .i64 (vI (V1 i)))/\I64 (vI (V0 i))/\I64 (vI (V1 i)):=by rw[BT,Am];exact hV
  have aA:∀ i,i < cap->W.cell? (a.add (i*2))=some (.int .i64 (vI (V0 i)))/\W.cell? (a.add (i*2+1))=some (.int .i64 (vI (V1 i)))/\I64 (vI (V0 i))/\I64 (vI (V1 i)):=fun i hi=>by
   exact hV i hi
  refine⟨(List.range len).map fun i=>(vI (V0 i),vI (V1 i)),⟨some a,len,cap,rfl,hl,by omega,by rw[qd1];simp,(fun e=>by cases e),fun ad ha j u hj=>?_⟩,fun p hp=>?_⟩
  ·cases ha
   have dP:j < len*2:=by
    have:=(gc.1 hj).1;rw[qd1] at this;simpa using this
   have hg:=qgz ((List.range len).map fun i=>(vI (V0 i),vI (V1 i))) (j / 2) (vI (V0 (j / 2)),vI (V1 (j / 2))) (by rw[List.getElem?_map,List.getElem?_range (by omega)];rfl);have hc:=aA (j / 2) (by omega);rcases Nat.mod_two_eq_zero_or_one j with dy | dy
   ·rw[show j=j / 2*2 by omega] at hj ⊢;rw[hg.1] at hj;cases hj
    exact hc.1
   ·rw[show j=j / 2*2+1 by omega] at hj ⊢;rw[hg.2] at hj;cases hj
    exact hc.2.1
  ·obtain⟨i,hi,rfl⟩:=go.1 hp;have:=aA i (by have:=gy.1 hi;omega);exact this.2.2
section
variable {H:Type} {enc:TypeId×Value->H} {W:World}
theorem qak {t:TypeId} {fuel:Nat} {v:Value} {x:DataW H×List MemPlace} (ht:Tryz.prog.underlying t=some (.slice 3)) (h:DataW.trod enc Tryz.prog W 0 (fun _=>true) true fuel t [v]=some x):∃ l:List Int,Sl W 1 v (ints l)/\∀ x∈l,I64 x:=by
 rcases open_ints ht Tryz.underlying3 Tryz.qhy h with ⟨h1,_⟩ | ⟨a,len,cap,zs,h1,_,hl,hm,hz,_,hc,hw⟩
 ·simp only [List.cons.injEq,and_true] at h1;subst h1;exact⟨[],Sl.nil _ _,fun x hx=>by cases hx⟩
 ·simp only [List.cons.injEq,and_true] at h1;subst h1;simp only [if_true] at hz;refine⟨zs.take len,⟨some a,len,cap,rfl,hl,by omega,by rw[xl,gh];omega,(fun e=>by cases e),fun ad ha j u hj=>?_⟩,fun x hx=>wfI (hw x (gU hx))⟩;cases ha
  have dP:j < (zs.take len).length:=by
   have:=(gc.1 hj).1
   rwa [xl] at this
  rw[q9r _ _ dP] at hj;cases hj
  rw[gh] at dP;rw[hc j (by omega)];simp[List.getD_eq_getElem?_getD,show j < len by omega]
theorem qnh {base:Nat} {v:Value} {d:DataW H} {p:List MemPlace} (hv:Value.okWide Tryz.prog W .any base 3 v) (h:DataW.Trod enc Tryz.prog W 0 (fun _=>true) true 3 v d p):∃ z,v = .int .i64 z/\I64 z:=by
 obtain⟨z,rfl,_,_,wz⟩:=open_int Tryz.underlying3 hv h;exact⟨z,rfl,wfI wz⟩
end
end Go.Proofs.YtlhicnfeajejhaaGreatDoor
