/- Steps towards SequenceChecks. Conditions: none. -/
import Derived.Test.YtmkpbhaoalbhjaaGreatDoorXRe
import Derived.Test.YtmkpbhaoalbhjaaGreatDoorXRg
set_option maxRecDepth 1000000
set_option maxHeartbeats 0
open Option renaming some→Y
namespace Go.Cx
open Go.Proofs.YtmkpbhaoalbhjaaGreatDoor
section
variable {p:Int}{K:List Cl}{d:Int}
end
section
variable {p:Int}{A L:List Cl}{d:Int}
end
section
variable {p:Int}{A B M U:List Cl}(Eq:Cov A B M U){d:Int}
include Eq
end
section
variable {p:Int}{A B M U:List Cl}(Eq:Cov A B M U){d:Int}
include Eq
end
section
variable {p:Int}{K:List Cl}{d:Int}
end
section
variable {p:Int}(hp:prN p.toNat=true){A B M U:List Cl}(Eq:Cov A B M U)(d:Int)
include hp Eq
end
structure Fq where
 p:Int
 r:Int
 c:Int
 E:List Int
def Fq.M (x:Fq):List (List Int):=rowsOf x.c.toNat x.r.toNat x.E
def Fq.rk (x:Fq):Nat:=q2r x.p x.c.toNat x.M
def Fq.ok (x:Fq):Bool:=okM x.p x.r x.c x.E
theorem Fq.right {x:Fq}(h:x.ok=true):x.r=(x.r.toNat:Int)/\x.c=(x.c.toNat:Int)/\x.r.toNat<=400/\x.c.toNat<=400/\prI x.p=true/\FM x.p x.r.toNat x.c.toNat x.M/\x.M.flatten=x.E:=by
 obtain⟨r',c',h1,h2,h3,h4,h5,h6,h7⟩:=qtd h;have e1:x.r.toNat=r':=by omega
 have e2:x.c.toNat=c':=by omega
 unfold Fq.M;rw[e1,e2];exact⟨h1,h2,h3,h4,h5,h6,h7⟩
def q34 (l:List Fq)(k:Nat):Nat:=match l[k]? with
 |some x=>x.rk
 |none=>0
def q8q (p:Int)(dd:List Int)(l:List Fq)(k:Nat):Bool:=match l[k]? with
 |some x=>x.ok && (x.p == p && (x.c == dd.getD k 0 && x.r == dd.getD (k+1) 0))
 |none=>true
def kv (p:Int)(dd:List Int)(l:List Fq):Bool:=decide (1<=dd.length) && (decide (l.length+1=dd.length) && (prI p && (List.range l.length).all (q8q p dd l)))
def inR (l:List Fq):Nat->Nat
 |0=>0
 |k+1=>q34 l k
def q35 (l:List Fq)(k:Nat):List (List Int):=match l[k+1]?,l[k]? with
 |some y,Y x=>mulM x.p x.c.toNat y.M x.M
 |_,_=>[]
def exB (p:Int)(dd:List Int)(l:List Fq):Bool :=
 kv p dd l && ((List.range dd.length).all (fun k=>((inR l k+q34 l k:Nat):Int) == dd.getD k 0) && (List.range l.length).all (fun k=>(q35 l k).flatten.all (fun n=>n == 0)))
theorem yz {p:Int}{dd:List Int}{l:List Fq} : kv p dd l=true↔1<=dd.length/\l.length+1=dd.length/\prI p=true/\∀k,k<l.length->q8q p dd l k=true:=by unfold kv;simp only [Bool.and_eq_true,decide_eq_true_eq,List.all_eq_true,List.mem_range]
theorem qcx {p:Int}{dd:List Int}{l:List Fq}{k:Nat}{x:Fq}(h:l[k]? =Y x):q8q p dd l k=true↔x.ok=true/\x.p=p/\x.c=dd.getD k 0/\x.r=dd.getD (k+1) 0:=by unfold q8q;rw[h];simp only [Bool.and_eq_true,beq_iff_eq]
theorem q6h {p:Int}{dd:List Int}{l:List Fq} : exB p dd l=true↔kv p dd l=true/\(∀k,k<dd.length->((inR l k+q34 l k:Nat):Int)=dd.getD k 0)/\∀k,k<l.length->∀n∈(q35 l k).flatten,n=0:=by unfold exB;simp only [Bool.and_eq_true,List.all_eq_true,List.mem_range,beq_iff_eq]
def Mx.q (p:Int)(x:Mx):Fq:=⟨p,x.r,x.c,x.M.flatten⟩
def qeg (p:Int)(A B M U:List Cl):Nat->List Nat
 |0=>qml p A B M U 0
 |n+1=>qml p A B M U ((n+1:Nat):Int)++qeg p A B M U n
def q9j (p:Int)(A B M U:List Cl):Nat->List Mx
 |0=>qib p A B M U 0
 |n+1=>qib p A B M U ((n+1:Nat):Int)++q9j p A B M U n
def eg2 (id:Int):List Cl:=[⟨1,0,[]⟩,⟨2,0,[]⟩,⟨id,1,[⟨1,-1⟩,⟨2,1⟩]⟩]
def egU:List Cl:=[⟨1,0,[]⟩,⟨2,0,[]⟩,⟨3,1,[⟨1,-1⟩,⟨2,1⟩]⟩,⟨4,1,[⟨1,-1⟩,⟨2,1⟩]⟩]
def egM:List Cl:=[⟨1,0,[]⟩,⟨2,0,[]⟩]
theorem qfk:canon egU=egU:=by kernel_rfl
theorem qfl:canon egM=egM:=by kernel_rfl
theorem qcy (id:Int)(h:id=3\/id=4):canon (eg2 id)=eg2 id:=by rcases h with rfl|rfl <;> kernel_rfl
theorem qg5:chk egU=(0,0):=by kernel_rfl
theorem qg6:chk egM=(0,0):=by kernel_rfl
theorem qcz (id:Int)(h:id=3\/id=4):chk (eg2 id)=(0,0):=by rcases h with rfl|rfl <;> kernel_rfl
theorem quj:qcs (eg2 3) (eg2 4)=Y egU:=by kernel_rfl
theorem quk:qky (eg2 3) (eg2 4)=egM:=by kernel_rfl
theorem qoj:q5i egU=1:=by kernel_rfl
theorem qri:qeg 5 (eg2 3) (eg2 4) egM egU 1=[0,0,1,2,2,1]:=by kernel_rfl
theorem qta:q9i 5 (eg2 3) egM egU 1 1 [[1],[4]]=[[4],[1]]:=by kernel_rfl
theorem qtb:(mulM 5 1 (bdP 5 egU 1) [[1],[4]]).flatten.all (fun n=>n == 0)=true:=by kernel_rfl
theorem qul:exB 5 [0,0,1,2,2,1] ((q9j 5 (eg2 3) (eg2 4) egM egU 1).map (Mx.q 5))=true:=by kernel_rfl
theorem qtc:(q9j 5 (eg2 3) (eg2 4) egM egU 1).length=5:=by kernel_rfl
theorem qum:q6v (eg2 3) egU:=fun x hx=>by simp[eg2,egU]at hx ⊢;rcases hx with rfl|rfl|rfl <;> simp
theorem qun:q6v (eg2 4) egU:=fun x hx=>by simp[eg2,egU]at hx ⊢;rcases hx with rfl|rfl|rfl <;> simp
theorem qup:q6v egM (eg2 3):=fun x hx=>by simp[eg2,egM]at hx ⊢;rcases hx with rfl|rfl <;> simp
theorem quq:q6v egM (eg2 4):=fun x hx=>by simp[eg2,egM]at hx ⊢;rcases hx with rfl|rfl <;> simp
theorem qbr {K:List Cl}(h:chk K=(0,0))(hc:canon K=K):Good K:=by
 have:=q0d h
 rwa [hc]at this
theorem qjf:Cov (eg2 3) (eg2 4) egM egU:=⟨qbr (qcz 3 (.inl rfl)) (qcy 3 (.inl rfl)),qbr (qcz 4 (.inr rfl)) (qcy 4 (.inr rfl)),qbr qg6 qfl,qbr qg5 qfk,qcz 3 (.inl rfl),qcz 4 (.inr rfl),qg6,qg5,qum,qun,qup,quq,
 fun x hx=>by simp[eg2,egU]at hx ⊢;rcases hx with rfl|rfl|rfl|rfl <;> simp,fun x h1 h2=>by simp[eg2,egM]at h1 h2 ⊢;rcases h1 with rfl|rfl|rfl <;> simp_all⟩
