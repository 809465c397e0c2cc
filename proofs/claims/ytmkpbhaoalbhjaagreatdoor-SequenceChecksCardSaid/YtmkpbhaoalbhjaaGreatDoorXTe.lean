/- The card of SequenceChecks: cocyclelaw19.SequenceChecks returns true for every number p, all dimensions and all numbers of the matrices. Conditions: none. -/
import Derived.Deep.DeepHandedRow
import Derived.Lib.LaidTab
import Derived.Test.YtmkpbhaoalbhjaaGreatDoorCards
import Derived.Test.YtmkpbhaoalbhjaaGreatDoorTie
import Derived.Test.YtmkpbhaoalbhjaaGreatDoorXTc
set_option maxRecDepth 1000000
set_option maxHeartbeats 0
open Go.Value renaming slice→O,int→H
open Option renaming none→Z,some→Y
open Go.IntKind renaming i64→φ
open Go renaming World→δ,Value→ε
namespace Go.Proofs.YtmkpbhaoalbhjaaGreatDoor.sequenceChecks
open Go.ChangeShapes Go.WideShapes Go.ChangeAt Go.RowKit Go.Proofs.YtmkpbhaoalbhjaaGreatDoor
theorem closed:joinedFacts Tryz.pinned.checked.prog 3 Tryz.f3 (OpenSpec.ofChange Rows.sequenceChecksSpec).bare Rows.sequenceChecksRow=true:=by kernel_rfl
open Go.Cx
theorem own:ownKnob Tryz.prog.godebug=none:=by kernel_rfl
theorem laidOut:laidOutB Tryz.prog=true:=by kernel_rfl
theorem qi7 (Eq:Type)(enc:TypeId×ε->Eq)(W:δ)(base:Nat)(args:Array ε)(ds gs:List (DataW Eq))(before:List MemPlace)
  (iU:∀(j:Nat) t v,Tryz.f3.params[j]? =Y t->args[j]? =Y v->Value.okWide Tryz.prog W .any base t v)
  (hW:DataW.Whole enc Tryz.prog Tryz.f3.params.toList Rows.sequenceChecksSpec.vars false W args.toList ds gs before) :
  Calls Tryz.prog 3 args W fun e W'=>∃v,e=.returned v/\Rows.sequenceChecksSpec.post enc Tryz.prog Tryz.f3 false true false false W args v W':=by
 have MY:=hW;obtain⟨p,q,Gb,hV,rfl,cL,oR⟩:=hW;have hA:DataW.TrodAll enc Tryz.prog W 0 (fun _=>true) true Tryz.f3.params.toList args.toList ds p:=Gb;rw[Tryz.params3]at hA iU;obtain⟨v0,Yg,d0,Yh,p0,q0,QS,rfl,rfl,h0,r0⟩:=trodAll_cons hA;obtain⟨v1,Yi,d1,Yj,p1,q1,rfl,rfl,rfl,h1,r1⟩:=trodAll_cons r0;obtain⟨v2,Yk,d2,Yl,p2,q2,rfl,rfl,rfl,h2,r2⟩:=trodAll_cons r1;obtain⟨rfl,rfl,rfl⟩:=trodAll_nil r2;clear r0 r1 r2 hA;obtain rfl:args=#[v0,v1,v2]:=by cases args;simp_all
 obtain⟨rfl,rfl⟩:=trodVars_none hV;clear Gb;simp only [List.append_nil]at MY;have ak:∀x∈p0++(p1++p2),x.block<W:=fun x hx=>by simpa using MY.lt x (by simpa using hx)
 have k0:=h0;have k1:=h1;have k2:=h2;obtain⟨z0,rfl,i0⟩:=qnu (iU 0 3 v0 rfl rfl) h0;obtain⟨u1,g1⟩:=h1;obtain⟨a1,n1,c1,rfl⟩:=okWide_slice Tryz.underlying22 (iU 1 22 v1 rfl rfl);obtain⟨l1,s1,i1⟩:=qns Tryz.underlying22 Tryz.underlying5 (by kernel_rfl) g1;obtain⟨u2,g2⟩:=h2;obtain⟨a2,n2,c2,rfl⟩:=okWide_slice Tryz.underlying23 (iU 2 23 v2 rfl rfl);obtain⟨l2,s2,i2⟩:=qak Tryz.underlying23 g2;have r0:∀(v:ε) (d:DataW Eq) (ps:List MemPlace),DataW.Trod enc Tryz.prog W 0 (fun _=>true) true 3 v d ps->(∀x∈ps,x.block<W)->∀(W':δ),Below W W W'->DataW.Trod enc Tryz.prog W' 0 (fun b=>decide (b<W)) true 3 v d ps :=
  fun v d ps hk hl W' hn=>Below.trod laidOut (by kernel_rfl) (of_decide_eq_true (by kernel_rfl)) hk hn hl
 have r1:∀(v:ε) (d:DataW Eq) (ps:List MemPlace),DataW.Trod enc Tryz.prog W 0 (fun _=>true) true 22 v d ps->(∀x∈ps,x.block<W)->∀(W':δ),Below W W W'->DataW.Trod enc Tryz.prog W' 0 (fun b=>decide (b<W)) true 22 v d ps :=
  fun v d ps hk hl W' hn=>Below.trod laidOut (by kernel_rfl) (of_decide_eq_true (by kernel_rfl)) hk hn hl
 have r2:∀(v:ε) (d:DataW Eq) (ps:List MemPlace),DataW.Trod enc Tryz.prog W 0 (fun _=>true) true 23 v d ps->(∀x∈ps,x.block<W)->∀(W':δ),Below W W W'->DataW.Trod enc Tryz.prog W' 0 (fun b=>decide (b<W)) true 23 v d ps :=
  fun v d ps hk hl W' hn=>Below.trod laidOut (by kernel_rfl) (of_decide_eq_true (by kernel_rfl)) hk hn hl
 refine(qj6 z0 _ _ l1 l2 W i0 s1 i1 s2 i2).mono fun e W' ⟨he,hb⟩=>?_
 subst he;refine⟨_,rfl,_,_,_,[],p0++(p1++(p2++[])),[],MY,?_,?_,rfl,hb.frame _,fun h=>by cases h⟩
 ·exact trodAll_cons_mk (shut_bool Tryz.underlying4 _) trodAll_mk0
 ·exact trodAll_cons_mk (r0 _ _ _ k0 (fun x hx=>ak x (by simp[hx])) W' hb) (trodAll_cons_mk (r1 _ _ _ k1 (fun x hx=>ak x (by simp[hx])) W' hb) (trodAll_cons_mk (r2 _ _ _ k2 (fun x hx=>ak x (by simp[hx])) W' hb) trodAll_mk0))
def putCells (xs:Array ε):Obj->Obj
 | .cells _ t frozen=>.cells xs t frozen
 |o=>o
def firstCells:Array Value:=(Pinned.utf8FirstZ.map fun n=>H .u8 (n:Nat)).toArray
def qcb:Array Value:=(([128,191,160,191,128,159,144,191,128,143]++List.replicate 22 0).map fun n=>H .u8 (n:Nat)).toArray
noncomputable def q4e (os:Os):δ :=
 { World.holding Tryz.prog os ⟨#[],#[],[]⟩with heap:=((World.holding Tryz.prog os ⟨#[],#[],[]⟩).heap.modify 0 (putCells firstCells)).modify 1 (putCells qcb) }
abbrev q5g:Array Value:=#[H φ 0,O Z 0 0,O Z 0 0]
theorem qi8 (os:Os):laidMet Tryz.prog Rows.sequenceChecksRow.laid ((q4e os).forCall (fun _ _=>0) ⟨#[],q5g,[]⟩).memory :=
 laidMet_of_run' 8 (by kernel_rfl) (by kernel_rfl)
theorem reads (os:Os){Eq:Type}(enc:TypeId×Value->Eq):∃places,DataW.whole enc Tryz.prog ((q4e os).forCall (fun _ _=>0) ⟨#[],q5g,[]⟩).memory Tryz.f3.params.toList Rows.sequenceChecksSpec.vars false q5g.toList 8=some ([.lit (.int .i64 0),.nil,.nil],[],places) :=
 ⟨[],by kernel_rfl⟩
theorem lifted (os:Os)(started:os.Started)(Eq:Type)(enc:TypeId×Value->Eq)(F:Stop.Interp) :
  ReturnsInHanded {} Tryz.checked os 3 .any ((OpenSpec.ofChange Rows.sequenceChecksSpec).preRow enc Tryz.prog Tryz.f3 Rows.sequenceChecksRow.domain false Rows.sequenceChecksRow.laid) (((OpenSpec.ofChange Rows.sequenceChecksSpec).at F).post enc Tryz.prog Tryz.f3 false true false false):=by
 obtain⟨places,hx⟩:=reads os enc;refine returnsInHanded_of_row (C:=Tryz.checked) (s:=OpenSpec.ofChange Rows.sequenceChecksSpec) own started (by kernel_rfl) Tryz.func3
  (witness_row_at (enc:=enc) (C:=Tryz.checked) false (q4e os) q5g rfl (by kernel_rfl) (by kernel_rfl) (by kernel_rfl)
   (OpenSpec.preRow_of_cond 8 hx (by kernel_rfl) (fun k hk=>by cases hk) (by kernel_rfl) (qi8 os))) ?_
 intro W base args ds gs before iU hW _ _ _ _ _ _;exact qi7 Eq enc W base args ds gs before iU hW
theorem said:Rows.SequenceChecksSaid :=
 OpenClaim.holds_of_cond 3 Tryz.f3 rfl rfl rfl rfl rfl rfl rfl ⟨rfl,rfl,rfl,rfl,rfl⟩ rfl rfl rfl rfl rfl (by kernel_rfl) Tryz.func3 closed
  (of_decide_eq_true (by kernel_rfl)) (by unfold Func.isWrapper;first|(rw[if_pos (by decide +kernel)];kernel_rfl)|(rw[if_neg (by decide +kernel)];exact⟨rfl,rfl⟩))
  (fun os started Eq enc _ F=>by rw[OpenClaim.pre_eq_preRow];exact lifted os started Eq enc F)
theorem plain (f:FuncId)(fn:Func)(hf:Tryz.pinned.checked.prog.funcNamed Tryz.f3.name=Y f)(WE:Tryz.pinned.checked.prog.funcs[f]? =Y fn) :
  false=Tryz.pinned.checked.prog.looks []/\∀(j:Nat) t,fn.params[j]? =Y t->Tryz.pinned.checked.prog.wantsStandIn t=false:=by
 obtain rfl:f=3:=osi ((show Tryz.prog.funcNamed Tryz.f3.name=Y 3 by kernel_rfl).symm.trans hf) |>.symm
 obtain rfl:fn=Tryz.f3:=(osi (Tryz.func3.symm.trans WE)).symm;refine⟨by kernel_rfl,fun j t ht=>?_⟩;rw[Tryz.params3]at ht;obtain rfl|rfl|rfl:t=3\/t=22\/t=23:=by have:=Array.mem_of_getElem? ht;simp at this;omega
 ·exact(show Tryz.prog.wantsStandIn 3=false by kernel_rfl)
 ·exact(show Tryz.prog.wantsStandIn 22=false by kernel_rfl)
 ·exact(show Tryz.prog.wantsStandIn 23=false by kernel_rfl)
theorem card:Rows.SequenceChecksCardSaid :=
 Claim7.holds_tied_plain_at .later [] _ _ _ _ said (fun _ h=>by cases h) (by kernel_rfl) (fun _ h=>by cases h) sequenceChecks_row_tie rfl ⟨rfl,rfl⟩ (by kernel_rfl) rfl plain (by kernel_rfl)
