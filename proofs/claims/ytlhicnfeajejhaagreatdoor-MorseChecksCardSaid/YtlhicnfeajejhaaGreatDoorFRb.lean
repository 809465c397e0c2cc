/- For every slice of ints, every slice of pairs of ints and every int the law MorseChecks of the package cocyclelaw13 returns true, without a panic, and leaves its arguments as they were: the card of its row is proved. Conditions: none. Written by gen_card.py. -/
import Derived.Test.YtlhicnfeajejhaaGreatDoorFQz
import Derived.Test.YtlhicnfeajejhaaGreatDoorFRa
set_option maxRecDepth 1000000
set_option maxHeartbeats 16000000
namespace Go.Proofs.YtlhicnfeajejhaaGreatDoor.morseChecks
open Go.ChangeShapes Go.WideShapes Go.ChangeAt Go.RowKit Go.Cx Go.Proofs.YtlhicnfeajejhaaGreatDoor
theorem own:ownKnob Tryz.prog.godebug=none:=by kernel_rfl
theorem laidOut:laidOutB Tryz.prog=true:=by kernel_rfl
theorem qi7 (H:Type) (enc:TypeId×Value->H) (W:World) (base:Nat) (args:Array Value) (ds gs:List (DataW H)) (before:List MemPlace)
  (fP:∀ (j:Nat) t v,Tryz.f7.params[j]? = some t->args[j]? = some v->Value.okWide Tryz.prog W .any base t v)
  (hW:DataW.Whole enc Tryz.prog Tryz.f7.params.toList Rows.morseChecksSpec.vars false W args.toList ds gs before) :
  Calls Tryz.prog 7 args W fun e W'=>∃ v,e = .returned v/\Rows.morseChecksSpec.post enc Tryz.prog Tryz.f7 false true false false W args v W':=by
 have lF:=hW;obtain⟨p,q,fi,hV,rfl,Lg,mY⟩:=hW;have hA:DataW.TrodAll enc Tryz.prog W 0 (fun _=>true) true Tryz.f7.params.toList args.toList ds p:=fi;rw[Tryz.params7] at hA fP;obtain⟨v0,Xe,d0,Xf,p0,q0,PV,rfl,rfl,h0,r0⟩:=trodAll_cons hA;obtain⟨v1,Xg,d1,Xh,p1,q1,rfl,rfl,rfl,h1,r1⟩:=trodAll_cons r0;obtain⟨v2,Xi,d2,Xj,p2,q2,rfl,rfl,rfl,h2,r2⟩:=trodAll_cons r1;obtain⟨rfl,rfl,rfl⟩:=trodAll_nil r2;clear r0 r1 r2 hA;obtain rfl:args=#[v0,v1,v2]:=by cases args;simp_all
 obtain⟨rfl,rfl⟩:=trodVars_none hV;clear fi;simp only [List.append_nil] at lF;have hlt:∀ x∈p0++(p1++p2),x.block < W.heap.size:=fun x hx=>by simpa using lF.lt x (by simpa using hx)
 have k0:=h0;have k1:=h1;have k2:=h2;obtain⟨u0,g0⟩:=h0;obtain⟨a0,n0,c0,rfl⟩:=okWide_slice Tryz.underlying22 (fP 0 22 v0 rfl rfl);obtain⟨l0,s0,i0⟩:=qak Tryz.underlying22 g0;obtain⟨u1,g1⟩:=h1;obtain⟨a1,n1,c1,rfl⟩:=okWide_slice Tryz.underlying48 (fP 1 48 v1 rfl rfl);obtain⟨l1,s1,i1⟩:=qgh Tryz.underlying48 Tryz.underlying50 (by kernel_rfl) g1;obtain⟨z2,rfl,i2⟩:=qnh (fP 2 3 v2 rfl rfl) h2;have r0:∀ (v:Value) (d:DataW H) (ps:List MemPlace),DataW.Trod enc Tryz.prog W 0 (fun _=>true) true 22 v d ps->(∀ x∈ps,x.block < W.heap.size)->∀ (W':World),Below W.heap.size W W'->DataW.Trod enc Tryz.prog W' 0 (fun b=>decide (b < W.heap.size)) true 22 v d ps :=
  fun v d ps hk hl W' hn=>Below.trod laidOut (by kernel_rfl) (of_decide_eq_true (by kernel_rfl)) hk hn hl
 have r1:∀ (v:Value) (d:DataW H) (ps:List MemPlace),DataW.Trod enc Tryz.prog W 0 (fun _=>true) true 48 v d ps->(∀ x∈ps,x.block < W.heap.size)->∀ (W':World),Below W.heap.size W W'->DataW.Trod enc Tryz.prog W' 0 (fun b=>decide (b < W.heap.size)) true 48 v d ps :=
  fun v d ps hk hl W' hn=>Below.trod laidOut (by kernel_rfl) (of_decide_eq_true (by kernel_rfl)) hk hn hl
 have r2:∀ (v:Value) (d:DataW H) (ps:List MemPlace),DataW.Trod enc Tryz.prog W 0 (fun _=>true) true 3 v d ps->(∀ x∈ps,x.block < W.heap.size)->∀ (W':World),Below W.heap.size W W'->DataW.Trod enc Tryz.prog W' 0 (fun b=>decide (b < W.heap.size)) true 3 v d ps :=
  fun v d ps hk hl W' hn=>Below.trod laidOut (by kernel_rfl) (of_decide_eq_true (by kernel_rfl)) hk hn hl
 refine(qd0 _ _ l0 l1 z2 W s0 s1 i1 i2).mono fun e W' ⟨he,hb⟩=>?_
 subst he;refine⟨_,rfl,_,_,_,[],p0++(p1++(p2++[])),[],lF,?_,?_,rfl,hb.frame _,fun h=>by cases h⟩
 ·exact trodAll_cons_mk (shut_bool Tryz.underlying4 _) trodAll_mk0
 ·exact trodAll_cons_mk (r0 _ _ _ k0 (fun x hx=>hlt x (by simp[hx])) W' hb) (trodAll_cons_mk (r1 _ _ _ k1 (fun x hx=>hlt x (by simp[hx])) W' hb) (trodAll_cons_mk (r2 _ _ _ k2 (fun x hx=>hlt x (by simp[hx])) W' hb) trodAll_mk0))
def putCells (xs:Array Value):Obj->Obj
 | .cells _ t frozen=>.cells xs t frozen
 | o=>o
def firstCells:Array Value:=(Pinned.utf8FirstZ.map fun n=>Value.int .u8 (n:Nat)).toArray
def qcb:Array Value:=(([128,191,160,191,128,159,144,191,128,143]++List.replicate 22 0).map fun n=>Value.int .u8 (n:Nat)).toArray
noncomputable def q4e (os:Os):World :=
 { World.holding Tryz.prog os ⟨#[],#[],[]⟩ with heap:=((World.holding Tryz.prog os ⟨#[],#[],[]⟩).heap.modify 0 (putCells firstCells)).modify 1 (putCells qcb) }
abbrev q5g:Array Value:=#[.slice none 0 0,.slice none 0 0,.int .i64 0]
theorem qi8 (os:Os):laidMet Tryz.prog Rows.morseChecksRow.laid ((q4e os).forCall (fun _ _=>0) ⟨#[],q5g,[]⟩).memory :=
 laidMet_of_run' 8 (by kernel_rfl) (by kernel_rfl)
theorem reads (os:Os) {H:Type} (enc:TypeId×Value->H):∃ places,DataW.whole enc Tryz.prog ((q4e os).forCall (fun _ _=>0) ⟨#[],q5g,[]⟩).memory Tryz.f7.params.toList Rows.morseChecksSpec.vars false q5g.toList 8=some ([.nil,.nil,.lit (.int .i64 0)],[],places) :=
 ⟨[],by kernel_rfl⟩
theorem lifted (os:Os) (started:os.Started) (H:Type) (enc:TypeId×Value->H) (F:Stop.Interp) :
  ReturnsInHanded {} Tryz.checked os 7 .any ((OpenSpec.ofChange Rows.morseChecksSpec).preRow enc Tryz.prog Tryz.f7 Rows.morseChecksRow.domain false Rows.morseChecksRow.laid) (((OpenSpec.ofChange Rows.morseChecksSpec).at F).post enc Tryz.prog Tryz.f7 false true false false):=by
 obtain⟨places,hx⟩:=reads os enc;refine returnsInHanded_of_row (C:=Tryz.checked) (s:=OpenSpec.ofChange Rows.morseChecksSpec) own started (by kernel_rfl) Tryz.func7
  (witness_row_at (enc:=enc) (C:=Tryz.checked) false (q4e os) q5g rfl (by kernel_rfl) (by kernel_rfl) (by kernel_rfl)
   (OpenSpec.preRow_of_cond 8 hx (by kernel_rfl) (fun k hk=>by cases hk) (by kernel_rfl) (qi8 os))) ?_
 intro W base args ds gs before fP hW _ _ _ _ _ _;exact qi7 H enc W base args ds gs before fP hW
theorem said:Rows.MorseChecksSaid :=
 OpenClaim.holds_of_cond 7 Tryz.f7 rfl rfl rfl rfl rfl rfl rfl ⟨rfl,rfl,rfl,rfl,rfl⟩ rfl rfl rfl rfl rfl (by kernel_rfl) Tryz.func7 closed
  (of_decide_eq_true (by kernel_rfl)) (by unfold Func.isWrapper;first | (rw[if_pos (by decide +kernel)];kernel_rfl) | (rw[if_neg (by decide +kernel)];exact⟨rfl,rfl⟩))
  (fun os started H enc _ F=>by rw[OpenClaim.pre_eq_preRow];exact lifted os started H enc F)
theorem plain (f:FuncId) (fn:Func) (hf:Tryz.pinned.checked.prog.funcNamed Tryz.f7.name=some f) (UT:Tryz.pinned.checked.prog.funcs[f]? = some fn) :
  false=Tryz.pinned.checked.prog.looks []/\∀ (j:Nat) t,fn.params[j]? = some t->Tryz.pinned.checked.prog.wantsStandIn t=false:=by
 obtain rfl:f=7:=osi ((show Tryz.prog.funcNamed Tryz.f7.name=some 7 by kernel_rfl).symm.trans hf) |>.symm
 obtain rfl:fn=Tryz.f7:=(osi (Tryz.func7.symm.trans UT)).symm;refine⟨by kernel_rfl,fun j t ht=>?_⟩;rw[Tryz.params7] at ht;obtain rfl | rfl | rfl:t=22\/t=48\/t=3:=by have:=Array.mem_of_getElem? ht;simp at this;omega
 ·exact(show Tryz.prog.wantsStandIn 22=false by kernel_rfl)
 ·exact(show Tryz.prog.wantsStandIn 48=false by kernel_rfl)
 ·exact(show Tryz.prog.wantsStandIn 3=false by kernel_rfl)
theorem card:Rows.MorseChecksCardSaid :=
 Claim7.holds_tied_plain_at .later [] _ _ _ _ said (fun _ h=>by cases h) (by kernel_rfl) (fun _ h=>by cases h) morseChecks_row_tie rfl ⟨rfl,rfl⟩ (by kernel_rfl) rfl plain (by kernel_rfl)
end Go.Proofs.YtlhicnfeajejhaaGreatDoor.morseChecks
