/- Steps towards SequenceChecks. Conditions: none. -/
import Derived.BigQuiet
import Derived.Lib.Hide
import Derived.Test.YtmkpbhaoalbhjaaGreatDoorProg
import Derived.WalkLawsBesides
import Derived.WalkSpells
set_option maxRecDepth 1000000
set_option maxHeartbeats 0
open Go.Value renaming slice→O,agg→I,bool→τ,int→H,string→ω
open Option renaming none→Z,some→Y
open Go.IntKind renaming i64→φ
open Go renaming World→δ,Value→ε
instance:Coe Nat Go.Addr:=⟨fun n=>⟨n,0,Z⟩⟩
instance:Coe Go.World Nat:=⟨fun w=>w.heap.size⟩
instance:Coe Int Go.Value:=⟨fun x=>H φ x⟩
instance:Coe Nat Go.Value:=⟨fun n=>H φ (n:Int)⟩
instance:CoeFun Go.World (fun _=>Go.Addr->Option Go.Value):=⟨Go.World.cell?⟩
instance:CoeFun Go.Act (fun _=>Nat->Go.Value->Go.Value):=⟨fun a=>a.tmps.getD⟩
theorem qw3 {α β:Type}{p:Prop}{A:Nat->α->Prop}{B:α->β->Prop}{C F:Nat->α->β->Prop}(hd:∀i o v,A i o->B o v->C i o v->p->F i o v)(i:Nat){o:α}{v:β}(hb:p)(h1:A i o:=by exact rfl)(h2:B o v:=by exact rfl)(h3:C i o v:=by kernel_rfl):F i o v:=hd i o v h1 h2 h3 hb
theorem zf {α β:Type}{A:Nat->α->Prop}{B:α->β->Prop}{C F:Nat->α->β->Prop}(hd:∀i o v,A i o->B o v->C i o v->F i o v)(i:Nat){o:α}{v:β}(h1:A i o:=by exact rfl)(h2:B o v:=by exact rfl)(h3:C i o v:=by kernel_rfl):F i o v:=hd i o v h1 h2 h3
theorem j8 {α β γ:Type}{A:Nat->α->Prop}{B:α->β->Prop}{C D:Nat->α->β->Prop}{E:Nat->γ->Prop}{F:Nat->α->β->γ->Prop}(hd:∀i o v,A i o->B o v->C i o v->D i o v->∀u,E i u->F i o v u)(i:Nat){o:α}{v:β}{u:γ}(h1:A i o:=by exact rfl)(h2:B o v:=by exact rfl)(h3:C i o v:=by kernel_rfl)(h4:D i o v:=by kernel_rfl)(h5:E i u:=by exact rfl):F i o v u:=hd i o v h1 h2 h3 h4 u h5
theorem j7 {X P:Prop}{b:Bool}{C:List (Nat×Nat)}{n:Nat}{Q:Nat×Nat->Prop}(h:X)(h1:b=false)(h2:C.all (fun c=>c.1 != n)=true):X/\(b=true->P)/\∀c∈C,c.1=n->Q c:=⟨h,fun e=>(by rw[h1]at e;cases e),fun c hc e=>(by have:=List.all_eq_true.1 h2 c hc;simp[e]at this)⟩
theorem gone {α β γ:Type}{f:α->β}{x:α}{E:Option α}{w:γ}(h:E=Y x):∃v,f x=f v/\(∀u,E=Y u->v=u)/\w=w:=⟨x,rfl,fun _ hu=>Option.some.inj (h.symm.trans hu),rfl⟩
theorem zr {D F:Nat->Prop}{c:Nat->Bool}(sp:∀ {s:Nat},c s=true->D s)(h:∀s,D s->F s)(s:Nat)(k:c s=true:=by kernel_rfl):F s:=h s (sp k)
theorem jb {p q:Prop}(h:p->q)(k:p:=by kernel_rfl):q:=h k
theorem x4 {α:Sort _}(a:α):∃x,x=a:=⟨a,rfl⟩
theorem Go.RowKit.Hid.a0 { q r:Prop}(h:Go.RowKit.Hid (q/\r)):q:=h.out.1
theorem Go.RowKit.Hid.b1 {p0 r:Prop}(h:Go.RowKit.Hid (p0/\r)):r:=h.out.2
theorem Go.RowKit.Hid.a1 {p0 q r:Prop}(h:Go.RowKit.Hid (p0/\q/\r)):q:=h.out.2.1
theorem Go.RowKit.Hid.b2 {p0 p1 r:Prop}(h:Go.RowKit.Hid (p0/\p1/\r)):r:=h.out.2.2
theorem Go.RowKit.Hid.a2 {p0 p1 q r:Prop}(h:Go.RowKit.Hid (p0/\p1/\q/\r)):q:=h.out.2.2.1
theorem Go.RowKit.Hid.b3 {p0 p1 p2 r:Prop}(h:Go.RowKit.Hid (p0/\p1/\p2/\r)):r:=h.out.2.2.2
theorem Go.RowKit.Hid.a3 {p0 p1 p2 q r:Prop}(h:Go.RowKit.Hid (p0/\p1/\p2/\q/\r)):q:=h.out.2.2.2.1
theorem Go.RowKit.Hid.b4 {p0 p1 p2 p3 r:Prop}(h:Go.RowKit.Hid (p0/\p1/\p2/\p3/\r)):r:=h.out.2.2.2.2
theorem Go.RowKit.Hid.a4 {p0 p1 p2 p3 q r:Prop}(h:Go.RowKit.Hid (p0/\p1/\p2/\p3/\q/\r)):q:=h.out.2.2.2.2.1
theorem Go.RowKit.Hid.b5 {p0 p1 p2 p3 p4 r:Prop}(h:Go.RowKit.Hid (p0/\p1/\p2/\p3/\p4/\r)):r:=h.out.2.2.2.2.2
theorem Go.RowKit.Hid.a5 {p0 p1 p2 p3 p4 q r:Prop}(h:Go.RowKit.Hid (p0/\p1/\p2/\p3/\p4/\q/\r)):q:=h.out.2.2.2.2.2.1
theorem Go.RowKit.Hid.b6 {p0 p1 p2 p3 p4 p5 r:Prop}(h:Go.RowKit.Hid (p0/\p1/\p2/\p3/\p4/\p5/\r)):r:=h.out.2.2.2.2.2.2
theorem Go.RowKit.Hid.a6 {p0 p1 p2 p3 p4 p5 q r:Prop}(h:Go.RowKit.Hid (p0/\p1/\p2/\p3/\p4/\p5/\q/\r)):q:=h.out.2.2.2.2.2.2.1
theorem Go.RowKit.Hid.b7 {p0 p1 p2 p3 p4 p5 p6 r:Prop}(h:Go.RowKit.Hid (p0/\p1/\p2/\p3/\p4/\p5/\p6/\r)):r:=h.out.2.2.2.2.2.2.2
theorem Go.RowKit.Hid.a7 {p0 p1 p2 p3 p4 p5 p6 q r:Prop}(h:Go.RowKit.Hid (p0/\p1/\p2/\p3/\p4/\p5/\p6/\q/\r)):q:=h.out.2.2.2.2.2.2.2.1
theorem Go.RowKit.Hid.b8 {p0 p1 p2 p3 p4 p5 p6 p7 r:Prop}(h:Go.RowKit.Hid (p0/\p1/\p2/\p3/\p4/\p5/\p6/\p7/\r)):r:=h.out.2.2.2.2.2.2.2.2
theorem Go.RowKit.Hid.a8 {p0 p1 p2 p3 p4 p5 p6 p7 q r:Prop}(h:Go.RowKit.Hid (p0/\p1/\p2/\p3/\p4/\p5/\p6/\p7/\q/\r)):q:=h.out.2.2.2.2.2.2.2.2.1
theorem Go.RowKit.Hid.b9 {p0 p1 p2 p3 p4 p5 p6 p7 p8 r:Prop}(h:Go.RowKit.Hid (p0/\p1/\p2/\p3/\p4/\p5/\p6/\p7/\p8/\r)):r:=h.out.2.2.2.2.2.2.2.2.2
theorem Go.RowKit.Hid.a9 {p0 p1 p2 p3 p4 p5 p6 p7 p8 q r:Prop}(h:Go.RowKit.Hid (p0/\p1/\p2/\p3/\p4/\p5/\p6/\p7/\p8/\q/\r)):q:=h.out.2.2.2.2.2.2.2.2.2.1
theorem Go.RowKit.Hid.b10 {p0 p1 p2 p3 p4 p5 p6 p7 p8 p9 r:Prop}(h:Go.RowKit.Hid (p0/\p1/\p2/\p3/\p4/\p5/\p6/\p7/\p8/\p9/\r)):r:=h.out.2.2.2.2.2.2.2.2.2.2
theorem Go.RowKit.Hid.a10 {p0 p1 p2 p3 p4 p5 p6 p7 p8 p9 q r:Prop}(h:Go.RowKit.Hid (p0/\p1/\p2/\p3/\p4/\p5/\p6/\p7/\p8/\p9/\q/\r)):q:=h.out.2.2.2.2.2.2.2.2.2.2.1
theorem Go.RowKit.Hid.b11 {p0 p1 p2 p3 p4 p5 p6 p7 p8 p9 p10 r:Prop}(h:Go.RowKit.Hid (p0/\p1/\p2/\p3/\p4/\p5/\p6/\p7/\p8/\p9/\p10/\r)):r:=h.out.2.2.2.2.2.2.2.2.2.2.2
theorem Go.RowKit.Hid.a11 {p0 p1 p2 p3 p4 p5 p6 p7 p8 p9 p10 q r:Prop}(h:Go.RowKit.Hid (p0/\p1/\p2/\p3/\p4/\p5/\p6/\p7/\p8/\p9/\p10/\q/\r)):q:=h.out.2.2.2.2.2.2.2.2.2.2.2.1
theorem Go.RowKit.Hid.b12 {p0 p1 p2 p3 p4 p5 p6 p7 p8 p9 p10 p11 r:Prop}(h:Go.RowKit.Hid (p0/\p1/\p2/\p3/\p4/\p5/\p6/\p7/\p8/\p9/\p10/\p11/\r)):r:=h.out.2.2.2.2.2.2.2.2.2.2.2.2
theorem Go.RowKit.Hid.a12 {p0 p1 p2 p3 p4 p5 p6 p7 p8 p9 p10 p11 q r:Prop}(h:Go.RowKit.Hid (p0/\p1/\p2/\p3/\p4/\p5/\p6/\p7/\p8/\p9/\p10/\p11/\q/\r)):q:=h.out.2.2.2.2.2.2.2.2.2.2.2.2.1
theorem Go.RowKit.Hid.b13 {p0 p1 p2 p3 p4 p5 p6 p7 p8 p9 p10 p11 p12 r:Prop}(h:Go.RowKit.Hid (p0/\p1/\p2/\p3/\p4/\p5/\p6/\p7/\p8/\p9/\p10/\p11/\p12/\r)):r:=h.out.2.2.2.2.2.2.2.2.2.2.2.2.2
theorem Go.RowKit.Hid.a13 {p0 p1 p2 p3 p4 p5 p6 p7 p8 p9 p10 p11 p12 q r:Prop}(h:Go.RowKit.Hid (p0/\p1/\p2/\p3/\p4/\p5/\p6/\p7/\p8/\p9/\p10/\p11/\p12/\q/\r)):q:=h.out.2.2.2.2.2.2.2.2.2.2.2.2.2.1
theorem Go.RowKit.Hid.b14 {p0 p1 p2 p3 p4 p5 p6 p7 p8 p9 p10 p11 p12 p13 r:Prop}(h:Go.RowKit.Hid (p0/\p1/\p2/\p3/\p4/\p5/\p6/\p7/\p8/\p9/\p10/\p11/\p12/\p13/\r)):r:=h.out.2.2.2.2.2.2.2.2.2.2.2.2.2.2
theorem Go.RowKit.Hid.a14 {p0 p1 p2 p3 p4 p5 p6 p7 p8 p9 p10 p11 p12 p13 q r:Prop}(h:Go.RowKit.Hid (p0/\p1/\p2/\p3/\p4/\p5/\p6/\p7/\p8/\p9/\p10/\p11/\p12/\p13/\q/\r)):q:=h.out.2.2.2.2.2.2.2.2.2.2.2.2.2.2.1
theorem Go.RowKit.Hid.b15 {p0 p1 p2 p3 p4 p5 p6 p7 p8 p9 p10 p11 p12 p13 p14 r:Prop}(h:Go.RowKit.Hid (p0/\p1/\p2/\p3/\p4/\p5/\p6/\p7/\p8/\p9/\p10/\p11/\p12/\p13/\p14/\r)):r:=h.out.2.2.2.2.2.2.2.2.2.2.2.2.2.2.2
theorem Go.RowKit.Hid.a15 {p0 p1 p2 p3 p4 p5 p6 p7 p8 p9 p10 p11 p12 p13 p14 q r:Prop}(h:Go.RowKit.Hid (p0/\p1/\p2/\p3/\p4/\p5/\p6/\p7/\p8/\p9/\p10/\p11/\p12/\p13/\p14/\q/\r)):q:=h.out.2.2.2.2.2.2.2.2.2.2.2.2.2.2.2.1
theorem Go.RowKit.Hid.b16 {p0 p1 p2 p3 p4 p5 p6 p7 p8 p9 p10 p11 p12 p13 p14 p15 r:Prop}(h:Go.RowKit.Hid (p0/\p1/\p2/\p3/\p4/\p5/\p6/\p7/\p8/\p9/\p10/\p11/\p12/\p13/\p14/\p15/\r)):r:=h.out.2.2.2.2.2.2.2.2.2.2.2.2.2.2.2.2
theorem Go.RowKit.Hid.a16 {p0 p1 p2 p3 p4 p5 p6 p7 p8 p9 p10 p11 p12 p13 p14 p15 q r:Prop}(h:Go.RowKit.Hid (p0/\p1/\p2/\p3/\p4/\p5/\p6/\p7/\p8/\p9/\p10/\p11/\p12/\p13/\p14/\p15/\q/\r)):q:=h.out.2.2.2.2.2.2.2.2.2.2.2.2.2.2.2.2.1
theorem Go.RowKit.Hid.b17 {p0 p1 p2 p3 p4 p5 p6 p7 p8 p9 p10 p11 p12 p13 p14 p15 p16 r:Prop}(h:Go.RowKit.Hid (p0/\p1/\p2/\p3/\p4/\p5/\p6/\p7/\p8/\p9/\p10/\p11/\p12/\p13/\p14/\p15/\p16/\r)):r:=h.out.2.2.2.2.2.2.2.2.2.2.2.2.2.2.2.2.2
theorem Go.RowKit.Hid.a17 {p0 p1 p2 p3 p4 p5 p6 p7 p8 p9 p10 p11 p12 p13 p14 p15 p16 q r:Prop}(h:Go.RowKit.Hid (p0/\p1/\p2/\p3/\p4/\p5/\p6/\p7/\p8/\p9/\p10/\p11/\p12/\p13/\p14/\p15/\p16/\q/\r)):q:=h.out.2.2.2.2.2.2.2.2.2.2.2.2.2.2.2.2.2.1
theorem Go.RowKit.Hid.b18 {p0 p1 p2 p3 p4 p5 p6 p7 p8 p9 p10 p11 p12 p13 p14 p15 p16 p17 r:Prop}(h:Go.RowKit.Hid (p0/\p1/\p2/\p3/\p4/\p5/\p6/\p7/\p8/\p9/\p10/\p11/\p12/\p13/\p14/\p15/\p16/\p17/\r)):r:=h.out.2.2.2.2.2.2.2.2.2.2.2.2.2.2.2.2.2.2
theorem Go.RowKit.Hid.a18 {p0 p1 p2 p3 p4 p5 p6 p7 p8 p9 p10 p11 p12 p13 p14 p15 p16 p17 q r:Prop}(h:Go.RowKit.Hid (p0/\p1/\p2/\p3/\p4/\p5/\p6/\p7/\p8/\p9/\p10/\p11/\p12/\p13/\p14/\p15/\p16/\p17/\q/\r)):q:=h.out.2.2.2.2.2.2.2.2.2.2.2.2.2.2.2.2.2.2.1
theorem q9 {n:Nat}{w:Go.World} : Go.RowKit.Below n w w:=Go.RowKit.Below.refl _ _
theorem jg {p0 p1:Prop}(h0:p0)(h1:p1):Go.RowKit.Hid (p0/\p1):=Go.Lib.hid ⟨h0,h1⟩
theorem yh {p0 p1 p2:Prop}(h0:p0)(h1:p1)(h2:p2):Go.RowKit.Hid (p0/\p1/\p2):=Go.Lib.hid ⟨h0,h1,h2⟩
theorem yt {p0 p1 p2 p3:Prop}(h0:p0)(h1:p1)(h2:p2)(h3:p3):Go.RowKit.Hid (p0/\p1/\p2/\p3):=Go.Lib.hid ⟨h0,h1,h2,h3⟩
theorem kg {p0 p1 p2 p3 p4:Prop}(h0:p0)(h1:p1)(h2:p2)(h3:p3)(h4:p4):Go.RowKit.Hid (p0/\p1/\p2/\p3/\p4):=Go.Lib.hid ⟨h0,h1,h2,h3,h4⟩
theorem kp {p0 p1 p2 p3 p4 p5:Prop}(h0:p0)(h1:p1)(h2:p2)(h3:p3)(h4:p4)(h5:p5):Go.RowKit.Hid (p0/\p1/\p2/\p3/\p4/\p5):=Go.Lib.hid ⟨h0,h1,h2,h3,h4,h5⟩
theorem q4q {p0 p1 p2 p3 p4 p5 p6:Prop}(h0:p0)(h1:p1)(h2:p2)(h3:p3)(h4:p4)(h5:p5)(h6:p6):Go.RowKit.Hid (p0/\p1/\p2/\p3/\p4/\p5/\p6):=Go.Lib.hid ⟨h0,h1,h2,h3,h4,h5,h6⟩
theorem q5h {p0 p1 p2 p3 p4 p5 p6 p7:Prop}(h0:p0)(h1:p1)(h2:p2)(h3:p3)(h4:p4)(h5:p5)(h6:p6)(h7:p7):Go.RowKit.Hid (p0/\p1/\p2/\p3/\p4/\p5/\p6/\p7):=Go.Lib.hid ⟨h0,h1,h2,h3,h4,h5,h6,h7⟩
theorem qan {p0 p1 p2 p3 p4 p5 p6 p7 p8:Prop}(h0:p0)(h1:p1)(h2:p2)(h3:p3)(h4:p4)(h5:p5)(h6:p6)(h7:p7)(h8:p8):Go.RowKit.Hid (p0/\p1/\p2/\p3/\p4/\p5/\p6/\p7/\p8):=Go.Lib.hid ⟨h0,h1,h2,h3,h4,h5,h6,h7,h8⟩
theorem q93 {p0 p1 p2 p3 p4 p5 p6 p7 p8 p9:Prop}(h0:p0)(h1:p1)(h2:p2)(h3:p3)(h4:p4)(h5:p5)(h6:p6)(h7:p7)(h8:p8)(h9:p9):Go.RowKit.Hid (p0/\p1/\p2/\p3/\p4/\p5/\p6/\p7/\p8/\p9):=Go.Lib.hid ⟨h0,h1,h2,h3,h4,h5,h6,h7,h8,h9⟩
theorem qb4 {p0 p1 p2 p3 p4 p5 p6 p7 p8 p9 p10:Prop}(h0:p0)(h1:p1)(h2:p2)(h3:p3)(h4:p4)(h5:p5)(h6:p6)(h7:p7)(h8:p8)(h9:p9)(h10:p10):Go.RowKit.Hid (p0/\p1/\p2/\p3/\p4/\p5/\p6/\p7/\p8/\p9/\p10):=Go.Lib.hid ⟨h0,h1,h2,h3,h4,h5,h6,h7,h8,h9,h10⟩
theorem qnt {p0 p1 p2 p3 p4 p5 p6 p7 p8 p9 p10 p11:Prop}(h0:p0)(h1:p1)(h2:p2)(h3:p3)(h4:p4)(h5:p5)(h6:p6)(h7:p7)(h8:p8)(h9:p9)(h10:p10)(h11:p11):Go.RowKit.Hid (p0/\p1/\p2/\p3/\p4/\p5/\p6/\p7/\p8/\p9/\p10/\p11):=Go.Lib.hid ⟨h0,h1,h2,h3,h4,h5,h6,h7,h8,h9,h10,h11⟩
theorem qsr {p0 p1 p2 p3 p4 p5 p6 p7 p8 p9 p10 p11 p12:Prop}(h0:p0)(h1:p1)(h2:p2)(h3:p3)(h4:p4)(h5:p5)(h6:p6)(h7:p7)(h8:p8)(h9:p9)(h10:p10)(h11:p11)(h12:p12):Go.RowKit.Hid (p0/\p1/\p2/\p3/\p4/\p5/\p6/\p7/\p8/\p9/\p10/\p11/\p12):=Go.Lib.hid ⟨h0,h1,h2,h3,h4,h5,h6,h7,h8,h9,h10,h11,h12⟩
theorem qhs {p0 p1 p2 p3 p4 p5 p6 p7 p8 p9 p10 p11 p12 p13:Prop}(h0:p0)(h1:p1)(h2:p2)(h3:p3)(h4:p4)(h5:p5)(h6:p6)(h7:p7)(h8:p8)(h9:p9)(h10:p10)(h11:p11)(h12:p12)(h13:p13):Go.RowKit.Hid (p0/\p1/\p2/\p3/\p4/\p5/\p6/\p7/\p8/\p9/\p10/\p11/\p12/\p13):=Go.Lib.hid ⟨h0,h1,h2,h3,h4,h5,h6,h7,h8,h9,h10,h11,h12,h13⟩
theorem qvz {p0 p1 p2 p3 p4 p5 p6 p7 p8 p9 p10 p11 p12 p13 p14:Prop}(h0:p0)(h1:p1)(h2:p2)(h3:p3)(h4:p4)(h5:p5)(h6:p6)(h7:p7)(h8:p8)(h9:p9)(h10:p10)(h11:p11)(h12:p12)(h13:p13)(h14:p14):Go.RowKit.Hid (p0/\p1/\p2/\p3/\p4/\p5/\p6/\p7/\p8/\p9/\p10/\p11/\p12/\p13/\p14):=Go.Lib.hid ⟨h0,h1,h2,h3,h4,h5,h6,h7,h8,h9,h10,h11,h12,h13,h14⟩
theorem qw0 {p0 p1 p2 p3 p4 p5 p6 p7 p8 p9 p10 p11 p12 p13 p14 p15:Prop}(h0:p0)(h1:p1)(h2:p2)(h3:p3)(h4:p4)(h5:p5)(h6:p6)(h7:p7)(h8:p8)(h9:p9)(h10:p10)(h11:p11)(h12:p12)(h13:p13)(h14:p14)(h15:p15):Go.RowKit.Hid (p0/\p1/\p2/\p3/\p4/\p5/\p6/\p7/\p8/\p9/\p10/\p11/\p12/\p13/\p14/\p15):=Go.Lib.hid ⟨h0,h1,h2,h3,h4,h5,h6,h7,h8,h9,h10,h11,h12,h13,h14,h15⟩
theorem qw1 {p0 p1 p2 p3 p4 p5 p6 p7 p8 p9 p10 p11 p12 p13 p14 p15 p16:Prop}(h0:p0)(h1:p1)(h2:p2)(h3:p3)(h4:p4)(h5:p5)(h6:p6)(h7:p7)(h8:p8)(h9:p9)(h10:p10)(h11:p11)(h12:p12)(h13:p13)(h14:p14)(h15:p15)(h16:p16):Go.RowKit.Hid (p0/\p1/\p2/\p3/\p4/\p5/\p6/\p7/\p8/\p9/\p10/\p11/\p12/\p13/\p14/\p15/\p16):=Go.Lib.hid ⟨h0,h1,h2,h3,h4,h5,h6,h7,h8,h9,h10,h11,h12,h13,h14,h15,h16⟩
theorem qw2 {p0 p1 p2 p3 p4 p5 p6 p7 p8 p9 p10 p11 p12 p13 p14 p15 p16 p17:Prop}(h0:p0)(h1:p1)(h2:p2)(h3:p3)(h4:p4)(h5:p5)(h6:p6)(h7:p7)(h8:p8)(h9:p9)(h10:p10)(h11:p11)(h12:p12)(h13:p13)(h14:p14)(h15:p15)(h16:p16)(h17:p17):Go.RowKit.Hid (p0/\p1/\p2/\p3/\p4/\p5/\p6/\p7/\p8/\p9/\p10/\p11/\p12/\p13/\p14/\p15/\p16/\p17):=Go.Lib.hid ⟨h0,h1,h2,h3,h4,h5,h6,h7,h8,h9,h10,h11,h12,h13,h14,h15,h16,h17⟩
theorem lhd {p:Prop}(h:p):Go.RowKit.Hid p:=Go.Lib.hid h
theorem osi {α:Type _}{a b:α}(h:Y a=Y b):a=b:=Option.some.inj h
theorem aiq {a b:Prop}(x:a)(y:b):a/\b:=⟨x,y⟩
theorem nlr (n:Nat):n<=n:=Nat.le_refl n
theorem gb:type_of% @List.getD_eq_getElem?_getD:=@List.getD_eq_getElem?_getD
theorem gd:type_of% @Nat.le_trans:=@Nat.le_trans
theorem gg:type_of% @List.getElem?_eq_getElem:=@List.getElem?_eq_getElem
theorem gh:type_of% @Array.getElem?_eq_some_iff:=@Array.getElem?_eq_some_iff
theorem gi:type_of% @List.mem_of_getElem?:=@List.mem_of_getElem?
theorem gj:type_of% @List.mem_map:=@List.mem_map
theorem gk:type_of% @List.getElem?_eq_some_iff:=@List.getElem?_eq_some_iff
theorem gl:type_of% @List.eq_nil_of_length_eq_zero:=@List.eq_nil_of_length_eq_zero
theorem gm:type_of% @Nat.zero_le:=@Nat.zero_le
theorem gp:type_of% @List.length_map:=@List.length_map
theorem gr:type_of% @List.take_of_length_le:=@List.take_of_length_le
theorem gu:type_of% @Option.some_ne_none:=@Option.some_ne_none
theorem gw:type_of% @List.length_append:=@List.length_append
theorem gz:type_of% @Nat.lt_of_lt_of_le:=@Nat.lt_of_lt_of_le
theorem gC:type_of% @List.take_add_one:=@List.take_add_one
theorem gD:type_of% @List.length_take:=@List.length_take
theorem gE:type_of% @List.all_eq_true:=@List.all_eq_true
theorem gF:type_of% @List.mem_range:=@List.mem_range
theorem gG:type_of% @Nat.lt_or_ge:=@Nat.lt_or_ge
theorem gH:type_of% @List.mem_cons:=@List.mem_cons
theorem gI:type_of% @Nat.mul_le_mul_right:=@Nat.mul_le_mul_right
theorem gJ:type_of% @List.pairwise_cons:=@List.pairwise_cons
theorem gK:type_of% @Nat.mul_one:=@Nat.mul_one
theorem gM:type_of% @Bool.and_eq_true:=@Bool.and_eq_true
theorem gN:type_of% @Classical.byContradiction:=@Classical.byContradiction
theorem gO:type_of% @List.mem_append:=@List.mem_append
theorem gP:type_of% @List.not_mem_nil:=@List.not_mem_nil
theorem gQ:type_of% @List.getElem?_append_right:=@List.getElem?_append_right
theorem gR:type_of% @List.mem_of_find?_eq_some:=@List.mem_of_find?_eq_some
theorem gS:type_of% @List.mem_filter:=@List.mem_filter
theorem gU:type_of% @List.getElem?_append_left:=@List.getElem?_append_left
theorem gV:type_of% @List.length_cons:=@List.length_cons
theorem gW:type_of% @List.map_append:=@List.map_append
theorem gX:type_of% @List.mem_of_mem_take:=@List.mem_of_mem_take
theorem gY:type_of% @List.length_filter_le:=@List.length_filter_le
theorem gZ:type_of% @List.filter_append:=@List.filter_append
theorem bb:type_of% @List.pairwise_iff_getElem:=@List.pairwise_iff_getElem
theorem bg:type_of% @List.mem_cons_self:=@List.mem_cons_self
theorem bh:type_of% @List.getElem?_of_mem:=@List.getElem?_of_mem
theorem bj:type_of% @List.append_assoc:=@List.append_assoc
theorem bl:type_of% @List.append_nil:=@List.append_nil
theorem bm:type_of% @List.mem_cons_of_mem:=@List.mem_cons_of_mem
theorem bo:type_of% @Array.length_toList:=@Array.length_toList
theorem bw:type_of% @List.cons_append:=@List.cons_append
theorem bx:type_of% @List.map_cons:=@List.map_cons
theorem bA:type_of% @Int.add_zero:=@Int.add_zero
theorem bB:type_of% @Nat.min_eq_left:=@Nat.min_eq_left
theorem bC:type_of% @List.take_append_drop:=@List.take_append_drop
theorem bD:type_of% @List.range_succ:=@List.range_succ
theorem bE:type_of% @Nat.pow_le_pow_right:=@Nat.pow_le_pow_right
theorem bF:type_of% @List.length_drop:=@List.length_drop
theorem bG:type_of% @List.mem_map_of_mem:=@List.mem_map_of_mem
theorem bH:type_of% @List.sum_cons:=@List.sum_cons
theorem bI:type_of% @List.length_nil:=@List.length_nil
theorem bJ:type_of% @List.drop_eq_getElem_cons:=@List.drop_eq_getElem_cons
theorem bL:type_of% @List.drop_of_length_le:=@List.drop_of_length_le
theorem bM:type_of% @List.mem_of_mem_drop:=@List.mem_of_mem_drop
theorem bal (w:Go.World)(o:Go.Obj):Go.RowKit.Below w.heap.size w (w.alloc o):=(Go.RowKit.Below.refl _ w).alloc (nlr _) o
theorem btr {a b c:Go.World}(h:Go.RowKit.Below a.heap.size a b)(k:Go.RowKit.Below b.heap.size b c):Go.RowKit.Below a.heap.size a c:=h.trans (k.mono h.size)
theorem sadq {a:Option Go.Addr}{n:Nat}(h:a=Z->n=0)(hn:0<n):∃d,a=Y d:=by
 cases a with
 |none=>have:=h rfl;omega
 |some d=>exact⟨d,rfl⟩
namespace Go.Cx
def val (B:Nat):List Nat->Nat
 |[]=>0
 |d :: l=>d+B*val B l
theorem q5j (B:Nat)(l m:List Nat):val B (l++m)=val B l+B^l.length*val B m:=by
 induction l with
 |nil=>simp[val]
 |cons d l ih=>simp only [List.cons_append,val,ih,List.length_cons,Nat.pow_succ,Nat.mul_add,Nat.add_assoc];rw[Nat.mul_comm (B^l.length) B,Nat.mul_assoc]
theorem vu (B:Nat)(l:List Nat)(d:Nat):val B (l++[d])=val B l+B^l.length*d:=by rw[q5j];simp[val]
def dig (B:Nat)(n:Nat):List Nat:=if _h:2<=B/\n≠0 then n%B :: dig B (n / B)else []
termination_by n
decreasing_by exact Nat.div_lt_self (by omega) (by omega)
theorem jr (B:Nat):dig B 0=[]:=by rw[dig];simp
theorem qbj (B n:Nat)(hB:2<=B)(hn:n≠0):dig B n=n%B :: dig B (n / B):=by rw[dig];simp[hB,hn]
theorem xw (B:Nat)(hB:2<=B)(n:Nat):val B (dig B n)=n:=by
 induction n using Nat.strongRecOn with
 |_ n ih =>
  by_cases hn:n=0
  ·subst hn;simp[jr,val]
  ·rw[qbj B n hB hn,val,ih _ (Nat.div_lt_self (by omega) (by omega))];exact Nat.mod_add_div n B
def InR (B:Nat)(l:List Nat):Prop:=∀d∈l,d<B
theorem zb (B:Nat)(hB:2<=B)(n:Nat):InR B (dig B n):=by
 induction n using Nat.strongRecOn with
 |_ n ih =>
  by_cases hn:n=0
  ·subst hn;intro d hd;simp[jr]at hd
  ·rw[qbj B n hB hn];intro d hd;rcases gH.1 hd with rfl|hd
   ·exact Nat.mod_lt _ (by omega)
   ·exact ih _ (Nat.div_lt_self (by omega) (by omega)) d hd
theorem q9m {B d:Nat}{l:List Nat}(h:d<B)(k:InR B l):InR B (d :: l):=by
 intro e he;rcases gH.1 he with rfl|he
 ·exact h
 ·exact k e he
theorem q3j (B:Nat):InR B []:=fun d hd=>by simp at hd
theorem q2g {B d:Nat}(h:d<B):InR B [d]:=q9m h (q3j B)
theorem q5k (B:Nat)(l:List Nat)(h:InR B l):val B l<B^l.length:=by
 induction l with
 |nil=>simp[val]
 |cons d l ih =>have h1:=ih (fun e he=>h e (bm _ he));have h2:d<B:=h d (bg ..);have h3:B*(val B l+1)<=B*B^l.length:=Nat.mul_le_mul_left _ h1;simp only [val,List.length_cons,Nat.pow_succ];rw[Nat.mul_comm (B^l.length) B];rw[Nat.mul_add]at h3;omega
def trim:List Nat->List Nat
 |[]=>[]
 |d :: l=>if trim l=[]/\d=0 then []else d :: trim l
theorem q2h (l:List Nat)(d:Nat):trim (l++[d])=if d=0 then trim l else l++[d]:=by
 induction l with
 |nil=>simp[trim]
 |cons x l ih =>
  rw[bw,trim,ih];by_cases hd:d=0
  ·simp[hd,trim]
  ·simp[hd]
theorem q9n (B:Nat)(l:List Nat):val B (trim l)=val B l:=by
 induction l with
 |nil=>rfl
 |cons d l ih =>
  rw[trim];split
  ·rename_i h;obtain⟨h1,h2⟩:=h;rw[h1]at ih;simp only [val]at ih ⊢;rw[<-ih];simp[h2]
  ·simp[val,ih]
theorem ze (B:Nat)(hB:2<=B)(l:List Nat)(h:InR B l):trim l=dig B (val B l):=by
 induction l with
 |nil=>simp[trim,val,jr]
 |cons d l ih =>
  have hd:d<B:=h d (bg ..);have IY:=ih (fun e he=>h e (bm _ he));have hm:(d+B*val B l)%B=d:=by rw[Nat.add_mul_mod_self_left];exact Nat.mod_eq_of_lt hd
  have hq:(d+B*val B l) / B=val B l:=by rw[Nat.add_mul_div_left _ _ (by omega:0<B),Nat.div_eq_of_lt hd,Nat.zero_add]
  rw[trim,val];by_cases hz:d+B*val B l=0
  ·have h1:d=0:=by omega
   have h2:val B l=0:=by
    have:B*val B l=0:=by omega
    rcases Nat.mul_eq_zero.1 this with h|h
    ·omega
    ·exact h
   rw[hz,jr,IY,h2,jr];simp[h1]
  ·rw[qbj B _ hB hz,hm,hq,<-IY];split
   ·rename_i hc;exfalso
    rw[IY]at hc;have:val B l=0:=by have:=xw B hB (val B l);rw[hc.1]at this;simpa [val]using this.symm
    rw[this]at hz;simp at hz;exact hz hc.2
   ·rfl
theorem q02 (l:List Nat):(trim l).length<=l.length:=by
 induction l with
 |nil=>simp[trim]
 |cons d l ih=>rw[trim];split <;> simp;omega
theorem qem (l:List Nat):trim l=l.take (trim l).length:=by
 induction l with
 |nil=>rfl
 |cons d l ih =>
  rw[trim];split
  ·simp
  ·simp;exact ih
theorem q9o {B:Nat}{l:List Nat}(h:InR B l):InR B (trim l):=by rw[qem];exact fun d hd=>h d (gX hd)
theorem q42 (B n:Nat)(hB:2<=B):dig B n=[]↔n=0:=by
 constructor
 ·intro h;have:=xw B hB n;rw[h]at this;simpa [val]using this.symm
 ·rintro rfl;exact jr B
theorem q36 (B:Nat)(hB:2<=B)(n k:Nat)(h:n<B^k):(dig B n).length<=k:=by
 induction k generalizing n with
 |zero=>simp at h;subst h;simp[jr]
 |succ k ih =>
  by_cases hn:n=0
  ·subst hn;simp[jr]
  ·rw[qbj B n hB hn];have:n / B<B^k:=by rw[Nat.div_lt_iff_lt_mul (by omega)];rwa [Nat.pow_succ]at h
   have:=ih _ this;simp;omega
theorem zy (B:Nat)(hB:2<=B)(n:Nat):n<B^(dig B n).length:=by
 have:=q5k B (dig B n) (zb B hB n)
 rwa [xw B hB]at this
theorem j4 (B:Nat)(hB:2<=B)(m n:Nat)(h:m<=n):(dig B m).length<=(dig B n).length :=
 q36 B hB m _ (Nat.lt_of_le_of_lt h (zy B hB n))
theorem qc4 (B:Nat)(hB:2<=B)(m n:Nat)(h:(dig B m).length<(dig B n).length):m<n:=by
 rcases gG m n with h'|h'
 ·exact h'
 ·have:=j4 B hB n m h';omega
def qy (l:List UInt8):Nat:=l.foldl (fun a c=>a*256+c.toNat) 0
theorem q9p (l:List UInt8)(a:Nat):l.foldl (fun a c=>a*256+c.toNat) a=a*256^l.length+qy l:=by
 induction l generalizing a with
 |nil=>simp[qy]
 |cons c l ih =>
  have h:qy (c :: l)=c.toNat*256^l.length+qy l:=by have h:=ih (0*256+c.toNat);rw[Nat.zero_mul,Nat.zero_add]at h;rw[<-h];simp[qy]
  rw[List.foldl_cons,ih (a*256+c.toNat),h,gV,Nat.pow_succ,Nat.add_mul];have:a*256*256^l.length=a*(256^l.length*256):=by rw[Nat.mul_assoc,Nat.mul_comm 256]
  omega
theorem ki (l m:List UInt8):qy (l++m)=qy l*256^m.length+qy m:=by rw[qy,List.foldl_append,q9p];rfl
theorem qbm (l:List UInt8)(c:UInt8):qy (l++[c])=qy l*256+c.toNat:=by rw[ki];simp[qy]
theorem q5l (c:UInt8)(l:List UInt8):qy (c :: l)=c.toNat*256^l.length+qy l:=by have:=ki [c] l;simpa [qy]using this
def bytesOf (n:Nat):List UInt8:=((dig 256 n).map UInt8.ofNat).reverse
theorem q7c (l:List Nat)(h:InR 256 l):qy ((l.map UInt8.ofNat).reverse)=val 256 l:=by
 induction l with
 |nil=>rfl
 |cons d l ih =>have hd:d<256:=h d (bg ..);rw[bx,List.reverse_cons,qbm,ih (fun e he=>h e (bm _ he)),val];simp[UInt8.toNat_ofNat',Nat.mod_eq_of_lt hd];omega
theorem q0q (n:Nat):qy (bytesOf n)=n:=by rw[bytesOf,q7c _ (zb 256 (by omega) n),xw 256 (by omega)]
theorem q3k:bytesOf 0=[]:=by simp[bytesOf,jr]
theorem q03 (n:Nat):bytesOf n=[]↔n=0:=by simp[bytesOf,q42 256 n (by omega)]
theorem qao (l:List UInt8):val 256 (l.reverse.map UInt8.toNat)=qy l:=by
 have h:InR 256 (l.reverse.map UInt8.toNat):=by intro d hd;obtain⟨c,_,rfl⟩:=gj.1 hd;exact c.toNat_lt
 have:=q7c _ h;rw[<-this,List.map_map];have:(UInt8.ofNat ∘ UInt8.toNat)=id:=by funext c;simp
 rw[this];simp
theorem q30 (l:List UInt8)(h:∀c t,l=c :: t->c≠0):bytesOf (qy l)=l:=by
 have eN:InR 256 (l.reverse.map UInt8.toNat):=by intro d hd;obtain⟨c,_,rfl⟩:=gj.1 hd;exact c.toNat_lt
 have mi:trim (l.reverse.map UInt8.toNat)=l.reverse.map UInt8.toNat:=by
  cases l with
  |nil=>rfl
  |cons c t =>rw[List.reverse_cons,gW];simp only [List.map_cons,List.map_nil];rw[q2h,if_neg];intro e;exact h c t rfl (by rw[<-UInt8.toNat_inj];simpa using e)
 rw[<-qao,bytesOf,<-ze 256 (by omega) _ eN,mi,List.map_map];have:(UInt8.ofNat ∘ UInt8.toNat)=id:=by funext c;simp
 rw[this];simp
theorem q5m (l:List UInt8):qy l<256^l.length:=by
 rw[<-qao];have eN:InR 256 (l.reverse.map UInt8.toNat):=by intro d hd;obtain⟨c,_,rfl⟩:=gj.1 hd;exact c.toNat_lt
 have:=q5k 256 _ eN;simpa using this
theorem q9q (n:Nat):(bytesOf n).length=(dig 256 n).length:=by simp[bytesOf]
def nb (x:Int):Nat:=(dig 256 x.natAbs).length
theorem qkn (x:Int)(k:Nat)(h:x.natAbs<256^k):nb x<=k:=q36 256 (by omega) _ _ h
theorem q5n (x:Int):x.natAbs<256^nb x:=zy 256 (by omega) _
theorem q0g:nb 0=0:=by simp[nb,jr]
theorem qbn (x y:Int):nb (x+y)<=max (nb x) (nb y)+1:=by refine qkn _ _ ?_;have h1:=q5n x;have h2:=q5n y;have h3:256^nb x<=256^max (nb x) (nb y):=bE (by omega) (Nat.le_max_left ..);have h4:256^nb y<=256^max (nb x) (nb y):=bE (by omega) (Nat.le_max_right ..);rw[Nat.pow_succ];omega
theorem qc5 (x y:Int):nb (x*y)<=nb x+nb y:=by refine qkn _ _ ?_;rw[Int.natAbs_mul,Nat.pow_add];have h1:=q5n x;have h2:=q5n y;exact Nat.mul_lt_mul'' h1 h2
theorem q49 (x:Int)(h1 : -9223372036854775808<=x)(h2:x<=9223372036854775807):nb x<=8:=by
 refine qkn _ _ ?_;have:(256:Nat)^8=18446744073709551616:=by decide
 omega
open Go.RowKit
theorem keep {w w':δ}(h:Below w w w'){p:Addr}{u:ε}(hc:w p=Y u):w' p=Y u :=
 (h.cell (World.block_lt_of_cell? w p hc)).trans hc
theorem q1n {B:Nat}{w w':δ}(h:Below B w w')(hB:w<=B){p:Addr}{u:ε}(hc:w p=Y u):w' p=Y u :=
 (h.cell (gz (World.block_lt_of_cell? w p hc) hB)).trans hc
def Sl (w:δ)(st:Nat)(v:ε)(xs:List ε):Prop :=
 ∃a n cap,v=O a n cap/\n<=cap/\cap<=maxLen/\xs.length=n*st/\(a=Z->cap=0) ∧
  ∀ad,a=Y ad->∀j u,xs[j]? =Y u->w (ad.add j)=Y u
theorem Sl.nil (w:δ)(st:Nat):Sl w st (O Z 0 0) [] :=
 ⟨Z,0,0,rfl,nlr _,by simp[maxLen],by simp,fun _=>rfl,fun ad h=>by cases h⟩
theorem Sl.mono {w w':δ}{st:Nat}{v:ε}{xs:List ε}(h:Sl w st v xs)(hk:∀p u,w p=Y u->w' p=Y u):Sl w' st v xs:=by obtain⟨a,n,cap,h1,h2,h3,h4,h5,h6⟩:=h;exact⟨a,n,cap,h1,h2,h3,h4,h5,fun ad ha j u hj=>hk _ _ (h6 ad ha j u hj)⟩
theorem Sl.keep {w w':δ}{st:Nat}{v:ε}{xs:List ε}(h:Sl w st v xs)(hb:Below w w w'):Sl w' st v xs :=
 h.mono fun _ _ hc=>Cx.keep hb hc
theorem Sl.alloc {w:δ}{st:Nat}{v:ε}{xs:List ε}(h:Sl w st v xs)(o:Obj):Sl (w.alloc o) st v xs :=
 h.keep (bal w o)
theorem Sl.qc {w:δ}{base e st:Nat}{v:ε}{n:Nat}{xs:List ε}(h:w.ownsRow base e st v n xs):Sl w st v xs:=by
 rcases h.2 with ⟨rfl,rfl⟩|⟨g,cap,cur,rfl,hb,hg,hn,hm,iq,ht⟩
 ·have hx:xs=[]:=gl (by simpa using h.1);subst hx;exact Sl.nil w st
 ·refine⟨Y ⟨g,0,Z⟩,n,cap,rfl,hn,hm,h.1,(fun e=>by cases e),?_⟩;intro ad bR j u hj;obtain rfl:=osi bR;exact h.cells (by simp[Value.ownBlock]) j u hj
theorem Sl.open {w:δ}{st:Nat}{a:Option Addr}{n cap:Nat}{xs:List ε}(h:Sl w st (O a n cap) xs) :
  n<=cap/\cap<=maxLen/\xs.length=n*st/\(a=Z->cap=0)/\∀ad,a=Y ad->∀j u,xs[j]? =Y u->w (ad.add j)=Y u:=by
 obtain⟨a',n',dQ,he,h2,h3,h4,h5,h6⟩:=h;cases he
 exact⟨h2,h3,h4,h5,h6⟩
theorem Sl.take {w:δ}{st:Nat}{a:Option Addr}{n cap k:Nat}{xs:List ε}(h:Sl w st (O a n cap) xs)(hk:k<=n):Sl w st (O a k cap) (xs.take (k*st)):=by
 obtain⟨h2,h3,h4,h5,h6⟩:=h.open;refine⟨a,k,cap,rfl,by omega,h3,?_,h5,?_⟩
 ·rw[gD,h4];exact bB (gI _ hk)
 ·intro ad ha j u hj;rw[List.getElem?_take]at hj;split at hj
  ·exact h6 ad ha j u hj
  ·cases hj
theorem qa {w w':δ}{base e st:Nat}{v:ε}{n:Nat}{xs:List ε}(h:w.ownsRow base e st v n xs)(hb:Below w w w'):w'.ownsRow base e st v n xs:=by
 refine⟨h.1,?_⟩;rcases h.2 with hn|⟨g,cap,cur,rfl,ub,ot,rest⟩
 ·exact .inl hn
 ·refine .inr ⟨g,cap,cur,rfl,ub,?_,rest⟩;rw[hb.block g (gh.1 ot).1];exact ot
theorem qf {w:δ}{base mj e st:Nat}{v:ε}{n:Nat}{xs:List ε}(h:w.ownsRow base e st v n xs)(hb:mj<=base):w.ownsRow mj e st v n xs:=by
 refine⟨h.1,?_⟩;rcases h.2 with hn|⟨g,cap,cur,hv,ub,rest⟩
 ·exact .inl hn
 ·exact .inr ⟨g,cap,cur,hv,gd hb ub,rest⟩
theorem qj {w:δ}{base e st:Nat}{v:ε}{n:Nat}{xs:List ε}(h:w.ownsRow base e st v n xs):∃a cap,v=O a n cap:=by
 rcases h.2 with ⟨rfl,rfl⟩|⟨g,cap,cur,rfl,_⟩
 ·exact⟨_,_,rfl⟩
 ·exact⟨_,_,rfl⟩
theorem ql {w w':δ}{row:Option Nat}(hg:w.grownBy w' row){p:Addr}{u:ε}(h:w p=Y u)(ah:∀k,row=Y k->p.block≠k):w' p=Y u :=
 hg.cell h (fun e=>ah _ e.symm rfl)
theorem qd (w:δ)(c:Array ε)(t:TypeId)(m:Nat×Nat)(i:Nat):(w.alloc (.cells c t m)) ⟨w,i,Z⟩=c[i]?:=World.cell?_alloc_mark w c t m i
theorem jz {w:δ}{B:Nat}{c:Array ε}{t:TypeId}(h:w.heap[B]? =Y (.cells c t (0,0)))(i:Nat):w.frozen? ⟨B,i,Z⟩=false:=by unfold World.frozen?;simp only [h];simp
def ints (l:List Int):List Value:=l.map (H φ)
theorem q9r (l:List Int)(k:Nat)(h:k<l.length):(ints l)[k]? =(l.getD k 0:Int):=by simp[ints,h]
theorem xl (l:List Int):(ints l).length=l.length:=by simp[ints]
theorem vk (l m:List Int):ints (l++m)=ints l++ints m:=by simp[ints]
theorem qbo {v u:ε}(h:v=u):Ending.returned v=Ending.returned u:=by rw[h]
theorem q4a {w w':δ}{o:Obj}{row:Option Nat}(h:(w.alloc o).grownBy w' row):w.grownBy w' row :=
 ⟨h.os,h.tape,h.output,gd (by simp) h.size,fun k hk ah=>(h.block k (by simp;omega) ah).trans (Below.heap_alloc w o k hk)⟩
theorem qo {P:Program}{ops:Array Oper}{rest:List Oper}{o:Oper}{a:Act}{Q:Exit->Act->δ->Prop}{W wr:δ}(wj:o.guard=Z)(s x:Operand)(t:TypeId)
  (ho:o.op=.call { callee:=.builtin .append,args:=#[s,x],argTypes:=#[t,t] })
  (base:Nat) (e:TypeId) {z:ε} {size bytes:Nat} (fE:(P.info? e).map (fun i=>(i.zero,i.size,i.bytes))=Y (Y z,size,bytes)) (ht:P.underlying t=Y (.slice e))
  (jJ:z.cells.size=size) (hsz:0<size) (iO:0<bytes)
  (v:ε) (n:Nat) (xs:List ε) (hs:a.eval s=v) (af:wr.ownsRow base e size v n xs)
  (vs:List ε) (hx:a.eval x=O wr 1 1) (hl:vs.length=size) (h1:∀u∈vs,u.oneCell'=true)
  (dR:(n+1)*bytes<=140737488355328) (hb:Below base W wr) (ab:base<=wr)
  (h:∀v' w',w'.ownsRow base e size v' (n+1) (xs++vs)->wr.grownBy w' v.ownBlock->Below base W w'->wpList P ops Q rest (a.put o.dst v') w') :
  wpList P ops Q (o :: rest) a (wr.alloc (.cells vs.toArray e)):=by
 obtain⟨i0,hi,dv,dB,de⟩:=info_parts fE;refine wpList_append_own _ wj s x t ho base e i0 z size bytes ht hi dv dB de jJ hsz v n xs hs (af.alloc _) wr 1 1 vs hx (by omega) ?_ h1 ?_ dR (by simp;omega) ?_
 ·intro j u hj;rw[Addr.add_lit,Nat.zero_add,qd];simpa using hj
 ·have:(n+1)*1<=(n+1)*bytes:=Nat.mul_le_mul_left _ iO;unfold maxLen;omega
 ·intro v' w' h2 h3 _;exact h v' w' h2 (q4a h3) ((hb.alloc ab _).grown h3 (by simp;omega) (fun k hk=>(af.lt k hk).1))
theorem qjv (s:ByteArray)(i:Nat)(h:i<s.size):s[i]=s.data.toList.getD i 0:=by simp[List.getD,h];rfl
theorem qh {x y:Int}(h:x=y):H φ x=y:=by rw[h]
theorem q6s {w w':δ}{o:Obj}{B:Nat}(h:Below B (w.alloc o) w')(hB:w<=B):Below w w w' :=
 ((q9).alloc (nlr _) _).trans (h.mono hB)
def u8s (bs:List UInt8):List Value:=bs.map fun c=>H .u8 (c.toNat:Int)
theorem q1s {P:Program}{w:δ}{base e:Nat}{v:ε}{n:Nat}{bs:List UInt8}(src dst:TypeId)(hs:P.underlying src=Y (.slice e))(he:P.underlying e=Y (.int .u8))(hd:P.underlying dst=Y .string)
  (h:w.ownsRow base e 1 v n (u8s bs)):(convert src dst v).run P w=.ok (ω ⟨bs.toArray⟩) w:=by
 have hn:bs.length=n:=by have:=h.1;simpa [u8s]using this
 rcases h.2 with ⟨rfl,rfl⟩|⟨g,cap,cur,rfl,_⟩
 ·have hx:bs=[]:=gl hn;subst hx;exact run_convert_bytes_nil (P:=P) w src e hs he 0 0 dst hd
 ·have:=run_convert_bytes_arg (P:=P) w src e hs he g 0 n cap (bs.map fun c=>(c.toNat:Int)) (by simpa using hn) (fun i hi=>by
   have hh:=h.cells (g:=g) (by simp[Value.ownBlock]) i (H .u8 ((bs.map fun c=>(c.toNat:Int)).getD i 0)) (by simp[u8s,show i<bs.length by omega])
   rwa [Addr.add_lit]at hh) dst hd
  rw[this]
  congr 2
  simp[strOfNums,Function.comp_def]
theorem Sl.drew {w:δ}{st:Nat}{v:ε}{xs:List ε}(h:Sl w st v xs):Sl w.drew st v xs:=h
theorem qgd {w:δ}{base e st:Nat}{v:ε}{n:Nat}{xs:List ε}(h:w.ownsRow base e st v n xs):w.drew.ownsRow base e st v n xs:=h
theorem qb {B:Nat}{a w:δ}(h:Below B a w)(n:Nat):Below B a (w.drewN n):=below_drewN h n
theorem xe {w:δ}{a p:Addr}{u x:ε}(h:w p=Y x)(ah:p.block≠a.block):(w.setCell a u) p=Y x :=
 (World.cell?_of_block (w:=w) (Below.heap_setCell w a u p.block ah)).trans h
end Go.Cx
namespace Go.Cx
theorem q2i (B:Nat)(l:List Nat)(i:Nat)(hi:i<=l.length):val B l=val B (l.take i)+B^i*val B (l.drop i):=by
 conv=>lhs;rw[<-bC i l]
 rw[q5j,gD,bB hi]
theorem yj (l:List Nat)(i:Nat)(h:i<l.length):l.drop i=l.getD i 0 :: l.drop (i+1):=by rw[bJ h];simp[List.getD,List.getElem?_eq_getElem h]
theorem q4b (l:List Nat)(i:Nat)(h:i<l.length):l.take (i+1)=l.take i++[l.getD i 0]:=by rw[List.take_succ_eq_append_getElem h];simp[List.getD,List.getElem?_eq_getElem h]
theorem xr {B:Nat}{l:List Nat}(h:InR B l)(hB:0<B)(i:Nat):l.getD i 0<B:=by
 rcases gG i l.length with hi|hi
 ·rw[List.getD,gg hi];exact h _ (List.getElem_mem hi)
 ·simp[List.getD,List.getElem?_eq_none hi];exact hB
theorem qge {B:Nat}{l:List Nat}(h:InR B l)(i:Nat):InR B (l.take i):=fun d hd=>h d (gX hd)
theorem q54 (B:Nat)(l m:List Nat)(i:Nat)(hl:i<l.length)(hm:i<m.length)(hd:l.drop (i+1)=m.drop (i+1))(hr:InR B l)
  (ak:l.getD i 0<m.getD i 0):val B l<val B m:=by
 rw[q2i B l i (by omega),q2i B m i (by omega),yj l i hl,yj m i hm,hd];simp only [val];have h1:=q5k B _ (qge hr i);rw[gD,bB (by omega)]at h1;have h2:B^i*(l.getD i 0+1+B*val B (m.drop (i+1)))<=B^i*(m.getD i 0+B*val B (m.drop (i+1))):=Nat.mul_le_mul_left _ (by omega);have h3:B^i*(l.getD i 0+1+B*val B (m.drop (i+1)))=B^i+B^i*(l.getD i 0+B*val B (m.drop (i+1))):=by rw[show l.getD i 0+1+B*val B (m.drop (i+1))=1+(l.getD i 0+B*val B (m.drop (i+1))) by omega,Nat.mul_add,gK]
 omega
def q5o (x y:Nat):Int:=if x<y then -1 else if y<x then 1 else 0
theorem q3l {x y:Nat}(h:x<y):q5o x y=-1:=by rw[q5o,if_pos h]
theorem qkp {x y:Nat}(h:y<x):q5o x y=1:=by rw[q5o,if_neg (by omega),if_pos h]
theorem qd2 {x y:Nat}(h:x=y):q5o x y=0:=by rw[q5o,if_neg (by omega),if_neg (by omega)]
theorem q3m (l m:List Nat)(i:Nat)(hl:i<l.length)(hm:i<m.length)(hd:l.drop (i+1)=m.drop (i+1))(h:l.getD i 0=m.getD i 0):l.drop i=m.drop i:=by rw[yj l i hl,yj m i hm,hd,h]
theorem j9 (B:Nat)(l:List Nat)(i:Nat):val B (l.take (i+1))=val B (l.take i)+B^i*l.getD i 0:=by
 rcases gG i l.length with h|h
 ·rw[q4b l i h,vu,gD,bB (by omega)]
 ·rw[gr (by omega),gr (by omega)];simp[List.getD,List.getElem?_eq_none h]
theorem xo (B:Nat)(l:List Nat)(i:Nat)(h:l.length<=i):val B (l.take i)=val B l:=by rw[gr h]
theorem q0x (B:Nat)(a b out:List Nat)(i c:Nat)(ho:out.length=i)(h:val B out+B^i*c=val B (a.take i)+val B (b.take i)) :
  val B (out++[(c+a.getD i 0+b.getD i 0)%B])+B^(i+1)*((c+a.getD i 0+b.getD i 0) / B)=val B (a.take (i+1))+val B (b.take (i+1)):=by
 rw[j9,j9,vu,ho,Nat.pow_succ];have e:B^i*((c+a.getD i 0+b.getD i 0)%B)+B^i*B*((c+a.getD i 0+b.getD i 0) / B)=B^i*(c+a.getD i 0+b.getD i 0):=by rw[Nat.mul_assoc,<-Nat.mul_add,Nat.mod_add_div]
 rw[Nat.mul_add,Nat.mul_add]at e;omega
theorem q0h (l:List Nat)(i:Nat)(h:l.length<=i):l.getD i 0=0:=by simp[List.getD,List.getElem?_eq_none h]
theorem q5p (B:Nat)(a b out:List Nat)(i:Nat)(c c' d:Nat)(ho:out.length=i)(h:val B out+val B (b.take i)=val B (a.take i)+B^i*c)
  (hd:d+b.getD i 0+c=a.getD i 0+B*c') :
  val B (out++[d])+val B (b.take (i+1))=val B (a.take (i+1))+B^(i+1)*c':=by
 rw[j9,j9,vu,ho,Nat.pow_succ,Nat.mul_assoc];have e:B^i*(d+b.getD i 0+c)=B^i*(a.getD i 0+B*c'):=by rw[hd]
 rw[Nat.mul_add,Nat.mul_add,Nat.mul_add]at e;omega
theorem qd3 (B:Nat)(l:List Nat)(j x:Nat)(h:j<l.length):val B (l.set j x)+B^j*l.getD j 0=val B l+B^j*x:=by
 have h1:=q2i B (l.set j x) j (by simp;omega);have h2:=q2i B l j (by omega);rw[yj _ j (by simpa using h)]at h1;rw[yj l j h]at h2;have e1:(l.set j x).take j=l.take j:=by rw[List.take_set];exact List.set_eq_of_length_le (by simp;omega)
 have e2:(l.set j x).drop (j+1)=l.drop (j+1):=by rw[List.drop_set,if_pos (by omega)]
 have e3:(l.set j x).getD j 0=x:=by simp[List.getD,h]
 rw[e1,e2,e3]at h1;simp only [val,Nat.mul_add]at h1 h2;omega
theorem q3f {B:Nat}{l:List Nat}(h:InR B l)(j:Nat){x:Nat}(hx:x<B):InR B (l.set j x):=by
 intro d hd;rcases List.mem_or_eq_of_mem_set hd with h'|rfl
 ·exact h d h'
 ·exact hx
theorem q1t (l:List Nat)(j k x:Nat)(h:j≠k):(l.set j x).getD k 0=l.getD k 0:=by simp[List.getD,List.getElem?_set_ne h]
theorem q9u (B:Nat)(l:List Nat)(j c t R:Nat)(h:j<l.length)(hv:val B l+B^j*c=R) :
  val B (l.set j ((l.getD j 0+t+c)%B))+B^(j+1)*((l.getD j 0+t+c) / B)=R+B^j*t:=by
 have h1:=qd3 B l j ((l.getD j 0+t+c)%B) h;have e:B^j*((l.getD j 0+t+c)%B)+B^j*B*((l.getD j 0+t+c) / B)=B^j*(l.getD j 0+t+c):=by rw[Nat.mul_assoc,<-Nat.mul_add,Nat.mod_add_div]
 rw[Nat.mul_add,Nat.mul_add]at e;rw[Nat.pow_succ];omega
theorem qd4 (B:Nat)(l:List Nat)(j c R:Nat)(h:j<l.length)(hz:l.getD j 0=0)(hv:val B l+B^j*c=R):val B (l.set j c)=R:=by have h1:=qd3 B l j c h;rw[hz,Nat.mul_zero]at h1;omega
def mulR (B:Nat)(a b:List Nat)(i k:Nat):Nat:=val B (a.take i)*val B b+B^i*(a.getD i 0*val B (b.take k))
theorem q7d (B:Nat)(a b:List Nat)(i k:Nat):mulR B a b i (k+1)=mulR B a b i k+B^(i+k)*(a.getD i 0*b.getD k 0):=by
 unfold mulR;rw[j9,Nat.mul_add,Nat.mul_add,Nat.pow_add];have:B^i*(a.getD i 0*(B^k*b.getD k 0))=B^i*B^k*(a.getD i 0*b.getD k 0):=by rw[Nat.mul_left_comm (a.getD i 0),Nat.mul_assoc]
 omega
theorem q7e (B:Nat)(a b:List Nat)(i:Nat):mulR B a b i 0=val B (a.take i)*val B b:=by simp[mulR,val]
theorem q9v (B:Nat)(a b:List Nat)(i:Nat):mulR B a b i b.length=val B (a.take (i+1))*val B b:=by unfold mulR;rw[j9,List.take_length,Nat.add_mul,Nat.mul_assoc]
theorem zt (l:List Nat)(k x:Nat)(h:k<l.length):(l.set k x).take (k+1)=l.take k++[x]:=by
 rw[q4b _ k (by simpa using h)]
 congr 1
 ·rw[List.take_set];exact List.set_eq_of_length_le (by simp;omega)
 ·simp[List.getD,h]
end Go.Cx
namespace Go.Proofs.YtmkpbhaoalbhjaaGreatDoor
open Go.RowKit Go.Cx
theorem Tryz.xg:(Tryz.prog.info? 3).map (fun i=>(i.zero,i.size,i.bytes))=Y (Y (H φ 0),1,8):=by kernel_rfl
theorem Tryz.q4c:(Tryz.prog.info? 5).map (fun i=>(i.zero,i.size,i.bytes))=Y (Y (H .u8 0),1,1):=by kernel_rfl
theorem q7f (zs:List Nat)(k:Nat)(hk:0<k)(hz:zs.getD (k-1) 0=0)(hl:k<=zs.length):trim (zs.take k)=trim (zs.take (k-1)):=by
 have:zs.take k=zs.take (k-1)++[0]:=by have h:=List.take_succ_eq_append_getElem (l:=zs) (i:=k-1) (by omega);rw[show k-1+1=k by omega]at h;rw[h];congr 1;simp[List.getD,List.getElem?_eq_getElem (show k-1<zs.length by omega)]at hz;rw[hz]
 rw[this,q2h];simp
theorem q7g (zs:List Nat)(k:Nat)(hk:0<k)(hz:zs.getD (k-1) 0≠0)(hl:k<=zs.length):trim (zs.take k)=zs.take k:=by
 have:zs.take k=zs.take (k-1)++[zs.getD (k-1) 0]:=by have h:=List.take_succ_eq_append_getElem (l:=zs) (i:=k-1) (by omega);rw[show k-1+1=k by omega]at h;rw[h];simp[List.getD,List.getElem?_eq_getElem (show k-1<zs.length by omega)]
 rw[this,q2h,if_neg hz]
end Go.Proofs.YtmkpbhaoalbhjaaGreatDoor
namespace Go.Cx
open Go.RowKit
def iv (neg:Bool)(s:ByteArray):Int:=if neg then -(qy s.data.toList:Int)else qy s.data.toList
def mg (x:Int):ByteArray:=⟨(bytesOf x.natAbs).toArray⟩
abbrev wv (x:Int):Value:=I #[τ (decide (x<0)),ω (mg x)]
theorem q95 (x:Int):(mg x).data.toList=bytesOf x.natAbs:=rfl
theorem j5 (x:Int):(mg x).size=nb x:=by show (mg x).data.size=_;rw[<-bo,q95,q9q];rfl
theorem q0i (x:Int):iv (decide (x<0)) (mg x)=x:=by
 unfold iv;rw[q95,q0q];by_cases h:x<0
 ·rw[if_pos (by simpa using h)];omega
 ·rw[if_neg (by simpa using h)];omega
theorem qmu (neg:Bool)(s:ByteArray):(iv neg s).natAbs=qy s.data.toList:=by unfold iv;cases neg <;> simp
theorem q8d:mg 0=⟨#[]⟩:=by unfold mg;rw[Int.natAbs_zero,q3k]
theorem qd5:wv 0=I #[τ false,ω ⟨#[]⟩]:=by show I #[τ (decide ((0:Int)<0)),ω (mg 0)]=_;rw[q8d];rfl
theorem qmv {x y:Int}(h:mg x=mg y):x.natAbs=y.natAbs:=by
 have h1:bytesOf x.natAbs=bytesOf y.natAbs:=by rw[<-q95,<-q95,h]
 have:=congrArg qy h1
 rwa [q0q,q0q]at this
theorem qgf {x y:Int}(h1:decide (x<0)=decide (y<0))(h2:mg x=mg y):x=y:=by
 have:=qmv h2;have h3:x<0↔y<0:=by simpa using h1
 omega
theorem qmd (neg:Bool)(s:ByteArray):nb (iv neg s)<=s.size:=by refine qkn _ _ ?_;rw[qmu];have:=q5m s.data.toList;simpa using this
def sg (neg:Bool)(n:Nat):Int:=if neg then -(n:Int)else n
theorem qmw (neg:Bool)(n:Nat):(sg neg n).natAbs=n:=by unfold sg;cases neg <;> simp
theorem qgg (neg:Bool)(n:Nat)(h:n≠0):decide (sg neg n<0)=neg:=by unfold sg;cases neg <;> simp <;> omega
theorem qkq (neg:Bool):sg neg 0=0:=by unfold sg;cases neg <;> simp
theorem qme (neg:Bool)(n:Nat):mg (sg neg n)=⟨(bytesOf n).toArray⟩:=by unfold mg;rw[qmw]
theorem jq (neg:Bool)(s:ByteArray):iv neg s=sg neg (qy s.data.toList):=rfl
