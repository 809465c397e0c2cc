/- Steps towards MorseParts. Conditions: none. -/
import Derived.Test.YtlhicnfeajejhaaGreatDoorGQw
set_option maxRecDepth 1000000
set_option maxHeartbeats 16000000
namespace Go.Proofs.YtlhicnfeajejhaaGreatDoor
open Go.RowKit Go.Cx
structure KP where
 p:Value->World->Prop
 q8:∀ v w w',p v w->BwQ w w'->p v w'
def KP.any:KP:=⟨fun _ _=>True,fun _ _ _ _ _=>trivial⟩
def KP.val (x:Value):KP:=⟨fun v _=>v=x,fun _ _ _ h _=>h⟩
def KP.mok (k:Mok):KP:=⟨k.holds,fun _ _ _ h hb=>Mok.q8 h hb⟩
def KP.fk (k:Fk):KP:=⟨k.holds,fun _ _ _ h hb=>Fk.q8 h hb⟩
section
variable {P:Program} {Q:Exit->Act->World->Prop} {o:Oper} {a:Act} {w:World} {k:KP}
def Stk (P:Program) (Q:Exit->Act->World->Prop) (k:KP) (o:Oper) (a:Act) (w:World):Prop:=Oper.wp P o a w (fun a' w''=>∃ v,a'=a.put o.dst v/\k.p v w''/\BwQ w w'') Q
theorem xi (x:Operand) (bJ:o.op = .move x\/o.op = .assign x) (h:k.p (a.eval x) w):Stk P Q k o a w:=q1b x bJ ⟨_,rfl,h,Below.refl _ _⟩
theorem qs1 (c x y:Operand) (bJ:o.op = .pick c x y) (hc:a.eval c = .bool true) (h:k.p (a.eval x) w):Stk P Q k o a w:=qka c x y bJ hc ⟨_,rfl,h,Below.refl _ _⟩
theorem qsr (c x y:Operand) (bJ:o.op = .pick c x y) (hc:a.eval c = .bool false) (h:k.p (a.eval y) w):Stk P Q k o a w:=by unfold Stk Oper.wp;simp[execOp,bJ,hc,asBool];exact⟨_,rfl,h,Below.refl _ _⟩
theorem qrt (x:Operand) (b:Bool) (bJ:o.op = .unOp .not 4 x) (hc:a.eval x = .bool b):Stk P Q (.val (.bool !b)) o a w :=
 qsj .not _ x bJ _ hc _ rfl ⟨_,rfl,rfl,Below.refl _ _⟩
theorem qg9 (f:Nat) (xs:Array Operand) (ts:Array TypeId) (bJ:o.op = .call { callee:=.value (.func f),args:=xs,argTypes:=ts }) (ef:∀ args w,(callFunc f args).run P w = .ok (.enter f args) w)
  (vs:Array Value) (hv:xs.map a.eval=vs) (h:Calls P f vs w fun e w'=>∃ r,e = .returned r/\k.p r w'/\BwQ w w'):Stk P Q k o a w :=
 qdj f xs ts bJ ef vs hv (h.mono fun _ _ ⟨r,he,hk,hb⟩=>⟨r,he,r,rfl,hk,hb⟩)
theorem qh1 (t:Nat) (x:Operand) (bJ:o.op = .load t x) (v1:Value) (h1:a.eval x=v1) (v:Value) (cB:(Instr.loadAt t v1).run P w = .ok v w) (h:k.p v w):Stk P Q k o a w:=q8o t x bJ v1 h1 v cB ⟨_,rfl,h,Below.refl _ _⟩
end
theorem qtk {L:List (Int×Int)} {v:Value} {w:World} {S:Nat} (h:(Mok.ch L).holds v w) (hC:Cn L) (hS:LOk S L):(Fk.cf (co L) L.length S).holds v w:=⟨L,hC,fun _=>rfl,nlr _,hS.tok,h⟩
theorem qs2 {K:List Cl} {L:List (Int×Int)} (hN:Cn L) (h:∀ d,co L d≠0->d∈K.map Cl.id):L.length<=K.length:=by
 have o3:(L.map Prod.fst).Nodup:=List.pairwise_map.2 (hN.1.imp fun h e=>by omega);have:=qeh (U:=K.map Cl.id) o3 fun b hb=>by obtain⟨p,hp,rfl⟩:=gr.1 hb;exact h _ (by rw[zl hN.1 hp];exact hN.2 p hp)
 rwa [gn,gn] at this
theorem qru {K:List Cl} (hK:KOk K) (hl:K.length<=180) {L:List (Int×Int)} {r:Value} {w':World} {S:Nat} (hN:Cn L) (hr:Sl w' 3 r (tv (ctm L))) (cP:∀ d,co L d≠0->d∈K.map Cl.id) (dT:∀ d,nb (co L d)<=S):(Fk.cf (co L) 180 S).holds r w':=by
 have iK:∀ p∈L,co L p.1≠0:=fun p GG=>by rw[zl hN.1 GG];exact hN.2 p GG
 have hL:LOk S L:=fun p GG=>by
  obtain⟨y,hy,oI⟩:=gr.1 (cP _ (iK p GG));refine⟨oI ▸ (hK y hy).1.1,?_⟩;have:=dT p.1
  rwa [zl hN.1 GG] at this
 exact qko (qtk hr hN hL) (fun _=>rfl) (gl (qs2 hN cP) hl) (nlr _)
section
variable (v u:Value) (K:List Cl) (m:List (Int×Int)) (w:World) (h:(Mok.cx K).holds v w) (hK:KOk K) (hl:K.length<=180) (G:Cx.Good K) (k:(Mok.prs m).holds u w) (hp:∀ p∈m,I64 p.1/\I64 p.2)
include h hK hl G k hp
theorem qt8 (c:Int) (hc:I64 c):Calls Tryz.prog 46 #[v,u,.int .i64 c] w (qaj (.cf (upX K m c) 180 5000) w):=by
 obtain⟨x,l,rfl,e1,e2⟩:=h;have bL:l.length<=1000:=by rw[<-e2,gn] at hl;omega
 refine(qpf x u l m w e1 (by omega) (hK.cok e2) k hp c hc).mono ?_;rintro e w' ⟨r,M,rfl,hN,bK,hr,cP,dT,hb⟩;rw[e2] at bK cP;rw[G.cells.1] at cP;have:=qru hK hl hN (Sl.qc hr) cP dT;rw[bK] at this;exact⟨r,rfl,this,hb⟩
end
end Go.Proofs.YtlhicnfeajejhaaGreatDoor
