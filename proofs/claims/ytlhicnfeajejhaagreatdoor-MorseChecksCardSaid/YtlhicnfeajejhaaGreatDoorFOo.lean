/- Steps towards MorseChecks. Conditions: none. -/
import Derived.Test.YtlhicnfeajejhaaGreatDoorFOh
set_option maxRecDepth 1000000
set_option maxHeartbeats 16000000
namespace Go.Cx
open Go.RowKit Go.Proofs.YtlhicnfeajejhaaGreatDoor
theorem qal:∀ a:List Int,lexB a a=false
 | []=>rfl
 | x :: a=>by show (if x=x then lexB a a else _)=false;rw[if_pos rfl];exact qal a
theorem q69:∀ a b c:List Int,lexB a b=true->lexB b c=true->lexB a c=true
 | [],_,_,h,_=>by simp[lexB] at h
 | _ :: _,[],_,h,_=>by simp[lexB] at h
 | _ :: _,_ :: _,[],_,h=>by simp[lexB] at h
 | x :: a,y :: b,z :: c,h1,h2=>by
  have e1:(if x=y then lexB a b else decide (x < y))=true:=h1;have e2:(if y=z then lexB b c else decide (y < z))=true:=h2;show (if x=z then lexB a c else decide (x < z))=true;by_cases h:x=y
  ·rw[if_pos h] at e1;by_cases h':y=z
   ·rw[if_pos h'] at e2;rw[if_pos (h.trans h')];exact q69 a b c e1 e2
   ·rw[if_neg h'] at e2;rw[if_neg (by rw[h];exact h'),h];exact e2
  ·rw[if_neg h] at e1;have hlt:x < y:=by simpa using e1
   by_cases h':y=z
   ·rw[if_neg (by rw[<-h'];exact h),<-h'];exact e1
   ·rw[if_neg h'] at e2;have Gp:y < z:=by simpa using e2
    rw[if_neg (by omega)];exact decide_eq_true (by omega)
theorem qam:∀ a b:List Int,a.length=b.length->lexB a b=false->lexB b a=false->a=b
 | [],[],_,_,_=>rfl
 | [],_ :: _,h,_,_=>by simp at h
 | _ :: _,[],h,_,_=>by simp at h
 | x :: a,y :: b,h,h1,h2=>by
  have e1:(if x=y then lexB a b else decide (x < y))=false:=h1;have e2:(if y=x then lexB b a else decide (y < x))=false:=h2;by_cases hxy:x=y
  ·subst hxy;rw[if_pos rfl] at e1 e2;rw[qam a b (by simpa using h) e1 e2]
  ·rw[if_neg hxy] at e1;rw[if_neg (fun e=>hxy e.symm)] at e2;have h3:¬ x < y:=by simpa using e1
   have h4:¬ y < x:=by simpa using e2
   omega
theorem q12 (a:List Int):yf a a=false:=by unfold yf;rw[if_pos rfl];exact qal a
theorem q1f {a b c:List Int} (h1:yf a b=true) (h2:yf b c=true):yf a c=true:=by
 unfold yf at *;by_cases cy:a.length=b.length
 ·rw[if_pos cy] at h1;by_cases Cu:b.length=c.length
  ·rw[if_pos Cu] at h2;rw[if_pos (cy.trans Cu)];exact q69 _ _ _ h1 h2
  ·rw[if_neg Cu] at h2;rw[if_neg (by omega)];have:b.length < c.length:=by simpa using h2
   exact decide_eq_true (by omega)
 ·rw[if_neg cy] at h1;have h3:a.length < b.length:=by simpa using h1
  by_cases Cu:b.length=c.length
  ·rw[if_neg (by omega)];exact decide_eq_true (by omega)
  ·rw[if_neg Cu] at h2;have:b.length < c.length:=by simpa using h2
   rw[if_neg (by omega)];exact decide_eq_true (by omega)
theorem qi0 {a b:List Int} (h1:yf a b=false) (h2:yf b a=false):a=b:=by
 unfold yf at *;by_cases h:a.length=b.length
 ·rw[if_pos h] at h1;rw[if_pos h.symm] at h2;exact qam a b h h1 h2
 ·rw[if_neg h] at h1;rw[if_neg (fun e=>h e.symm)] at h2;have h3:¬ a.length < b.length:=by simpa using h1
  have h4:¬ b.length < a.length:=by simpa using h2
  omega
def q0v (A:List (List Int)):Prop:=A.Pairwise fun a b=>yf a b=true
theorem q0v.at {A:List (List Int)} (h:q0v A) {i j:Nat} (dS:i < j) (hj:j < A.length):yf (A.getD i []) (A.getD j [])=true:=by
 have:=gG.1 h i j (by omega) hj dS;simpa [List.getD_eq_getElem?_getD,show i < A.length by omega,hj] using this
theorem qc6 (A:List (List Int)) (s:List Int) (h:q0v A) (low high:Nat) (hh:high<=A.length) (h1:∀ i,i < low->yf (A.getD i []) s=true) (h2:∀ i,high<=i->i < A.length->yf (A.getD i []) s=false) :
  (∀ i,i < vw A s low high->yf (A.getD i []) s=true)/\(∀ i,vw A s low high<=i->i < A.length->yf (A.getD i []) s=false):=by
 fun_induction vw A s low high with
 | case1 low high hlt hb ih =>
  refine ih hh (fun i hi=>?_) h2;rcases gL i ((low+high) / 2) with ow | ow
  ·exact q1f (h.at ow (by omega)) hb
  ·rw[show i=(low+high) / 2 by omega];exact hb
 | case2 low high hlt hb ih =>
  refine ih (by omega) h1 (fun i hi hl=>?_);rcases gL ((low+high) / 2) i with ow | ow
  ·cases hc:yf (A.getD i []) s with
   | false=>rfl
   | true=>exact absurd (q1f (h.at ow hl) hc) hb
  ·rw[show i=(low+high) / 2 by omega];simpa using hb
 | case3 low high hlt =>
  exact⟨h1,fun i hi hl=>h2 i (by omega) hl⟩
theorem q6a {A:List (List Int)} (s:List Int) (h:q0v A):(∀ i,i < plc A s->yf (A.getD i []) s=true)/\(∀ i,plc A s<=i->i < A.length->yf (A.getD i []) s=false) :=
 qc6 A s h 0 A.length (nlr _) (fun i hi=>by omega) (fun i h1 h2=>by omega)
theorem q5e {A:List (List Int)} {s:List Int} (h:q0v A) (hs:s∈A):plc A s < A.length/\A.getD (plc A s) []=s:=by
 obtain⟨i,hi,rfl⟩:=List.getElem_of_mem hs;have he:A.getD i []=A[i]:=by simp[List.getD_eq_getElem?_getD,hi]
 obtain⟨h1,h2⟩:=q6a A[i] h;have h3:¬ i < plc A A[i]:=fun hlt=>by
  have:=h1 i hlt;rw[he,q12] at this;cases this
 have h4:¬ plc A A[i] < i:=fun hlt=>by
  have:=h2 _ (nlr _) (by omega);have h5:=h.at hlt hi;rw[he] at h5;rw[h5] at this;cases this
 have h5:plc A A[i]=i:=by omega
 exact⟨by omega,by rw[h5];exact he⟩
theorem qff {A:List (List Int)} {s:List Int} (h:q0v A) (hs:q34 A s=true):s∈A:=by
 unfold q34 at hs;rw[bf,decide_eq_true_eq,Bool.not_eq_true'] at hs;have h1:=(q6a s h).2 _ (nlr _) hs.1;have:=qi0 h1 hs.2;rw[<-this];rw[gI,g8 hs.1];exact List.getElem_mem _
theorem qi1 {A:List (List Int)} (h:q0v A) (s:List Int):s∈q24 A s:=by
 unfold q24;split
 ·rename_i hp;exact qff h hp
 ·simp
theorem qan {A:List (List Int)} (s:List Int) {u:List Int} (hu:u∈A):u∈q24 A s:=by
 unfold q24;split
 ·exact hu
 ·rw[<-gr (plc A s) A] at hu;rcases gF.1 hu with hu | hu
  ·exact gF.2 (.inl hu)
  ·exact gF.2 (.inr (gX _ hu))
theorem qi2 {A:List (List Int)} (h:q0v A) (s:List Int):q0v (q24 A s):=by
 unfold q24;split
 ·exact h
 ·rename_i hp;obtain⟨h1,h2⟩:=q6a s h;have hA:=h;unfold q0v at hA ⊢;rw[<-gr (plc A s) A,List.pairwise_append] at hA;obtain⟨a1,a2,a3⟩:=hA;have hs:∀ b∈A.drop (plc A s),yf s b=true:=fun b hb=>by
   obtain⟨j,hj,cX⟩:=List.getElem_of_mem hb;rw[gC] at hj;rw[List.getElem_drop] at cX;have cD:plc A s < A.length:=by omega
   have h3:yf s (A.getD (plc A s) [])=true:=by
    cases hc:yf s (A.getD (plc A s) []) with
    | true=>rfl
    | false=>exact absurd (by unfold q34;rw[hc];simpa using cD) hp
   have rp:A.getD (plc A s+j) []=b:=by rw[<-cX];simp[List.getD_eq_getElem?_getD,show plc A s+j < A.length by omega]
   rcases Nat.eq_zero_or_pos j with h0 | h0
   ·subst h0;rw[<-rp];exact h3
   ·rw[<-rp];exact q1f h3 (h.at (by omega) (by omega))
  refine List.pairwise_append.2 ⟨a1,gx.2 ⟨hs,a2⟩,fun a ha b hb=>?_⟩;rcases gt.1 hb with hb | hb
  ·subst hb;obtain⟨j,hj,cX⟩:=List.getElem_of_mem ha;rw[gh] at hj;rw[List.getElem_take] at cX;have:=h1 j (by omega)
   rwa [gI,g8 (by omega),Option.getD_some,cX] at this
  ·exact a3 a ha b hb
theorem qc7 (s:List Int) (A:List (List Int)) (h:q0v A) (n:Nat):q0v (kt s A n)/\(∀ u∈A,u∈kt s A n)/\(∀ b,b < n->j7 s (b+1)∈kt s A n)/\(∀ u∈kt s A n,u∈A\/∃ b,b < n/\u=j7 s (b+1)):=by
 induction n with
 | zero=>exact⟨h,fun u hu=>hu,fun b hb=>by omega,fun u hu=>.inl hu⟩
 | succ n ih =>
  obtain⟨h1,h2,h3,h4⟩:=ih;rw[q2o];refine⟨qi2 h1 _,fun u hu=>qan _ (h2 u hu),fun b hb=>?_,fun u hu=>?_⟩
  ·rcases gL b n with AO | AO
   ·exact qan _ (h3 b AO)
   ·rw[show b=n by omega];exact qi1 h1 _
  ·rcases qaf hu with hu | hu
   ·exact .inr ⟨n,by omega,hu⟩
   ·rcases h4 u hu with hu | ⟨b,hb,hu⟩
    ·exact .inl hu
    ·exact .inr ⟨b,by omega,hu⟩
theorem q07 (ls:List (List Int)):q0v (kg ls)/\(∀ s∈ls,∀ b,b < 2 ^ s.length - 1->j7 s (b+1)∈kg ls)/\(∀ u∈kg ls,∃ s∈ls,∃ b,b < 2 ^ s.length - 1/\u=j7 s (b+1)):=by
 have key:∀ (ls A:List (List Int)),q0v A->q0v (ls.foldl (fun a s=>kt s a (2 ^ s.length - 1)) A)/\(∀ u∈A,u∈ls.foldl (fun a s=>kt s a (2 ^ s.length - 1)) A)/\(∀ s∈ls,∀ b,b < 2 ^ s.length - 1->j7 s (b+1)∈ls.foldl (fun a s=>kt s a (2 ^ s.length - 1)) A)/\(∀ u∈ls.foldl (fun a s=>kt s a (2 ^ s.length - 1)) A,u∈A\/∃ s∈ls,∃ b,b < 2 ^ s.length - 1/\u=j7 s (b+1)):=fun ls=>by
  induction ls with
  | nil=>intro A h;exact⟨h,fun u hu=>hu,fun s hs=>(by cases hs),fun u hu=>Or.inl hu⟩
  | cons t ls ih =>
   intro A h;obtain⟨p1,p2,p3,p4⟩:=qc7 t A h (2 ^ t.length - 1);obtain⟨q1,q2,q3,q4⟩:=ih _ p1;refine⟨q1,fun u hu=>q2 u (p2 u hu),fun s hs b hb=>?_,fun u hu=>?_⟩
   ·rcases gt.1 hs with hs | hs
    ·subst hs;exact q2 _ (p3 b hb)
    ·exact q3 s hs b hb
   ·rcases q4 u hu with hu | ⟨s,hs,hx⟩
    ·rcases p4 u hu with hu | hx
     ·exact .inl hu
     ·exact .inr ⟨t,gP ..,hx⟩
    ·exact .inr ⟨s,gX _ hs,hx⟩
 obtain⟨h1,_,h3,h4⟩:=key ls [] List.Pairwise.nil;exact⟨h1,h3,fun u hu=>(h4 u hu).resolve_left (by simp)⟩
theorem qao (s:List Int):∀ b,List.Sublist (j7 s b) s:=by
 induction s with
 | nil=>intro b;exact List.Sublist.slnil
 | cons x s ih =>
  intro b;unfold j7;split
  ·exact(ih _).cons_cons x
  ·exact(ih _).cons x
theorem qi3 {u s:List Int} (h:List.Sublist u s):∃ b,b < 2 ^ s.length/\u=j7 s b:=by
 induction h with
 | slnil=>exact⟨0,by simp,rfl⟩
 | cons x _ ih =>
  obtain⟨b,hb,he⟩:=ih;refine⟨2*b,by rw[gD,Nat.pow_succ];omega,?_⟩;unfold j7;rw[if_neg (by omega),show 2*b / 2=b by omega];exact he
 | cons_cons x _ ih =>
  obtain⟨b,hb,he⟩:=ih;refine⟨2*b+1,by rw[gD,Nat.pow_succ];omega,?_⟩;unfold j7;rw[if_pos (by omega),show (2*b+1) / 2=b by omega,he]
theorem qfg (s:List Int):j7 s 0=[]:=by
 induction s with
 | nil=>rfl
 | cons x s ih=>unfold j7;rw[if_neg (by decide)];exact ih
theorem qi4 {ls:List (List Int)} {u v:List Int} (hu:u∈kg ls) (h:List.Sublist v u) (hv:v≠[]):v∈kg ls:=by
 obtain⟨_,h2,h3⟩:=q07 ls;obtain⟨s,hs,b,_,rfl⟩:=h3 u hu;obtain⟨c,hc,rfl⟩:=qi3 (h.trans (qao s _));cases c with
 | zero=>exact absurd (qfg s) hv
 | succ c=>exact h2 s hs c (by omega)
def ev (h:Int->Int):List Sd->Int
 | []=>0
 | s :: l=>h s.c*s.g+ev h l
theorem qnk (h:Int->Int) (l:List Sd) (x:Sd):ev h (yv l x)=ev h l+h x.c*x.g:=by
 induction l with
 | nil=>simp[yv,ev]
 | cons y l ih =>
  unfold yv;split
  ·show h y.c*y.g+ev h (yv l x)=h y.c*y.g+ev h l+_;rw[ih];omega
  ·show h x.c*x.g+(h y.c*y.g+ev h l)=h y.c*y.g+ev h l+_;omega
theorem qnl (h:Int->Int) (l:List Sd):ev h (zx l)=ev h l:=by
 have key:∀ (l a:List Sd),ev h (l.foldl yv a)=ev h a+ev h l:=fun l=>by
  induction l with
  | nil=>intro a;simp[ev]
  | cons x l ih =>
   intro a;rw[List.foldl_cons,ih,qnk];show _=ev h a+(h x.c*x.g+ev h l)
   omega
 have:=key l [];unfold zx;rw[this];simp[ev]
theorem qc8 (h:Int->Int) (a b:List (Int×Sd)):bdL h (a++b)=bdL h a++bdL h b:=by simp[bdL]
theorem q8y (a b:List Cl):z8 (a++b)=z8 a++z8 b:=by simp[z8]
theorem qfh (x:Cl):z8 [x]=x.s.map fun y=>(x.id,y):=by simp[z8]
end Go.Cx
