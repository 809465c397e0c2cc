/- Steps towards MorseMaps. Conditions: none. -/
import Derived.Test.YtlhicnfeajejhaaGreatDoorHOi
set_option maxRecDepth 1000000
set_option maxHeartbeats 16000000
namespace Go.Cx
open Go.RowKit Go.Proofs.YtlhicnfeajejhaaGreatDoor
theorem qal:∀ a:List Int,lexB a a=false
 | []=>rfl
 | x :: a=>by show (if x=x then lexB a a else _)=false;rw[if_pos rfl];exact qal a
theorem q69:∀ a b c:List Int,lexB a b=true->lexB b c=true->lexB a c=true
 | [],_,_,h,_=>by simp[lexB] at h
 | _ :: _,[],_,h,_=>by simp[lexB] at h
 | _ :: _,_ :: _,[],_,h=>by simp[lexB] at h
 | x :: a,y :: b,z :: c,h1,h2=>by
  have e1:(if x=y then lexB a b else decide (x < y))=true:=h1;have e2:(if y=z then lexB b c else decide (y < z))=true:=h2;show (if x=z then lexB a c else decide (x < z))=true;by_cases h:x=y
  ·rw[if_pos h] at e1;by_cases h':y=z
   ·rw[if_pos h'] at e2;rw[if_pos (h.trans h')];exact q69 a b c e1 e2
   ·rw[if_neg h'] at e2;rw[if_neg (by rw[h];exact h'),h];exact e2
  ·rw[if_neg h] at e1;have hlt:x < y:=by simpa using e1
   by_cases h':y=z
   ·rw[if_neg (by rw[<-h'];exact h),<-h'];exact e1
   ·rw[if_neg h'] at e2;have Jk:y < z:=by simpa using e2
    rw[if_neg (by omega)];exact decide_eq_true (by omega)
theorem qam:∀ a b:List Int,a.length=b.length->lexB a b=false->lexB b a=false->a=b
 | [],[],_,_,_=>rfl
 | [],_ :: _,h,_,_=>by simp at h
 | _ :: _,[],h,_,_=>by simp at h
 | x :: a,y :: b,h,h1,h2=>by
  have e1:(if x=y then lexB a b else decide (x < y))=false:=h1;have e2:(if y=x then lexB b a else decide (y < x))=false:=h2;by_cases hxy:x=y
  ·subst hxy;rw[if_pos rfl] at e1 e2;rw[qam a b (by simpa using h) e1 e2]
  ·rw[if_neg hxy] at e1;rw[if_neg (fun e=>hxy e.symm)] at e2;have h3:¬ x < y:=by simpa using e1
   have h4:¬ y < x:=by simpa using e2
   omega
theorem q12 (a:List Int):yf a a=false:=by unfold yf;rw[if_pos rfl];exact qal a
theorem q1f {a b c:List Int} (h1:yf a b=true) (h2:yf b c=true):yf a c=true:=by
 unfold yf at *;by_cases dc:a.length=b.length
 ·rw[if_pos dc] at h1;by_cases tq:b.length=c.length
  ·rw[if_pos tq] at h2;rw[if_pos (dc.trans tq)];exact q69 _ _ _ h1 h2
  ·rw[if_neg tq] at h2;rw[if_neg (by omega)];have:b.length < c.length:=by simpa using h2
   exact decide_eq_true (by omega)
 ·rw[if_neg dc] at h1;have h3:a.length < b.length:=by simpa using h1
  by_cases tq:b.length=c.length
  ·rw[if_neg (by omega)];exact decide_eq_true (by omega)
  ·rw[if_neg tq] at h2;have:b.length < c.length:=by simpa using h2
   rw[if_neg (by omega)];exact decide_eq_true (by omega)
theorem qi0 {a b:List Int} (h1:yf a b=false) (h2:yf b a=false):a=b:=by
 unfold yf at *;by_cases h:a.length=b.length
 ·rw[if_pos h] at h1;rw[if_pos h.symm] at h2;exact qam a b h h1 h2
 ·rw[if_neg h] at h1;rw[if_neg (fun e=>h e.symm)] at h2;have h3:¬ a.length < b.length:=by simpa using h1
  have h4:¬ b.length < a.length:=by simpa using h2
  omega
def q0v (A:List (List Int)):Prop:=A.Pairwise fun a b=>yf a b=true
theorem q0v.at {A:List (List Int)} (h:q0v A) {i j:Nat} (iB:i < j) (hj:j < A.length):yf (A.getD i []) (A.getD j [])=true:=by
 have:=gO.1 h i j (by omega) hj iB;simpa [List.getD_eq_getElem?_getD,show i < A.length by omega,hj] using this
theorem qc6 (A:List (List Int)) (s:List Int) (h:q0v A) (low high:Nat) (hh:high<=A.length) (h1:∀ i,i < low->yf (A.getD i []) s=true) (h2:∀ i,high<=i->i < A.length->yf (A.getD i []) s=false) :
  (∀ i,i < vw A s low high->yf (A.getD i []) s=true)/\(∀ i,vw A s low high<=i->i < A.length->yf (A.getD i []) s=false):=by
 fun_induction vw A s low high with
 | case1 low high hlt hb ih =>
  refine ih hh (fun i hi=>?_) h2;rcases gQ i ((low+high) / 2) with pR | pR
  ·exact q1f (h.at pR (by omega)) hb
  ·rw[show i=(low+high) / 2 by omega];exact hb
 | case2 low high hlt hb ih =>
  refine ih (by omega) h1 (fun i hi hl=>?_);rcases gQ ((low+high) / 2) i with pR | pR
  ·cases hc:yf (A.getD i []) s with
   | false=>rfl
   | true=>exact absurd (q1f (h.at pR hl) hc) hb
  ·rw[show i=(low+high) / 2 by omega];simpa using hb
 | case3 low high hlt =>
  exact⟨h1,fun i hi hl=>h2 i (by omega) hl⟩
theorem q6a {A:List (List Int)} (s:List Int) (h:q0v A):(∀ i,i < plc A s->yf (A.getD i []) s=true)/\(∀ i,plc A s<=i->i < A.length->yf (A.getD i []) s=false) :=
 qc6 A s h 0 A.length (nlr _) (fun i hi=>by omega) (fun i h1 h2=>by omega)
theorem q5e {A:List (List Int)} {s:List Int} (h:q0v A) (hs:s∈A):plc A s < A.length/\A.getD (plc A s) []=s:=by
 obtain⟨i,hi,rfl⟩:=List.getElem_of_mem hs;have he:A.getD i []=A[i]:=by simp[List.getD_eq_getElem?_getD,hi]
 obtain⟨h1,h2⟩:=q6a A[i] h;have h3:¬ i < plc A A[i]:=fun hlt=>by
  have:=h1 i hlt;rw[he,q12] at this;cases this
 have h4:¬ plc A A[i] < i:=fun hlt=>by
  have:=h2 _ (nlr _) (by omega);have h5:=h.at hlt hi;rw[he] at h5;rw[h5] at this;cases this
 have h5:plc A A[i]=i:=by omega
 exact⟨by omega,by rw[h5];exact he⟩
theorem qff {A:List (List Int)} {s:List Int} (h:q0v A) (hs:q34 A s=true):s∈A:=by
 unfold q34 at hs;rw[be,decide_eq_true_eq,Bool.not_eq_true'] at hs;have h1:=(q6a s h).2 _ (nlr _) hs.1;have:=qi0 h1 hs.2;rw[<-this];rw[gF,g8 hs.1];exact List.getElem_mem _
theorem qi1 {A:List (List Int)} (h:q0v A) (s:List Int):s∈q24 A s:=by
 unfold q24;split
 ·rename_i hp;exact qff h hp
 ·simp
theorem qan {A:List (List Int)} (s:List Int) {u:List Int} (hu:u∈A):u∈q24 A s:=by
 unfold q24;split
 ·exact hu
 ·rw[<-gr (plc A s) A] at hu;rcases gH.1 hu with hu | hu
  ·exact gH.2 (.inl hu)
  ·exact gH.2 (.inr (bg _ hu))
theorem qi2 {A:List (List Int)} (h:q0v A) (s:List Int):q0v (q24 A s):=by
 unfold q24;split
 ·exact h
 ·rename_i hp;obtain⟨h1,h2⟩:=q6a s h;have hA:=h;unfold q0v at hA ⊢;rw[<-gr (plc A s) A,List.pairwise_append] at hA;obtain⟨a1,a2,a3⟩:=hA;have hs:∀ b∈A.drop (plc A s),yf s b=true:=fun b hb=>by
   obtain⟨j,hj,dC⟩:=List.getElem_of_mem hb;rw[gu] at hj;rw[List.getElem_drop] at dC;have dy:plc A s < A.length:=by omega
   have h3:yf s (A.getD (plc A s) [])=true:=by
    cases hc:yf s (A.getD (plc A s) []) with
    | true=>rfl
    | false=>exact absurd (by unfold q34;rw[hc];simpa using dy) hp
   have th:A.getD (plc A s+j) []=b:=by rw[<-dC];simp[List.getD_eq_getElem?_getD,show plc A s+j < A.length by omega]
   rcases Nat.eq_zero_or_pos j with h0 | h0
   ·subst h0;rw[<-th];exact h3
   ·rw[<-th];exact q1f h3 (h.at (by omega) (by omega))
  refine List.pairwise_append.2 ⟨a1,gG.2 ⟨hs,a2⟩,fun a ha b hb=>?_⟩;rcases gw.1 hb with hb | hb
  ·subst hb;obtain⟨j,hj,dC⟩:=List.getElem_of_mem ha;rw[gd] at hj;rw[List.getElem_take] at dC;have:=h1 j (by omega)
   rwa [gF,g8 (by omega),Option.getD_some,dC] at this
  ·exact a3 a ha b hb
theorem qc7 (s:List Int) (A:List (List Int)) (h:q0v A) (n:Nat):q0v (kt s A n)/\(∀ u∈A,u∈kt s A n)/\(∀ b,b < n->j7 s (b+1)∈kt s A n)/\(∀ u∈kt s A n,u∈A\/∃ b,b < n/\u=j7 s (b+1)):=by
 induction n with
 | zero=>exact⟨h,fun u hu=>hu,fun b hb=>by omega,fun u hu=>.inl hu⟩
 | succ n ih =>
  obtain⟨h1,h2,h3,h4⟩:=ih;rw[q2o];refine⟨qi2 h1 _,fun u hu=>qan _ (h2 u hu),fun b hb=>?_,fun u hu=>?_⟩
  ·rcases gQ b n with jM | jM
   ·exact qan _ (h3 b jM)
   ·rw[show b=n by omega];exact qi1 h1 _
  ·rcases qaf hu with hu | hu
   ·exact .inr ⟨n,by omega,hu⟩
   ·rcases h4 u hu with hu | ⟨b,hb,hu⟩
    ·exact .inl hu
    ·exact .inr ⟨b,by omega,hu⟩
theorem q07 (ls:List (List Int)):q0v (kg ls)/\(∀ s∈ls,∀ b,b < 2 ^ s.length - 1->j7 s (b+1)∈kg ls)/\(∀ u∈kg ls,∃ s∈ls,∃ b,b < 2 ^ s.length - 1/\u=j7 s (b+1)):=by
 have key:∀ (ls A:List (List Int)),q0v A->q0v (ls.foldl (fun a s=>kt s a (2 ^ s.length - 1)) A)/\(∀ u∈A,u∈ls.foldl (fun a s=>kt s a (2 ^ s.length - 1)) A)/\(∀ s∈ls,∀ b,b < 2 ^ s.length - 1->j7 s (b+1)∈ls.foldl (fun a s=>kt s a (2 ^ s.length - 1)) A)/\(∀ u∈ls.foldl (fun a s=>kt s a (2 ^ s.length - 1)) A,u∈A\/∃ s∈ls,∃ b,b < 2 ^ s.length - 1/\u=j7 s (b+1)):=fun ls=>by
  induction ls with
  | nil=>intro A h;exact⟨h,fun u hu=>hu,fun s hs=>(by cases hs),fun u hu=>Or.inl hu⟩
  | cons t ls ih =>
   intro A h;obtain⟨p1,p2,p3,p4⟩:=qc7 t A h (2 ^ t.length - 1);obtain⟨q1,q2,q3,q4⟩:=ih _ p1;refine⟨q1,fun u hu=>q2 u (p2 u hu),fun s hs b hb=>?_,fun u hu=>?_⟩
   ·rcases gw.1 hs with hs | hs
    ·subst hs;exact q2 _ (p3 b hb)
    ·exact q3 s hs b hb
   ·rcases q4 u hu with hu | ⟨s,hs,hx⟩
    ·rcases p4 u hu with hu | hx
     ·exact .inl hu
     ·exact .inr ⟨t,gT ..,hx⟩
    ·exact .inr ⟨s,bg _ hs,hx⟩
 obtain⟨h1,_,h3,h4⟩:=key ls [] List.Pairwise.nil;exact⟨h1,h3,fun u hu=>(h4 u hu).resolve_left (by simp)⟩
theorem qao (s:List Int):∀ b,List.Sublist (j7 s b) s:=by
 induction s with
 | nil=>intro b;exact List.Sublist.slnil
 | cons x s ih =>
  intro b;unfold j7;split
  ·exact(ih _).cons_cons x
  ·exact(ih _).cons x
theorem qi3 {u s:List Int} (h:List.Sublist u s):∃ b,b < 2 ^ s.length/\u=j7 s b:=by
 induction h with
 | slnil=>exact⟨0,by simp,rfl⟩
 | cons x _ ih =>
  obtain⟨b,hb,he⟩:=ih;refine⟨2*b,by rw[gx,Nat.pow_succ];omega,?_⟩;unfold j7;rw[if_neg (by omega),show 2*b / 2=b by omega];exact he
 | cons_cons x _ ih =>
  obtain⟨b,hb,he⟩:=ih;refine⟨2*b+1,by rw[gx,Nat.pow_succ];omega,?_⟩;unfold j7;rw[if_pos (by omega),show (2*b+1) / 2=b by omega,he]
theorem qfg (s:List Int):j7 s 0=[]:=by
 induction s with
 | nil=>rfl
 | cons x s ih=>unfold j7;rw[if_neg (by decide)];exact ih
theorem qi4 {ls:List (List Int)} {u v:List Int} (hu:u∈kg ls) (h:List.Sublist v u) (hv:v≠[]):v∈kg ls:=by
 obtain⟨_,h2,h3⟩:=q07 ls;obtain⟨s,hs,b,_,rfl⟩:=h3 u hu;obtain⟨c,hc,rfl⟩:=qi3 (h.trans (qao s _));cases c with
 | zero=>exact absurd (qfg s) hv
 | succ c=>exact h2 s hs c (by omega)
def ev (h:Int->Int):List Sd->Int
 | []=>0
 | s :: l=>h s.c*s.g+ev h l
theorem qnk (h:Int->Int) (l:List Sd) (x:Sd):ev h (yv l x)=ev h l+h x.c*x.g:=by
 induction l with
 | nil=>simp[yv,ev]
 | cons y l ih =>
  unfold yv;split
  ·show h y.c*y.g+ev h (yv l x)=h y.c*y.g+ev h l+_;rw[ih];omega
  ·show h x.c*x.g+(h y.c*y.g+ev h l)=h y.c*y.g+ev h l+_;omega
theorem qnl (h:Int->Int) (l:List Sd):ev h (zx l)=ev h l:=by
 have key:∀ (l a:List Sd),ev h (l.foldl yv a)=ev h a+ev h l:=fun l=>by
  induction l with
  | nil=>intro a;simp[ev]
  | cons x l ih =>
   intro a;rw[List.foldl_cons,ih,qnk];show _=ev h a+(h x.c*x.g+ev h l)
   omega
 have:=key l [];unfold zx;rw[this];simp[ev]
theorem qsg (h:Int->Int) (n:Int) (x:Cl):co (cbL h (x.s.map fun y=>(x.id,y))) n=if x.id=n then ev h x.s else 0:=by
 generalize x.s=l;induction l with
 | nil=>simp[cbL,co,ev]
 | cons s l ih =>
  show (if x.id=n then h s.c*s.g else 0)+co (cbL h (l.map fun y=>(x.id,y))) n=if x.id=n then h s.c*s.g+ev h l else 0
  rw[ih];split <;> omega
theorem qrg (h:Int->Int) (a b:List (Int×Sd)):cbL h (a++b)=cbL h a++cbL h b:=by simp[cbL]
theorem qc8 (h:Int->Int) (a b:List (Int×Sd)):bdL h (a++b)=bdL h a++bdL h b:=by simp[bdL]
theorem q8y (a b:List Cl):z8 (a++b)=z8 a++z8 b:=by simp[z8]
theorem qfh (x:Cl):z8 [x]=x.s.map fun y=>(x.id,y):=by simp[z8]
theorem qty (h:Int->Int) (A:List (List Int)) (i:Nat):∀ n,co (cbL h (z8 (xf A n))) ((i:Int)+1)=if i < n then ev h (xy A i (A.getD i [])).s else 0:=by
 intro n;induction n with
 | zero=>simp[xf,z8,cbL,co]
 | succ n ih =>
  rw[q4o,q8y,qrg,ji,ih,qfh,qsg];show _+(if (n:Int)+1=(i:Int)+1 then _ else 0)=_;by_cases cO:i=n
  ·subst cO;rw[if_neg (by omega),if_pos rfl,if_pos (by omega),Int.zero_add]
  ·rw[if_neg (show ¬ (n:Int)+1=(i:Int)+1 by omega),bo];by_cases h2:i < n
   ·rw[if_pos h2,if_pos (by omega)]
   ·rw[if_neg h2,if_neg (by omega)]
theorem qur (h:Int->Int) (ls:List (List Int)) {u:List Int} (hu:u∈kg ls):co (cbL h (z8 (q0m ls))) (((plc (kg ls) u:Nat):Int)+1)=ev h (z7 (kg ls) u (if 1 < u.length then u.length else 0)):=by
 obtain⟨h1,h2⟩:=q5e (q07 ls).1 hu;unfold q0m;rw[qty,if_pos h1,h2];show ev h (zx _)=_;rw[qnl]
theorem qtz (h:Int->Int) (ls:List (List Int)) (hl:∀ s∈ls,s.length<=4) {t:List Int} (ht:t∈kg ls):ev (co (cbL h (z8 (q0m ls)))) (z7 (kg ls) t (if 1 < t.length then t.length else 0))=0:=by
 have hlen:=q8x ls hl t ht;have bZ:∀ u,List.Sublist u t->u≠[]->co (cbL h (z8 (q0m ls))) (((plc (kg ls) u:Nat):Int)+1)=ev h (z7 (kg ls) u (if 1 < u.length then u.length else 0)):=fun u hs hu=>qur h ls (qi4 ht hs hu)
 generalize hA:kg ls=A at *;generalize co (cbL h (z8 (q0m ls)))=H at *
 match t,hlen with
 | [],_=>rfl
 | [a],_=>rfl
 | [a,b],_ =>
  have h1:=bZ [b] (by simp) (by simp);have h2:=bZ [a] (by simp) (by simp);simp[z7,ev,List.range_succ] at h1 h2 ⊢;rw[h1,h2];simp
 | [a,b,c],_ =>
  have h1:=bZ [b,c] (by simp) (by simp);have h2:=bZ [a,c] (by simp) (by simp);have h3:=bZ [a,b] (by simp) (by simp);simp[z7,ev,List.range_succ] at h1 h2 h3 ⊢;rw[h1,h2,h3];omega
 | [a,b,c,d],_ =>
  have h1:=bZ [b,c,d] (by simp) (by simp);have h2:=bZ [a,c,d] (by simp) (by simp);have h3:=bZ [a,b,d] (by simp) (by simp);have h4:=bZ [a,b,c] (by simp) (by simp);simp[z7,ev,List.range_succ] at h1 h2 h3 h4 ⊢;rw[h1,h2,h3,h4];omega
 | _ :: _ :: _ :: _ :: _ :: _,hl=>simp at hl
theorem qus (h:Int->Int) (ls:List (List Int)) (hl:∀ s∈ls,s.length<=4) (c:Int):co (cbL (co (cbL h (z8 (q0m ls)))) (z8 (q0m ls))) c=0:=by
 have key:∀ (H:Int->Int) (K:List Cl),(∀ x∈K,ev H x.s=0)->co (cbL H (z8 K)) c=0:=fun H K=>by
  induction K with
  | nil=>intro _;rfl
  | cons x K ih =>
   intro hx;rw[show x :: K=[x]++K from rfl,q8y,qrg,ji,qfh,qsg,ih (fun y hy=>hx y (bg _ hy)),hx x (gT ..)];split <;> rfl
 refine key _ _ fun x hx=>?_
 unfold q0m at hx;obtain⟨i,hi,rfl⟩:=go.1 hx;have hi:=gC.1 hi;have hm:(kg ls).getD i []∈kg ls:=by
  rw[gF,g8 hi];exact List.getElem_mem _
 show ev _ (zx _)=0;rw[qnl];exact qtz h ls hl hm
theorem qud (f h:Int->Int) (R:List (Int×Sd)):pg h (bdL f R)=pg f (cbL h R):=by
 induction R with
 | nil=>rfl
 | cons p R ih =>
  show h p.2.c*(f p.1*p.2.g)+pg h (bdL f R)=f p.1*(h p.2.c*p.2.g)+pg f (cbL h R);rw[ih,Int.mul_left_comm]
theorem qu0 (f:Int->Int) (L:List (Int×Int)) (h:∀ c,co L c=0):pg f L=0:=by
 have:=qsv f L.length L [] (by simp) (fun c=>by rw[h c];rfl);exact this
theorem qsz (c:Int) (L:List (Int×Int)):pg (fun d=>if d=c then 1 else 0) L=co L c:=by
 induction L with
 | nil=>rfl
 | cons p L ih =>
  show (if p.1=c then 1 else 0)*p.2+pg _ L=(if p.1=c then p.2 else 0)+co L c;rw[ih];split <;> simp
theorem qu1 (M:List (Int×Int)):∀ L:List (Int×Int),pg (co M) L=pg (co L) M:=fun L=>by
 induction L with
 | nil =>
  show 0=pg (fun _=>0) M;induction M with
  | nil=>rfl
  | cons p M ih=>show _=0*p.2+pg (fun _=>0) M;rw[<-ih];simp
 | cons p L ih =>
  show co M p.1*p.2+pg (co M) L=pg (fun d=>(if p.1=d then p.2 else 0)+co L d) M;rw[ih];clear ih;induction M with
  | nil=>simp[pg,co]
  | cons q M ih =>
   show ((if q.1=p.1 then q.2 else 0)+co M p.1)*p.2+(co L q.1*q.2+pg (co L) M)=((if p.1=q.1 then p.2 else 0)+co L q.1)*q.2+pg _ M;rw[<-ih,Int.add_mul,Int.add_mul];by_cases h:q.1=p.1
   ·rw[if_pos h,if_pos h.symm,Int.mul_comm p.2];omega
   ·rw[if_neg h,if_neg (fun e=>h e.symm)];simp;omega
theorem qut (f:Int->Int) (ls:List (List Int)) (hl:∀ s∈ls,s.length<=4) (c:Int):co (bdL (co (bdL f (z8 (q0m ls)))) (z8 (q0m ls))) c=0:=by
 rw[<-qsz c,qud];generalize hd:(fun d=>if d=c then (1:Int) else 0)=δ;rw[qu1,qud];exact qu0 f _ (qus δ ls hl)
end Go.Cx
