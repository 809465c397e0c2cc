/- Steps towards MorseChecks. Conditions: none. -/
import Derived.BigQuiet
import Derived.Lib.Hide
import Derived.Test.YtlhicnfeajejhaaGreatDoorProg
import Derived.WalkLawsBesides
import Derived.WalkSpells
set_option maxRecDepth 1000000
set_option maxHeartbeats 16000000
theorem lhd {p:Prop} (h:p):Go.RowKit.Hid p:=Go.Lib.hid h
theorem osi {α:Type _} {a b:α} (h:some a=some b):a=b:=Option.some.inj h
theorem aiq {a b:Prop} (x:a) (y:b):a/\b:=⟨x,y⟩
theorem nlr (n:Nat):n<=n:=Nat.le_refl n
theorem g8:type_of% @List.getElem?_eq_getElem:=@List.getElem?_eq_getElem
theorem gc:type_of% @List.getElem?_eq_some_iff:=@List.getElem?_eq_some_iff
theorem gd:type_of% @List.mem_of_getElem?:=@List.mem_of_getElem?
theorem ge:type_of% @List.take_of_length_le:=@List.take_of_length_le
theorem gh:type_of% @List.length_take:=@List.length_take
theorem gl:type_of% @List.length_append:=@List.length_append
theorem gm:type_of% @List.length_map:=@List.length_map
theorem gn:type_of% @Nat.le_trans:=@Nat.le_trans
theorem go:type_of% @List.mem_map:=@List.mem_map
theorem gp:type_of% @Nat.zero_le:=@Nat.zero_le
theorem gq:type_of% @List.take_add_one:=@List.take_add_one
theorem gr:type_of% @List.take_append_drop:=@List.take_append_drop
theorem gt:type_of% @List.mem_cons:=@List.mem_cons
theorem gu:type_of% @List.eq_nil_of_length_eq_zero:=@List.eq_nil_of_length_eq_zero
theorem gv:type_of% @Option.some_ne_none:=@Option.some_ne_none
theorem gw:type_of% @Array.getElem?_eq_some_iff:=@Array.getElem?_eq_some_iff
theorem gx:type_of% @List.pairwise_cons:=@List.pairwise_cons
theorem gy:type_of% @List.mem_range:=@List.mem_range
theorem gz:type_of% @List.append_assoc:=@List.append_assoc
theorem gC:type_of% @List.length_drop:=@List.length_drop
theorem gD:type_of% @List.length_cons:=@List.length_cons
theorem gE:type_of% @List.mem_map_of_mem:=@List.mem_map_of_mem
theorem gF:type_of% @List.mem_append:=@List.mem_append
theorem gG:type_of% @List.pairwise_iff_getElem:=@List.pairwise_iff_getElem
theorem gH:type_of% @List.mem_filter:=@List.mem_filter
theorem gI:type_of% @List.getD_eq_getElem?_getD:=@List.getD_eq_getElem?_getD
theorem gK:type_of% @Nat.mul_one:=@Nat.mul_one
theorem gL:type_of% @Nat.lt_or_ge:=@Nat.lt_or_ge
theorem gM:type_of% @List.not_mem_nil:=@List.not_mem_nil
theorem gN:type_of% @List.map_cons:=@List.map_cons
theorem gO:type_of% @List.getElem?_append_right:=@List.getElem?_append_right
theorem gP:type_of% @List.mem_cons_self:=@List.mem_cons_self
theorem gQ:type_of% @List.append_nil:=@List.append_nil
theorem gR:type_of% @Classical.byContradiction:=@Classical.byContradiction
theorem gT:type_of% @List.mem_of_find?_eq_some:=@List.mem_of_find?_eq_some
theorem gU:type_of% @List.mem_of_mem_take:=@List.mem_of_mem_take
theorem gV:type_of% @List.cons_append:=@List.cons_append
theorem gW:type_of% @List.drop_of_length_le:=@List.drop_of_length_le
theorem gX:type_of% @List.mem_cons_of_mem:=@List.mem_cons_of_mem
theorem gY:type_of% @List.getElem?_of_mem:=@List.getElem?_of_mem
theorem gZ:type_of% @Nat.lt_of_lt_of_le:=@Nat.lt_of_lt_of_le
theorem be:type_of% @List.drop_eq_getElem_cons:=@List.drop_eq_getElem_cons
theorem bf:type_of% @Bool.and_eq_true:=@Bool.and_eq_true
theorem bg:type_of% @List.length_filter_le:=@List.length_filter_le
theorem bh:type_of% @List.sum_cons:=@List.sum_cons
theorem bi:type_of% @Array.length_toList:=@Array.length_toList
theorem bm:type_of% @List.filter_append:=@List.filter_append
theorem bo:type_of% @List.map_append:=@List.map_append
theorem bp:type_of% @List.range_succ:=@List.range_succ
theorem br:type_of% @List.getElem?_append_left:=@List.getElem?_append_left
theorem bt:type_of% @Nat.pow_le_pow_right:=@Nat.pow_le_pow_right
theorem bu:type_of% @List.mem_of_mem_drop:=@List.mem_of_mem_drop
theorem bw:type_of% @Nat.mul_le_mul_right:=@Nat.mul_le_mul_right
theorem bA:type_of% @List.length_nil:=@List.length_nil
theorem bB:type_of% @Nat.min_eq_left:=@Nat.min_eq_left
theorem bC:type_of% @List.all_eq_true:=@List.all_eq_true
theorem bD:type_of% @Int.add_zero:=@Int.add_zero
namespace Go.Cx
def val (B:Nat):List Nat->Nat
 | []=>0
 | d :: l=>d+B*val B l
theorem q5j (B:Nat) (l m:List Nat):val B (l++m)=val B l+B ^ l.length*val B m:=by
 induction l with
 | nil=>simp[val]
 | cons d l ih=>simp only [List.cons_append,val,ih,List.length_cons,Nat.pow_succ,Nat.mul_add,Nat.add_assoc];rw[Nat.mul_comm (B ^ l.length) B,Nat.mul_assoc]
theorem vu (B:Nat) (l:List Nat) (d:Nat):val B (l++[d])=val B l+B ^ l.length*d:=by
 rw[q5j];simp[val]
def dig (B:Nat) (n:Nat):List Nat:=if _h:2<=B/\n≠0 then n % B :: dig B (n / B) else []
termination_by n
decreasing_by exact Nat.div_lt_self (by omega) (by omega)
theorem jr (B:Nat):dig B 0=[]:=by rw[dig];simp
theorem q53 (B n:Nat) (hB:2<=B) (hn:n≠0):dig B n=n % B :: dig B (n / B):=by rw[dig];simp[hB,hn]
theorem xw (B:Nat) (hB:2<=B) (n:Nat):val B (dig B n)=n:=by
 induction n using Nat.strongRecOn with
 | _ n ih =>
  by_cases hn:n=0
  ·subst hn;simp[jr,val]
  ·rw[q53 B n hB hn,val,ih _ (Nat.div_lt_self (by omega) (by omega))];exact Nat.mod_add_div n B
def InR (B:Nat) (l:List Nat):Prop:=∀ d∈l,d < B
theorem zb (B:Nat) (hB:2<=B) (n:Nat):InR B (dig B n):=by
 induction n using Nat.strongRecOn with
 | _ n ih =>
  by_cases hn:n=0
  ·subst hn;intro d hd;simp[jr] at hd
  ·rw[q53 B n hB hn];intro d hd;rcases gt.1 hd with rfl | hd
   ·exact Nat.mod_lt _ (by omega)
   ·exact ih _ (Nat.div_lt_self (by omega) (by omega)) d hd
theorem q01 {B:Nat} {l m:List Nat} (h:InR B l) (k:InR B m):InR B (l++m):=by
 intro d hd;rcases gF.1 hd with h' | h'
 ·exact h d h'
 ·exact k d h'
theorem q9m {B d:Nat} {l:List Nat} (h:d < B) (k:InR B l):InR B (d :: l):=by
 intro e he;rcases gt.1 he with rfl | he
 ·exact h
 ·exact k e he
theorem q3j (B:Nat):InR B []:=fun d hd=>by simp at hd
theorem q2g {B d:Nat} (h:d < B):InR B [d]:=q9m h (q3j B)
theorem q5k (B:Nat) (l:List Nat) (h:InR B l):val B l < B ^ l.length:=by
 induction l with
 | nil=>simp[val]
 | cons d l ih =>
  have h1:=ih (fun e he=>h e (gX _ he));have h2:d < B:=h d (gP ..);have h3:B*(val B l+1)<=B*B ^ l.length:=Nat.mul_le_mul_left _ h1;simp only [val,List.length_cons,Nat.pow_succ];rw[Nat.mul_comm (B ^ l.length) B];rw[Nat.mul_add] at h3;omega
def trim:List Nat->List Nat
 | []=>[]
 | d :: l=>if trim l=[]/\d=0 then [] else d :: trim l
theorem q2h (l:List Nat) (d:Nat):trim (l++[d])=if d=0 then trim l else l++[d]:=by
 induction l with
 | nil=>simp[trim]
 | cons x l ih =>
  rw[gV,trim,ih];by_cases hd:d=0
  ·simp[hd,trim]
  ·simp[hd]
theorem q9n (B:Nat) (l:List Nat):val B (trim l)=val B l:=by
 induction l with
 | nil=>rfl
 | cons d l ih =>
  rw[trim];split
  ·rename_i h;obtain⟨h1,h2⟩:=h;rw[h1] at ih;simp only [val] at ih ⊢;rw[<-ih];simp[h2]
  ·simp[val,ih]
theorem ze (B:Nat) (hB:2<=B) (l:List Nat) (h:InR B l):trim l=dig B (val B l):=by
 induction l with
 | nil=>simp[trim,val,jr]
 | cons d l ih =>
  have hd:d < B:=h d (gP ..);have Gb:=ih (fun e he=>h e (gX _ he));have hm:(d+B*val B l) % B=d:=by rw[Nat.add_mul_mod_self_left];exact Nat.mod_eq_of_lt hd
  have hq:(d+B*val B l) / B=val B l:=by rw[Nat.add_mul_div_left _ _ (by omega:0 < B),Nat.div_eq_of_lt hd,Nat.zero_add]
  rw[trim,val];by_cases hz:d+B*val B l=0
  ·have h1:d=0:=by omega
   have h2:val B l=0:=by
    have:B*val B l=0:=by omega
    rcases Nat.mul_eq_zero.1 this with h | h
    ·omega
    ·exact h
   rw[hz,jr,Gb,h2,jr];simp[h1]
  ·rw[q53 B _ hB hz,hm,hq,<-Gb];split
   ·rename_i hc;exfalso
    rw[Gb] at hc;have:val B l=0:=by
     have:=xw B hB (val B l);rw[hc.1] at this;simpa [val] using this.symm
    rw[this] at hz;simp at hz;exact hz hc.2
   ·rfl
theorem q02 (l:List Nat):(trim l).length<=l.length:=by
 induction l with
 | nil=>simp[trim]
 | cons d l ih=>rw[trim];split <;> simp;omega
theorem qem (l:List Nat):trim l=l.take (trim l).length:=by
 induction l with
 | nil=>rfl
 | cons d l ih =>
  rw[trim];split
  ·simp
  ·simp;exact ih
theorem q9o {B:Nat} {l:List Nat} (h:InR B l):InR B (trim l):=by
 rw[qem];exact fun d hd=>h d (gU hd)
theorem qgc (B n:Nat) (hB:2<=B):trim (dig B n)=dig B n:=by
 rw[ze B hB _ (zb B hB n),xw B hB]
theorem q15 (B n:Nat) (hB:2<=B):dig B n=[]↔n=0:=by
 constructor
 ·intro h;have:=xw B hB n;rw[h] at this;simpa [val] using this.symm
 ·rintro rfl;exact jr B
theorem y9 (B:Nat) (hB:2<=B) (n k:Nat) (h:n < B ^ k):(dig B n).length<=k:=by
 induction k generalizing n with
 | zero=>simp at h;subst h;simp[jr]
 | succ k ih =>
  by_cases hn:n=0
  ·subst hn;simp[jr]
  ·rw[q53 B n hB hn];have:n / B < B ^ k:=by
    rw[Nat.div_lt_iff_lt_mul (by omega)];rwa [Nat.pow_succ] at h
   have:=ih _ this;simp;omega
theorem zy (B:Nat) (hB:2<=B) (n:Nat):n < B ^ (dig B n).length:=by
 have:=q5k B (dig B n) (zb B hB n)
 rwa [xw B hB] at this
theorem j4 (B:Nat) (hB:2<=B) (m n:Nat) (h:m<=n):(dig B m).length<=(dig B n).length :=
 y9 B hB m _ (Nat.lt_of_le_of_lt h (zy B hB n))
theorem q16 (B:Nat) (hB:2<=B) (m n:Nat) (h:(dig B m).length < (dig B n).length):m < n:=by
 rcases gL m n with h' | h'
 ·exact h'
 ·have:=j4 B hB n m h';omega
def qy (l:List UInt8):Nat:=l.foldl (fun a c=>a*256+c.toNat) 0
theorem q9p (l:List UInt8) (a:Nat):l.foldl (fun a c=>a*256+c.toNat) a=a*256 ^ l.length+qy l:=by
 induction l generalizing a with
 | nil=>simp[qy]
 | cons c l ih =>
  have h:qy (c :: l)=c.toNat*256 ^ l.length+qy l:=by
   have h:=ih (0*256+c.toNat);rw[Nat.zero_mul,Nat.zero_add] at h;rw[<-h];simp[qy]
  rw[List.foldl_cons,ih (a*256+c.toNat),h,gD,Nat.pow_succ,Nat.add_mul];have:a*256*256 ^ l.length=a*(256 ^ l.length*256):=by rw[Nat.mul_assoc,Nat.mul_comm 256]
  omega
theorem ki (l m:List UInt8):qy (l++m)=qy l*256 ^ m.length+qy m:=by
 rw[qy,List.foldl_append,q9p];rfl
theorem qbm (l:List UInt8) (c:UInt8):qy (l++[c])=qy l*256+c.toNat:=by
 rw[ki];simp[qy]
theorem q5l (c:UInt8) (l:List UInt8):qy (c :: l)=c.toNat*256 ^ l.length+qy l:=by
 have:=ki [c] l;simpa [qy] using this
def bytesOf (n:Nat):List UInt8:=((dig 256 n).map UInt8.ofNat).reverse
theorem q7c (l:List Nat) (h:InR 256 l):qy ((l.map UInt8.ofNat).reverse)=val 256 l:=by
 induction l with
 | nil=>rfl
 | cons d l ih =>
  have hd:d < 256:=h d (gP ..);rw[gN,List.reverse_cons,qbm,ih (fun e he=>h e (gX _ he)),val];simp[UInt8.toNat_ofNat',Nat.mod_eq_of_lt hd];omega
theorem q0q (n:Nat):qy (bytesOf n)=n:=by
 rw[bytesOf,q7c _ (zb 256 (by omega) n),xw 256 (by omega)]
theorem q3k:bytesOf 0=[]:=by simp[bytesOf,jr]
theorem q03 (n:Nat):bytesOf n=[]↔n=0:=by
 simp[bytesOf,q15 256 n (by omega)]
theorem q47 (l:List UInt8):val 256 (l.reverse.map UInt8.toNat)=qy l:=by
 have h:InR 256 (l.reverse.map UInt8.toNat):=by
  intro d hd;obtain⟨c,_,rfl⟩:=go.1 hd;exact c.toNat_lt
 have:=q7c _ h;rw[<-this,List.map_map];have:(UInt8.ofNat ∘ UInt8.toNat)=id:=by funext c;simp
 rw[this];simp
theorem q30 (l:List UInt8) (h:∀ c t,l=c :: t->c≠0):bytesOf (qy l)=l:=by
 have dN:InR 256 (l.reverse.map UInt8.toNat):=by
  intro d hd;obtain⟨c,_,rfl⟩:=go.1 hd;exact c.toNat_lt
 have Li:trim (l.reverse.map UInt8.toNat)=l.reverse.map UInt8.toNat:=by
  cases l with
  | nil=>rfl
  | cons c t =>
   rw[List.reverse_cons,bo];simp only [List.map_cons,List.map_nil];rw[q2h,if_neg];intro e;exact h c t rfl (by rw[<-UInt8.toNat_inj];simpa using e)
 rw[<-q47,bytesOf,<-ze 256 (by omega) _ dN,Li,List.map_map];have:(UInt8.ofNat ∘ UInt8.toNat)=id:=by funext c;simp
 rw[this];simp
theorem qa7 (n:Nat):∀ c t,bytesOf n=c :: t->c≠0:=by
 intro c t h e;subst e;have h1:qy (bytesOf n)=qy t:=by rw[h,q5l];simp
 rw[q0q] at h1;have hl:(dig 256 n).length=t.length+1:=by
  have:=congrArg List.length h;simpa [bytesOf] using this
 have hlt:qy t < 256 ^ t.length:=by
  rw[<-q47];have dN:InR 256 (t.reverse.map UInt8.toNat):=by
   intro d hd;obtain⟨c,_,rfl⟩:=go.1 hd;exact c.toNat_lt
  have:=q5k 256 _ dN;simpa using this
 have:=y9 256 (by omega) n t.length (by rw[h1];exact hlt);omega
theorem q5m (l:List UInt8):qy l < 256 ^ l.length:=by
 rw[<-q47];have dN:InR 256 (l.reverse.map UInt8.toNat):=by
  intro d hd;obtain⟨c,_,rfl⟩:=go.1 hd;exact c.toNat_lt
 have:=q5k 256 _ dN;simpa using this
theorem q9q (n:Nat):(bytesOf n).length=(dig 256 n).length:=by simp[bytesOf]
def nb (x:Int):Nat:=(dig 256 x.natAbs).length
theorem q31 (x:Int) (k:Nat) (h:x.natAbs < 256 ^ k):nb x<=k:=y9 256 (by omega) _ _ h
theorem q5n (x:Int):x.natAbs < 256 ^ nb x:=zy 256 (by omega) _
theorem q0g:nb 0=0:=by simp[nb,jr]
theorem qmt (x:Int):nb (-x)=nb x:=by simp[nb]
theorem qbn (x y:Int):nb (x+y)<=max (nb x) (nb y)+1:=by
 refine q31 _ _ ?_;have h1:=q5n x;have h2:=q5n y;have h3:256 ^ nb x<=256 ^ max (nb x) (nb y):=bt (by omega) (Nat.le_max_left ..);have h4:256 ^ nb y<=256 ^ max (nb x) (nb y):=bt (by omega) (Nat.le_max_right ..);rw[Nat.pow_succ];omega
theorem q39 (x y:Int):nb (x*y)<=nb x+nb y:=by
 refine q31 _ _ ?_;rw[Int.natAbs_mul,Nat.pow_add];have h1:=q5n x;have h2:=q5n y;exact Nat.mul_lt_mul'' h1 h2
theorem q48 (x:Int) (h1 : -9223372036854775808<=x) (h2:x<=9223372036854775807):nb x<=8:=by
 refine q31 _ _ ?_;have:(256:Nat) ^ 8=18446744073709551616:=by decide
 omega
open Go.RowKit
theorem q8 {w w':World} (h:Below w.heap.size w w') {p:Addr} {u:Value} (hc:w.cell? p=some u):w'.cell? p=some u :=
 (h.cell (World.block_lt_of_cell? w p hc)).trans hc
theorem q1n {B:Nat} {w w':World} (h:Below B w w') (hB:w.heap.size<=B) {p:Addr} {u:Value} (hc:w.cell? p=some u):w'.cell? p=some u :=
 (h.cell (gZ (World.block_lt_of_cell? w p hc) hB)).trans hc
def Sl (w:World) (st:Nat) (v:Value) (xs:List Value):Prop :=
 ∃ a n cap,v = .slice a n cap/\n<=cap/\cap<=maxLen/\xs.length=n*st/\(a=none->cap=0) ∧
  ∀ ad,a=some ad->∀ j u,xs[j]? = some u->w.cell? (ad.add j)=some u
theorem Sl.nil (w:World) (st:Nat):Sl w st (.slice none 0 0) [] :=
 ⟨none,0,0,rfl,nlr _,by simp[maxLen],by simp,fun _=>rfl,fun ad h=>by cases h⟩
theorem Sl.mono {w w':World} {st:Nat} {v:Value} {xs:List Value} (h:Sl w st v xs) (hk:∀ p u,w.cell? p=some u->w'.cell? p=some u):Sl w' st v xs:=by
 obtain⟨a,n,cap,h1,h2,h3,h4,h5,h6⟩:=h;exact⟨a,n,cap,h1,h2,h3,h4,h5,fun ad ha j u hj=>hk _ _ (h6 ad ha j u hj)⟩
theorem Sl.q8 {w w':World} {st:Nat} {v:Value} {xs:List Value} (h:Sl w st v xs) (hb:Below w.heap.size w w'):Sl w' st v xs :=
 h.mono fun _ _ hc=>Cx.q8 hb hc
theorem Sl.alloc {w:World} {st:Nat} {v:Value} {xs:List Value} (h:Sl w st v xs) (o:Obj):Sl (w.alloc o) st v xs :=
 h.q8 ((Below.refl _ w).alloc (nlr _) o)
theorem Sl.qc {w:World} {base e st:Nat} {v:Value} {n:Nat} {xs:List Value} (h:w.ownsRow base e st v n xs):Sl w st v xs:=by
 rcases h.2 with ⟨rfl,rfl⟩ | ⟨g,cap,cur,rfl,hb,hg,hn,hm,fN,ht⟩
 ·have hx:xs=[]:=gu (by simpa using h.1);subst hx;exact Sl.nil w st
 ·refine⟨some ⟨g,0,none⟩,n,cap,rfl,hn,hm,h.1,(fun e=>by cases e),?_⟩;intro ad bI j u hj;obtain rfl:=osi bI;exact h.cells (by simp[Value.ownBlock]) j u hj
theorem Sl.open {w:World} {st:Nat} {a:Option Addr} {n cap:Nat} {xs:List Value} (h:Sl w st (.slice a n cap) xs) :
  n<=cap/\cap<=maxLen/\xs.length=n*st/\(a=none->cap=0)/\∀ ad,a=some ad->∀ j u,xs[j]? = some u->w.cell? (ad.add j)=some u:=by
 obtain⟨a',n',bE,he,h2,h3,h4,h5,h6⟩:=h;cases he
 exact⟨h2,h3,h4,h5,h6⟩
theorem Sl.take {w:World} {st:Nat} {a:Option Addr} {n cap k:Nat} {xs:List Value} (h:Sl w st (.slice a n cap) xs) (hk:k<=n):Sl w st (.slice a k cap) (xs.take (k*st)):=by
 obtain⟨h2,h3,h4,h5,h6⟩:=h.open;refine⟨a,k,cap,rfl,by omega,h3,?_,h5,?_⟩
 ·rw[gh,h4];exact bB (bw _ hk)
 ·intro ad ha j u hj;rw[List.getElem?_take] at hj;split at hj
  ·exact h6 ad ha j u hj
  ·cases hj
theorem qa {w w':World} {base e st:Nat} {v:Value} {n:Nat} {xs:List Value} (h:w.ownsRow base e st v n xs) (hb:Below w.heap.size w w'):w'.ownsRow base e st v n xs:=by
 refine⟨h.1,?_⟩;rcases h.2 with hn | ⟨g,cap,cur,rfl,fY,tw,rest⟩
 ·exact .inl hn
 ·refine .inr ⟨g,cap,cur,rfl,fY,?_,rest⟩;rw[hb.block g (gw.1 tw).1];exact tw
theorem qf {w:World} {base jE e st:Nat} {v:Value} {n:Nat} {xs:List Value} (h:w.ownsRow base e st v n xs) (hb:jE<=base):w.ownsRow jE e st v n xs:=by
 refine⟨h.1,?_⟩;rcases h.2 with hn | ⟨g,cap,cur,hv,fY,rest⟩
 ·exact .inl hn
 ·exact .inr ⟨g,cap,cur,hv,gn hb fY,rest⟩
theorem qj {w:World} {base e st:Nat} {v:Value} {n:Nat} {xs:List Value} (h:w.ownsRow base e st v n xs):∃ a cap,v = .slice a n cap:=by
 rcases h.2 with ⟨rfl,rfl⟩ | ⟨g,cap,cur,rfl,_⟩
 ·exact⟨_,_,rfl⟩
 ·exact⟨_,_,rfl⟩
theorem ql {w w':World} {row:Option Nat} (hg:w.grownBy w' row) {p:Addr} {u:Value} (h:w.cell? p=some u) (ak:∀ k,row=some k->p.block≠k):w'.cell? p=some u :=
 hg.cell h (fun e=>ak _ e.symm rfl)
theorem qd (w:World) (c:Array Value) (t:TypeId) (m:Nat×Nat) (i:Nat):(w.alloc (.cells c t m)).cell? ⟨w.heap.size,i,none⟩=c[i]?:=World.cell?_alloc_mark w c t m i
theorem jz {w:World} {B:Nat} {c:Array Value} {t:TypeId} (h:w.heap[B]? = some (.cells c t (0,0))) (i:Nat):w.frozen? ⟨B,i,none⟩=false:=by
 unfold World.frozen?;simp only [h];simp
def ints (l:List Int):List Value:=l.map (Value.int .i64)
theorem q9r (l:List Int) (k:Nat) (h:k < l.length):(ints l)[k]? = some (.int .i64 (l.getD k 0)):=by simp[ints,h]
theorem xl (l:List Int):(ints l).length=l.length:=by simp[ints]
theorem j3 (l m:List Int):ints (l++m)=ints l++ints m:=by simp[ints]
theorem q49 (l:List Int) (k:Nat):ints (l.take k)=(ints l).take k:=by simp[ints,List.map_take]
theorem qbo {v u:Value} (h:v=u):Ending.returned v=Ending.returned u:=by rw[h]
def q2y (l:List Nat):List Int:=l.map Int.ofNat
theorem qen (l:List Nat) (k:Nat):(q2y l).getD k 0=(l.getD k 0:Nat):=by
 unfold q2y;simp[List.getD];cases l[k]? <;> simp
theorem q9s (l:List Nat):(q2y l).length=l.length:=by simp[q2y]
theorem qeo (l:List Nat) (k:Nat):q2y (l.take k)=(q2y l).take k:=by simp[q2y,List.map_take]
theorem q9t (l m:List Nat):q2y (l++m)=q2y l++q2y m:=by simp[q2y]
theorem q4a {w w':World} {o:Obj} {row:Option Nat} (h:(w.alloc o).grownBy w' row):w.grownBy w' row :=
 ⟨h.os,h.tape,h.output,gn (by simp) h.size,fun k hk ak=>(h.block k (by simp;omega) ak).trans (Below.heap_alloc w o k hk)⟩
theorem qo {P:Program} {ops:Array Oper} {rest:List Oper} {o:Oper} {a:Act} {Q:Exit->Act->World->Prop} {W wr:World} (ot:o.guard=none) (s x:Operand) (t:TypeId)
  (ho:o.op = .call { callee:=.builtin .append,args:=#[s,x],argTypes:=#[t,t] })
  (base:Nat) (e:TypeId) {z:Value} {size bytes:Nat} (dV:(P.info? e).map (fun i=>(i.zero,i.size,i.bytes))=some (some z,size,bytes)) (ht:P.underlying t=some (.slice e))
  (fF:z.cells.size=size) (ao:0 < size) (oL:0 < bytes)
  (v:Value) (n:Nat) (xs:List Value) (hs:a.eval s=v) (ah:wr.ownsRow base e size v n xs)
  (vs:List Value) (hx:a.eval x = .slice (some ⟨wr.heap.size,0,none⟩) 1 1) (hl:vs.length=size) (h1:∀ u∈vs,u.oneCell'=true)
  (cE:(n+1)*bytes<=140737488355328) (hb:Below base W wr) (af:base<=wr.heap.size)
  (h:∀ v' w',w'.ownsRow base e size v' (n+1) (xs++vs)->wr.grownBy w' v.ownBlock->Below base W w'->wpList P ops Q rest (a.put o.dst v') w') :
  wpList P ops Q (o :: rest) a (wr.alloc (.cells vs.toArray e)):=by
 obtain⟨i0,hi,bL,bT,cp⟩:=info_parts dV;refine wpList_append_own _ ot s x t ho base e i0 z size bytes ht hi bL bT cp fF ao v n xs hs (ah.alloc _) ⟨wr.heap.size,0,none⟩ 1 1 vs hx (by omega) ?_ h1 ?_ cE (by simp;omega) ?_
 ·intro j u hj;rw[Addr.add_lit,Nat.zero_add,qd];simpa using hj
 ·have:(n+1)*1<=(n+1)*bytes:=Nat.mul_le_mul_left _ oL;unfold maxLen;omega
 ·intro v' w' h2 h3 _;exact h v' w' h2 (q4a h3) ((hb.alloc af _).grown h3 (by simp;omega) (fun k hk=>(ah.lt k hk).1))
theorem qjv (s:ByteArray) (i:Nat) (h:i < s.size):s[i]=s.data.toList.getD i 0:=by
 simp[List.getD,h];rfl
theorem qh {x y:Int} (h:x=y):Value.int .i64 x=Value.int .i64 y:=by rw[h]
theorem vv {w w':World} {o:Obj} {B:Nat} (h:Below B (w.alloc o) w') (hB:w.heap.size<=B):Below w.heap.size w w' :=
 ((Below.refl _ _).alloc (nlr _) _).trans (h.mono hB)
def u8s (bs:List UInt8):List Value:=bs.map fun c=>.int .u8 (c.toNat:Int)
theorem qbp (a b:List UInt8):u8s (a++b)=u8s a++u8s b:=by simp[u8s]
theorem q1s {P:Program} {w:World} {base e:Nat} {v:Value} {n:Nat} {bs:List UInt8} (src dst:TypeId) (hs:P.underlying src=some (.slice e)) (he:P.underlying e=some (.int .u8)) (hd:P.underlying dst=some .string)
  (h:w.ownsRow base e 1 v n (u8s bs)):(convert src dst v).run P w = .ok (.string ⟨bs.toArray⟩) w:=by
 have hn:bs.length=n:=by have:=h.1;simpa [u8s] using this
 rcases h.2 with ⟨rfl,rfl⟩ | ⟨g,cap,cur,rfl,_⟩
 ·have hx:bs=[]:=gu hn;subst hx;exact run_convert_bytes_nil (P:=P) w src e hs he 0 0 dst hd
 ·have:=run_convert_bytes_arg (P:=P) w src e hs he g 0 n cap (bs.map fun c=>(c.toNat:Int)) (by simpa using hn) (fun i hi=>by
   have hh:=h.cells (g:=g) (by simp[Value.ownBlock]) i (.int .u8 ((bs.map fun c=>(c.toNat:Int)).getD i 0)) (by simp[u8s,show i < bs.length by omega])
   rwa [Addr.add_lit] at hh) dst hd
  rw[this]
  congr 2
  simp[strOfNums,Function.comp_def]
theorem Sl.drew {w:World} {st:Nat} {v:Value} {xs:List Value} (h:Sl w st v xs):Sl w.drew st v xs:=h
theorem qgd {w:World} {base e st:Nat} {v:Value} {n:Nat} {xs:List Value} (h:w.ownsRow base e st v n xs):w.drew.ownsRow base e st v n xs:=h
theorem qb {B:Nat} {a w:World} (h:Below B a w) (n:Nat):Below B a (w.drewN n):=below_drewN h n
theorem xe {w:World} {a p:Addr} {u x:Value} (h:w.cell? p=some x) (ak:p.block≠a.block):(w.setCell a u).cell? p=some x :=
 (World.cell?_of_block (w:=w) (Below.heap_setCell w a u p.block ak)).trans h
end Go.Cx
namespace Go.Cx
theorem q2i (B:Nat) (l:List Nat) (i:Nat) (hi:i<=l.length):val B l=val B (l.take i)+B ^ i*val B (l.drop i):=by
 conv=>lhs;rw[<-gr i l]
 rw[q5j,gh,bB hi]
theorem yj (l:List Nat) (i:Nat) (h:i < l.length):l.drop i=l.getD i 0 :: l.drop (i+1):=by
 rw[be h];simp[List.getD,List.getElem?_eq_getElem h]
theorem q4b (l:List Nat) (i:Nat) (h:i < l.length):l.take (i+1)=l.take i++[l.getD i 0]:=by
 rw[List.take_succ_eq_append_getElem h];simp[List.getD,List.getElem?_eq_getElem h]
theorem xr {B:Nat} {l:List Nat} (h:InR B l) (hB:0 < B) (i:Nat):l.getD i 0 < B:=by
 rcases gL i l.length with hi | hi
 ·rw[List.getD,g8 hi];exact h _ (List.getElem_mem hi)
 ·simp[List.getD,List.getElem?_eq_none hi];exact hB
theorem qge {B:Nat} {l:List Nat} (h:InR B l) (i:Nat):InR B (l.take i):=fun d hd=>h d (gU hd)
theorem q54 (B:Nat) (l m:List Nat) (i:Nat) (hl:i < l.length) (hm:i < m.length) (hd:l.drop (i+1)=m.drop (i+1)) (hr:InR B l)
  (hlt:l.getD i 0 < m.getD i 0):val B l < val B m:=by
 rw[q2i B l i (by omega),q2i B m i (by omega),yj l i hl,yj m i hm,hd];simp only [val];have h1:=q5k B _ (qge hr i);rw[gh,bB (by omega)] at h1;have h2:B ^ i*(l.getD i 0+1+B*val B (m.drop (i+1)))<=B ^ i*(m.getD i 0+B*val B (m.drop (i+1))):=Nat.mul_le_mul_left _ (by omega);have h3:B ^ i*(l.getD i 0+1+B*val B (m.drop (i+1)))=B ^ i+B ^ i*(l.getD i 0+B*val B (m.drop (i+1))):=by
  rw[show l.getD i 0+1+B*val B (m.drop (i+1))=1+(l.getD i 0+B*val B (m.drop (i+1))) by omega,Nat.mul_add,gK]
 omega
def q5o (x y:Nat):Int:=if x < y then -1 else if y < x then 1 else 0
theorem q3l {x y:Nat} (h:x < y):q5o x y = -1:=by rw[q5o,if_pos h]
theorem q55 {x y:Nat} (h:y < x):q5o x y=1:=by rw[q5o,if_neg (by omega),if_pos h]
theorem qd2 {x y:Nat} (h:x=y):q5o x y=0:=by rw[q5o,if_neg (by omega),if_neg (by omega)]
theorem q3m (l m:List Nat) (i:Nat) (hl:i < l.length) (hm:i < m.length) (hd:l.drop (i+1)=m.drop (i+1)) (h:l.getD i 0=m.getD i 0):l.drop i=m.drop i:=by
 rw[yj l i hl,yj m i hm,hd,h]
theorem j9 (B:Nat) (l:List Nat) (i:Nat):val B (l.take (i+1))=val B (l.take i)+B ^ i*l.getD i 0:=by
 rcases gL i l.length with h | h
 ·rw[q4b l i h,vu,gh,bB (by omega)]
 ·rw[ge (by omega),ge (by omega)];simp[List.getD,List.getElem?_eq_none h]
theorem xo (B:Nat) (l:List Nat) (i:Nat) (h:l.length<=i):val B (l.take i)=val B l:=by rw[ge h]
theorem q0x (B:Nat) (a b out:List Nat) (i c:Nat) (ho:out.length=i) (h:val B out+B ^ i*c=val B (a.take i)+val B (b.take i)) :
  val B (out++[(c+a.getD i 0+b.getD i 0) % B])+B ^ (i+1)*((c+a.getD i 0+b.getD i 0) / B)=val B (a.take (i+1))+val B (b.take (i+1)):=by
 rw[j9,j9,vu,ho,Nat.pow_succ];have e:B ^ i*((c+a.getD i 0+b.getD i 0) % B)+B ^ i*B*((c+a.getD i 0+b.getD i 0) / B)=B ^ i*(c+a.getD i 0+b.getD i 0):=by
  rw[Nat.mul_assoc,<-Nat.mul_add,Nat.mod_add_div]
 rw[Nat.mul_add,Nat.mul_add] at e;omega
theorem q0h (l:List Nat) (i:Nat) (h:l.length<=i):l.getD i 0=0:=by simp[List.getD,List.getElem?_eq_none h]
theorem q5p (B:Nat) (a b out:List Nat) (i:Nat) (c c' d:Nat) (ho:out.length=i) (h:val B out+val B (b.take i)=val B (a.take i)+B ^ i*c)
  (hd:d+b.getD i 0+c=a.getD i 0+B*c') :
  val B (out++[d])+val B (b.take (i+1))=val B (a.take (i+1))+B ^ (i+1)*c':=by
 rw[j9,j9,vu,ho,Nat.pow_succ,Nat.mul_assoc];have e:B ^ i*(d+b.getD i 0+c)=B ^ i*(a.getD i 0+B*c'):=by rw[hd]
 rw[Nat.mul_add,Nat.mul_add,Nat.mul_add] at e;omega
theorem qeq (l:List Nat) (h:trim l=l) (h0:0 < l.length):l.getD (l.length - 1) 0≠0:=by
 intro e;have h1:=q4b l (l.length - 1) (by omega);rw[show l.length - 1+1=l.length by omega,List.take_length,e] at h1;have h2:=q2h (l.take (l.length - 1)) 0;rw[<-h1,if_pos rfl,h] at h2;have h3:=q02 (l.take (l.length - 1));rw[<-h2,gh] at h3;omega
theorem qd3 (B:Nat) (l:List Nat) (j x:Nat) (h:j < l.length):val B (l.set j x)+B ^ j*l.getD j 0=val B l+B ^ j*x:=by
 have h1:=q2i B (l.set j x) j (by simp;omega);have h2:=q2i B l j (by omega);rw[yj _ j (by simpa using h)] at h1;rw[yj l j h] at h2;have e1:(l.set j x).take j=l.take j:=by rw[List.take_set];exact List.set_eq_of_length_le (by simp;omega)
 have e2:(l.set j x).drop (j+1)=l.drop (j+1):=by rw[List.drop_set,if_pos (by omega)]
 have e3:(l.set j x).getD j 0=x:=by simp[List.getD,h]
 rw[e1,e2,e3] at h1;simp only [val,Nat.mul_add] at h1 h2;omega
theorem y6 {B:Nat} {l:List Nat} (h:InR B l) (j:Nat) {x:Nat} (hx:x < B):InR B (l.set j x):=by
 intro d hd;rcases List.mem_or_eq_of_mem_set hd with h' | rfl
 ·exact h d h'
 ·exact hx
theorem q1t (l:List Nat) (j k x:Nat) (h:j≠k):(l.set j x).getD k 0=l.getD k 0:=by simp[List.getD,List.getElem?_set_ne h]
theorem q9u (B:Nat) (l:List Nat) (j c t R:Nat) (h:j < l.length) (hv:val B l+B ^ j*c=R) :
  val B (l.set j ((l.getD j 0+t+c) % B))+B ^ (j+1)*((l.getD j 0+t+c) / B)=R+B ^ j*t:=by
 have h1:=qd3 B l j ((l.getD j 0+t+c) % B) h;have e:B ^ j*((l.getD j 0+t+c) % B)+B ^ j*B*((l.getD j 0+t+c) / B)=B ^ j*(l.getD j 0+t+c):=by
  rw[Nat.mul_assoc,<-Nat.mul_add,Nat.mod_add_div]
 rw[Nat.mul_add,Nat.mul_add] at e;rw[Nat.pow_succ];omega
theorem qd4 (B:Nat) (l:List Nat) (j c R:Nat) (h:j < l.length) (hz:l.getD j 0=0) (hv:val B l+B ^ j*c=R):val B (l.set j c)=R:=by
 have h1:=qd3 B l j c h;rw[hz,Nat.mul_zero] at h1;omega
def mulR (B:Nat) (a b:List Nat) (i k:Nat):Nat:=val B (a.take i)*val B b+B ^ i*(a.getD i 0*val B (b.take k))
theorem q7d (B:Nat) (a b:List Nat) (i k:Nat):mulR B a b i (k+1)=mulR B a b i k+B ^ (i+k)*(a.getD i 0*b.getD k 0):=by
 unfold mulR;rw[j9,Nat.mul_add,Nat.mul_add,Nat.pow_add];have:B ^ i*(a.getD i 0*(B ^ k*b.getD k 0))=B ^ i*B ^ k*(a.getD i 0*b.getD k 0):=by
  rw[Nat.mul_left_comm (a.getD i 0),Nat.mul_assoc]
 omega
theorem q7e (B:Nat) (a b:List Nat) (i:Nat):mulR B a b i 0=val B (a.take i)*val B b:=by simp[mulR,val]
theorem q9v (B:Nat) (a b:List Nat) (i:Nat):mulR B a b i b.length=val B (a.take (i+1))*val B b:=by
 unfold mulR;rw[j9,List.take_length,Nat.add_mul,Nat.mul_assoc]
theorem zt (l:List Nat) (k x:Nat) (h:k < l.length):(l.set k x).take (k+1)=l.take k++[x]:=by
 rw[q4b _ k (by simpa using h)]
 congr 1
 ·rw[List.take_set];exact List.set_eq_of_length_le (by simp;omega)
 ·simp[List.getD,h]
end Go.Cx
namespace Go.Proofs.YtlhicnfeajejhaaGreatDoor
open Go.RowKit Go.Cx
theorem Tryz.xg:(Tryz.prog.info? 3).map (fun i=>(i.zero,i.size,i.bytes))=some (some (.int .i64 0),1,8):=by kernel_rfl
theorem Tryz.q4c:(Tryz.prog.info? 5).map (fun i=>(i.zero,i.size,i.bytes))=some (some (.int .u8 0),1,1):=by kernel_rfl
abbrev dv (l:List Nat):List Value:=ints (q2y l)
theorem vd (l:List Nat) (k:Nat) (h:k < l.length):(dv l)[k]? = some (.int .i64 (l.getD k 0:Nat)):=by
 rw[dv,q9r _ _ (by simpa [q9s] using h),qen]
theorem q1u (l:List Nat):(dv l).length=l.length:=by simp[dv,xl,q9s]
theorem q4d (l m:List Nat):dv (l++m)=dv l++dv m:=by simp[dv,q9t,j3]
theorem qjw (l:List Nat) (k:Nat):dv (l.take k)=(dv l).take k:=by simp[dv,qeo,q49]
theorem q7f (zs:List Nat) (k:Nat) (hk:0 < k) (hz:zs.getD (k - 1) 0=0) (hl:k<=zs.length):trim (zs.take k)=trim (zs.take (k - 1)):=by
 have:zs.take k=zs.take (k - 1)++[0]:=by
  have h:=List.take_succ_eq_append_getElem (l:=zs) (i:=k - 1) (by omega);rw[show k - 1+1=k by omega] at h;rw[h];congr 1;simp[List.getD,List.getElem?_eq_getElem (show k - 1 < zs.length by omega)] at hz;rw[hz]
 rw[this,q2h];simp
theorem q7g (zs:List Nat) (k:Nat) (hk:0 < k) (hz:zs.getD (k - 1) 0≠0) (hl:k<=zs.length):trim (zs.take k)=zs.take k:=by
 have:zs.take k=zs.take (k - 1)++[zs.getD (k - 1) 0]:=by
  have h:=List.take_succ_eq_append_getElem (l:=zs) (i:=k - 1) (by omega);rw[show k - 1+1=k by omega] at h;rw[h];simp[List.getD,List.getElem?_eq_getElem (show k - 1 < zs.length by omega)]
 rw[this,q2h,if_neg hz]
theorem q3n (v:Value) (zs:List Nat) (w:World) (h:Sl w 1 v (dv zs)) :
  Calls Tryz.prog 146 #[v] w fun e w'=>∃ u,e = .returned u/\Sl w 1 u (dv (trim zs))/\w=w':=by
 obtain⟨a,len,cap,rfl,hl,hm,hz,hn,hc⟩:=h;rw[q1u,gK] at hz;unfold maxLen at hm;have Hz:=lhd hz;clear hz;have Hc:=lhd hc;clear hc;have Hn:=lhd hn;clear hn;go_enter Tryz.func146,Tryz.ntmps146;go_wp2
 go_loop [0] (fun s=>∃ k:Nat,k<=len/\trim zs=trim (zs.take k)/\s = .slice a k cap) (fun s=>match s with | .slice _ k _=>k | _=>0)
 case atStart=>exact⟨len,nlr _,by rw[ge (by have:=Hz.out;omega)],rfl⟩
 case round =>
  obtain⟨k,hk,ht,rfl⟩:=hrel;have Ht:=lhd ht;clear ht;by_cases h0:0 < k
  ·obtain⟨ad,rfl⟩ : ∃ ad,a=some ad:=by
    cases a with
    | none=>have:=Hn.out rfl;omega
    | some ad=>exact⟨ad,rfl⟩
   have aA:=Hc.out ad rfl (k - 1) _ (vd zs (k - 1) (by have:=Hz.out;omega));obtain⟨z,hz⟩ : ∃ z,zs.getD (k-1) 0=z:=⟨_,rfl⟩
   rw[hz] at aA;have HZ:=lhd hz;clear hz;by_cases bL:z=0
   ·subst bL;go_wp2
    go_round
    case rel=>exact⟨k - 1,by omega,by rw[Ht.out];exact q7f zs k h0 HZ.out (by have:=Hz.out;omega),rfl⟩
    case measure=>show k - 1 < k;omega
   ·have hb:((z:Int) == 0)=false:=by simp;omega
    go_wp2;go_ret;refine⟨_,rfl,?_,rfl⟩;rw[Ht.out,q7g zs k h0 (by rw[HZ.out];exact bL) (by have:=Hz.out;omega),qjw];have hS:Sl w 1 (.slice (some ad) len cap) (dv zs):=⟨_,_,_,rfl,hl,(by unfold maxLen;omega),(by rw[q1u,gK];exact Hz.out),Hn.out,Hc.out⟩
    have:=hS.take hk
    rwa [gK] at this
  ·have mO:k=0:=by omega
   subst mO;go_wp2;go_ret;refine⟨_,rfl,?_,rfl⟩;rw[Ht.out];exact⟨_,_,_,rfl,gp _,(by unfold maxLen;omega),rfl,Hn.out,fun ad _ j u hj=>by simp[dv,ints,q2y,trim] at hj⟩
theorem q17 {w:World} {b e n:Nat} {v:Value} {l:List Nat} {X:Int} {d:Nat} (h:w.ownsRow b e 1 v n (dv l++[.int .i64 X])) (hx:X=d):w.ownsRow b e 1 v n (dv (l++[d])):=by
 subst hx;rw[q4d];exact h
theorem kj {X:Int} {k:IntKind} : ∀ u∈[Value.int k X],u.oneCell'=true:=by intro u hu;simp at hu;subst hu;rfl
end Go.Proofs.YtlhicnfeajejhaaGreatDoor
namespace Go.Cx
open Go.RowKit
def iv (neg:Bool) (s:ByteArray):Int:=if neg then -(qy s.data.toList:Int) else qy s.data.toList
def mg (x:Int):ByteArray:=⟨(bytesOf x.natAbs).toArray⟩
abbrev wv (x:Int):Value:=.agg #[.bool (decide (x < 0)),.string (mg x)]
theorem q56 (x:Int):(mg x).data.toList=bytesOf x.natAbs:=rfl
theorem j5 (x:Int):(mg x).size=nb x:=by
 show (mg x).data.size=_;rw[<-bi,q56,q9q];rfl
theorem q0i (x:Int):iv (decide (x < 0)) (mg x)=x:=by
 unfold iv;rw[q56,q0q];by_cases h:x < 0
 ·rw[if_pos (by simpa using h)];omega
 ·rw[if_neg (by simpa using h)];omega
theorem qmu (neg:Bool) (s:ByteArray):(iv neg s).natAbs=qy s.data.toList:=by
 unfold iv;cases neg <;> simp
theorem q8d:mg 0=⟨#[]⟩:=by unfold mg;rw[Int.natAbs_zero,q3k]
theorem qd5:wv 0 = .agg #[.bool false,.string ⟨#[]⟩]:=by show Value.agg #[.bool (decide ((0:Int) < 0)),.string (mg 0)]=_;rw[q8d];rfl
theorem qmv {x y:Int} (h:mg x=mg y):x.natAbs=y.natAbs:=by
 have h1:bytesOf x.natAbs=bytesOf y.natAbs:=by rw[<-q56,<-q56,h]
 have:=congrArg qy h1
 rwa [q0q,q0q] at this
theorem qgf {x y:Int} (h1:decide (x < 0)=decide (y < 0)) (h2:mg x=mg y):x=y:=by
 have:=qmv h2;have h3:x < 0↔y < 0:=by simpa using h1
 omega
theorem qmd (neg:Bool) (s:ByteArray):nb (iv neg s)<=s.size:=by
 refine q31 _ _ ?_;rw[qmu];have:=q5m s.data.toList;simpa using this
def sg (neg:Bool) (n:Nat):Int:=if neg then -(n:Int) else n
theorem qmw (neg:Bool) (n:Nat):(sg neg n).natAbs=n:=by unfold sg;cases neg <;> simp
theorem qgg (neg:Bool) (n:Nat) (h:n≠0):decide (sg neg n < 0)=neg:=by
 unfold sg;cases neg <;> simp <;> omega
theorem q57 (neg:Bool):sg neg 0=0:=by unfold sg;cases neg <;> simp
theorem qme (neg:Bool) (n:Nat):mg (sg neg n)=⟨(bytesOf n).toArray⟩:=by unfold mg;rw[qmw]
theorem jq (neg:Bool) (s:ByteArray):iv neg s=sg neg (qy s.data.toList):=rfl
end Go.Cx
