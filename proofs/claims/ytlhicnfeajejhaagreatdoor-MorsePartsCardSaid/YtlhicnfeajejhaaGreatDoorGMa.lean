/- Steps towards MorseParts. Conditions: none. -/
import Derived.BigQuiet
import Derived.Lib.Hide
import Derived.Test.YtlhicnfeajejhaaGreatDoorProg
import Derived.WalkLawsBesides
import Derived.WalkSpells
set_option maxRecDepth 1000000
set_option maxHeartbeats 16000000
theorem lhd {p:Prop} (h:p):Go.RowKit.Hid p:=Go.Lib.hid h
theorem osi {α:Type _} {a b:α} (h:some a=some b):a=b:=Option.some.inj h
theorem aiq {a b:Prop} (x:a) (y:b):a/\b:=⟨x,y⟩
theorem nlr (n:Nat):n<=n:=Nat.le_refl n
theorem g8:type_of% @List.getElem?_eq_getElem:=@List.getElem?_eq_getElem
theorem gc:type_of% @List.length_append:=@List.length_append
theorem gd:type_of% @List.length_take:=@List.length_take
theorem ge:type_of% @List.getElem?_eq_some_iff:=@List.getElem?_eq_some_iff
theorem gh:type_of% @List.mem_of_getElem?:=@List.mem_of_getElem?
theorem gl:type_of% @Nat.le_trans:=@Nat.le_trans
theorem gm:type_of% @List.take_of_length_le:=@List.take_of_length_le
theorem gn:type_of% @List.length_map:=@List.length_map
theorem go:type_of% @Nat.zero_le:=@Nat.zero_le
theorem gp:type_of% @Array.getElem?_eq_some_iff:=@Array.getElem?_eq_some_iff
theorem gq:type_of% @List.take_add_one:=@List.take_add_one
theorem gr:type_of% @List.mem_map:=@List.mem_map
theorem gu:type_of% @List.take_append_drop:=@List.take_append_drop
theorem gv:type_of% @List.length_drop:=@List.length_drop
theorem gw:type_of% @Option.some_ne_none:=@Option.some_ne_none
theorem gx:type_of% @List.mem_cons:=@List.mem_cons
theorem gy:type_of% @List.length_cons:=@List.length_cons
theorem gz:type_of% @List.eq_nil_of_length_eq_zero:=@List.eq_nil_of_length_eq_zero
theorem gC:type_of% @List.append_assoc:=@List.append_assoc
theorem gD:type_of% @List.mem_range:=@List.mem_range
theorem gE:type_of% @List.pairwise_cons:=@List.pairwise_cons
theorem gF:type_of% @List.mem_append:=@List.mem_append
theorem gG:type_of% @List.mem_map_of_mem:=@List.mem_map_of_mem
theorem gH:type_of% @List.append_nil:=@List.append_nil
theorem gI:type_of% @List.mem_of_mem_take:=@List.mem_of_mem_take
theorem gK:type_of% @List.mem_filter:=@List.mem_filter
theorem gL:type_of% @Nat.mul_one:=@Nat.mul_one
theorem gM:type_of% @Nat.lt_of_lt_of_le:=@Nat.lt_of_lt_of_le
theorem gN:type_of% @List.pairwise_iff_getElem:=@List.pairwise_iff_getElem
theorem gO:type_of% @List.getD_eq_getElem?_getD:=@List.getD_eq_getElem?_getD
theorem gP:type_of% @Nat.lt_or_ge:=@Nat.lt_or_ge
theorem gQ:type_of% @List.length_filter_le:=@List.length_filter_le
theorem gR:type_of% @List.map_cons:=@List.map_cons
theorem gT:type_of% @List.not_mem_nil:=@List.not_mem_nil
theorem gU:type_of% @List.getElem?_append_right:=@List.getElem?_append_right
theorem gV:type_of% @List.mem_cons_self:=@List.mem_cons_self
theorem gW:type_of% @List.length_nil:=@List.length_nil
theorem gX:type_of% @Nat.min_eq_left:=@Nat.min_eq_left
theorem gY:type_of% @List.drop_of_length_le:=@List.drop_of_length_le
theorem gZ:type_of% @Bool.and_eq_true:=@Bool.and_eq_true
theorem be:type_of% @Classical.byContradiction:=@Classical.byContradiction
theorem bf:type_of% @List.drop_eq_getElem_cons:=@List.drop_eq_getElem_cons
theorem bg:type_of% @List.cons_append:=@List.cons_append
theorem bh:type_of% @List.mem_cons_of_mem:=@List.mem_cons_of_mem
theorem bi:type_of% @List.mem_of_find?_eq_some:=@List.mem_of_find?_eq_some
theorem bj:type_of% @List.all_eq_true:=@List.all_eq_true
theorem bm:type_of% @List.filter_append:=@List.filter_append
theorem bo:type_of% @List.mem_of_mem_drop:=@List.mem_of_mem_drop
theorem bp:type_of% @List.getElem?_of_mem:=@List.getElem?_of_mem
theorem br:type_of% @List.map_append:=@List.map_append
theorem bt:type_of% @List.sum_cons:=@List.sum_cons
theorem bu:type_of% @Array.length_toList:=@Array.length_toList
theorem bw:type_of% @Nat.pow_le_pow_right:=@Nat.pow_le_pow_right
theorem bA:type_of% @List.range_succ:=@List.range_succ
theorem bB:type_of% @List.getElem?_append_left:=@List.getElem?_append_left
theorem bC:type_of% @Nat.mul_le_mul_right:=@Nat.mul_le_mul_right
theorem bD:type_of% @Int.add_zero:=@Int.add_zero
@[simp] abbrev BwQ (w w':Go.World):Prop:=Go.RowKit.Below w.heap.size w w'
theorem bal (w:Go.World) (o:Go.Obj):Go.RowKit.Below w.heap.size w (w.alloc o):=(Go.RowKit.Below.refl _ w).alloc (nlr _) o
theorem btr {a b c:Go.World} (h:Go.RowKit.Below a.heap.size a b) (k:Go.RowKit.Below b.heap.size b c):Go.RowKit.Below a.heap.size a c:=h.trans (k.mono h.size)
theorem sadq {a:Option Go.Addr} {n:Nat} (h:a=none->n=0) (hn:0 < n):∃ d,a=some d:=by
 cases a with
 | none=>have:=h rfl;omega
 | some d=>exact⟨d,rfl⟩
namespace Go.Cx
def val (B:Nat):List Nat->Nat
 | []=>0
 | d :: l=>d+B*val B l
theorem q5j (B:Nat) (l m:List Nat):val B (l++m)=val B l+B ^ l.length*val B m:=by
 induction l with
 | nil=>simp[val]
 | cons d l ih=>simp only [List.cons_append,val,ih,List.length_cons,Nat.pow_succ,Nat.mul_add,Nat.add_assoc];rw[Nat.mul_comm (B ^ l.length) B,Nat.mul_assoc]
theorem vu (B:Nat) (l:List Nat) (d:Nat):val B (l++[d])=val B l+B ^ l.length*d:=by rw[q5j];simp[val]
def dig (B:Nat) (n:Nat):List Nat:=if _h:2<=B/\n≠0 then n % B :: dig B (n / B) else []
termination_by n
decreasing_by exact Nat.div_lt_self (by omega) (by omega)
theorem jr (B:Nat):dig B 0=[]:=by rw[dig];simp
theorem q53 (B n:Nat) (hB:2<=B) (hn:n≠0):dig B n=n % B :: dig B (n / B):=by rw[dig];simp[hB,hn]
theorem xw (B:Nat) (hB:2<=B) (n:Nat):val B (dig B n)=n:=by
 induction n using Nat.strongRecOn with
 | _ n ih =>
  by_cases hn:n=0
  ·subst hn;simp[jr,val]
  ·rw[q53 B n hB hn,val,ih _ (Nat.div_lt_self (by omega) (by omega))];exact Nat.mod_add_div n B
def InR (B:Nat) (l:List Nat):Prop:=∀ d∈l,d < B
theorem zb (B:Nat) (hB:2<=B) (n:Nat):InR B (dig B n):=by
 induction n using Nat.strongRecOn with
 | _ n ih =>
  by_cases hn:n=0
  ·subst hn;intro d hd;simp[jr] at hd
  ·rw[q53 B n hB hn];intro d hd;rcases gx.1 hd with rfl | hd
   ·exact Nat.mod_lt _ (by omega)
   ·exact ih _ (Nat.div_lt_self (by omega) (by omega)) d hd
theorem q01 {B:Nat} {l m:List Nat} (h:InR B l) (k:InR B m):InR B (l++m):=by
 intro d hd;rcases gF.1 hd with h' | h'
 ·exact h d h'
 ·exact k d h'
theorem q9m {B d:Nat} {l:List Nat} (h:d < B) (k:InR B l):InR B (d :: l):=by
 intro e he;rcases gx.1 he with rfl | he
 ·exact h
 ·exact k e he
theorem q3j (B:Nat):InR B []:=fun d hd=>by simp at hd
theorem q2g {B d:Nat} (h:d < B):InR B [d]:=q9m h (q3j B)
theorem q5k (B:Nat) (l:List Nat) (h:InR B l):val B l < B ^ l.length:=by
 induction l with
 | nil=>simp[val]
 | cons d l ih =>have h1:=ih (fun e he=>h e (bh _ he));have h2:d < B:=h d (gV ..);have h3:B*(val B l+1)<=B*B ^ l.length:=Nat.mul_le_mul_left _ h1;simp only [val,List.length_cons,Nat.pow_succ];rw[Nat.mul_comm (B ^ l.length) B];rw[Nat.mul_add] at h3;omega
def trim:List Nat->List Nat
 | []=>[]
 | d :: l=>if trim l=[]/\d=0 then [] else d :: trim l
theorem q2h (l:List Nat) (d:Nat):trim (l++[d])=if d=0 then trim l else l++[d]:=by
 induction l with
 | nil=>simp[trim]
 | cons x l ih =>
  rw[bg,trim,ih];by_cases hd:d=0
  ·simp[hd,trim]
  ·simp[hd]
theorem q9n (B:Nat) (l:List Nat):val B (trim l)=val B l:=by
 induction l with
 | nil=>rfl
 | cons d l ih =>
  rw[trim];split
  ·rename_i h;obtain⟨h1,h2⟩:=h;rw[h1] at ih;simp only [val] at ih ⊢;rw[<-ih];simp[h2]
  ·simp[val,ih]
theorem ze (B:Nat) (hB:2<=B) (l:List Nat) (h:InR B l):trim l=dig B (val B l):=by
 induction l with
 | nil=>simp[trim,val,jr]
 | cons d l ih =>
  have hd:d < B:=h d (gV ..);have Jk:=ih (fun e he=>h e (bh _ he));have hm:(d+B*val B l) % B=d:=by rw[Nat.add_mul_mod_self_left];exact Nat.mod_eq_of_lt hd
  have hq:(d+B*val B l) / B=val B l:=by rw[Nat.add_mul_div_left _ _ (by omega:0 < B),Nat.div_eq_of_lt hd,Nat.zero_add]
  rw[trim,val];by_cases hz:d+B*val B l=0
  ·have h1:d=0:=by omega
   have h2:val B l=0:=by
    have:B*val B l=0:=by omega
    rcases Nat.mul_eq_zero.1 this with h | h
    ·omega
    ·exact h
   rw[hz,jr,Jk,h2,jr];simp[h1]
  ·rw[q53 B _ hB hz,hm,hq,<-Jk];split
   ·rename_i hc;exfalso
    rw[Jk] at hc;have:val B l=0:=by have:=xw B hB (val B l);rw[hc.1] at this;simpa [val] using this.symm
    rw[this] at hz;simp at hz;exact hz hc.2
   ·rfl
theorem q02 (l:List Nat):(trim l).length<=l.length:=by
 induction l with
 | nil=>simp[trim]
 | cons d l ih=>rw[trim];split <;> simp;omega
theorem qem (l:List Nat):trim l=l.take (trim l).length:=by
 induction l with
 | nil=>rfl
 | cons d l ih =>
  rw[trim];split
  ·simp
  ·simp;exact ih
theorem q9o {B:Nat} {l:List Nat} (h:InR B l):InR B (trim l):=by rw[qem];exact fun d hd=>h d (gI hd)
theorem qgc (B n:Nat) (hB:2<=B):trim (dig B n)=dig B n:=by rw[ze B hB _ (zb B hB n),xw B hB]
theorem q15 (B n:Nat) (hB:2<=B):dig B n=[]↔n=0:=by
 constructor
 ·intro h;have:=xw B hB n;rw[h] at this;simpa [val] using this.symm
 ·rintro rfl;exact jr B
theorem y9 (B:Nat) (hB:2<=B) (n k:Nat) (h:n < B ^ k):(dig B n).length<=k:=by
 induction k generalizing n with
 | zero=>simp at h;subst h;simp[jr]
 | succ k ih =>
  by_cases hn:n=0
  ·subst hn;simp[jr]
  ·rw[q53 B n hB hn];have:n / B < B ^ k:=by rw[Nat.div_lt_iff_lt_mul (by omega)];rwa [Nat.pow_succ] at h
   have:=ih _ this;simp;omega
theorem zy (B:Nat) (hB:2<=B) (n:Nat):n < B ^ (dig B n).length:=by
 have:=q5k B (dig B n) (zb B hB n)
 rwa [xw B hB] at this
theorem j4 (B:Nat) (hB:2<=B) (m n:Nat) (h:m<=n):(dig B m).length<=(dig B n).length :=
 y9 B hB m _ (Nat.lt_of_le_of_lt h (zy B hB n))
theorem q16 (B:Nat) (hB:2<=B) (m n:Nat) (h:(dig B m).length < (dig B n).length):m < n:=by
 rcases gP m n with h' | h'
 ·exact h'
 ·have:=j4 B hB n m h';omega
def qy (l:List UInt8):Nat:=l.foldl (fun a c=>a*256+c.toNat) 0
theorem q9p (l:List UInt8) (a:Nat):l.foldl (fun a c=>a*256+c.toNat) a=a*256 ^ l.length+qy l:=by
 induction l generalizing a with
 | nil=>simp[qy]
 | cons c l ih =>
  have h:qy (c :: l)=c.toNat*256 ^ l.length+qy l:=by have h:=ih (0*256+c.toNat);rw[Nat.zero_mul,Nat.zero_add] at h;rw[<-h];simp[qy]
  rw[List.foldl_cons,ih (a*256+c.toNat),h,gy,Nat.pow_succ,Nat.add_mul];have:a*256*256 ^ l.length=a*(256 ^ l.length*256):=by rw[Nat.mul_assoc,Nat.mul_comm 256]
  omega
theorem ki (l m:List UInt8):qy (l++m)=qy l*256 ^ m.length+qy m:=by rw[qy,List.foldl_append,q9p];rfl
theorem qbm (l:List UInt8) (c:UInt8):qy (l++[c])=qy l*256+c.toNat:=by rw[ki];simp[qy]
theorem q5l (c:UInt8) (l:List UInt8):qy (c :: l)=c.toNat*256 ^ l.length+qy l:=by have:=ki [c] l;simpa [qy] using this
def bytesOf (n:Nat):List UInt8:=((dig 256 n).map UInt8.ofNat).reverse
theorem q7c (l:List Nat) (h:InR 256 l):qy ((l.map UInt8.ofNat).reverse)=val 256 l:=by
 induction l with
 | nil=>rfl
 | cons d l ih =>have hd:d < 256:=h d (gV ..);rw[gR,List.reverse_cons,qbm,ih (fun e he=>h e (bh _ he)),val];simp[UInt8.toNat_ofNat',Nat.mod_eq_of_lt hd];omega
theorem q0q (n:Nat):qy (bytesOf n)=n:=by rw[bytesOf,q7c _ (zb 256 (by omega) n),xw 256 (by omega)]
theorem q3k:bytesOf 0=[]:=by simp[bytesOf,jr]
theorem q03 (n:Nat):bytesOf n=[]↔n=0:=by simp[bytesOf,q15 256 n (by omega)]
theorem q47 (l:List UInt8):val 256 (l.reverse.map UInt8.toNat)=qy l:=by
 have h:InR 256 (l.reverse.map UInt8.toNat):=by intro d hd;obtain⟨c,_,rfl⟩:=gr.1 hd;exact c.toNat_lt
 have:=q7c _ h;rw[<-this,List.map_map];have:(UInt8.ofNat ∘ UInt8.toNat)=id:=by funext c;simp
 rw[this];simp
theorem q30 (l:List UInt8) (h:∀ c t,l=c :: t->c≠0):bytesOf (qy l)=l:=by
 have cP:InR 256 (l.reverse.map UInt8.toNat):=by intro d hd;obtain⟨c,_,rfl⟩:=gr.1 hd;exact c.toNat_lt
 have ND:trim (l.reverse.map UInt8.toNat)=l.reverse.map UInt8.toNat:=by
  cases l with
  | nil=>rfl
  | cons c t =>rw[List.reverse_cons,br];simp only [List.map_cons,List.map_nil];rw[q2h,if_neg];intro e;exact h c t rfl (by rw[<-UInt8.toNat_inj];simpa using e)
 rw[<-q47,bytesOf,<-ze 256 (by omega) _ cP,ND,List.map_map];have:(UInt8.ofNat ∘ UInt8.toNat)=id:=by funext c;simp
 rw[this];simp
theorem qa7 (n:Nat):∀ c t,bytesOf n=c :: t->c≠0:=by
 intro c t h e;subst e;have h1:qy (bytesOf n)=qy t:=by rw[h,q5l];simp
 rw[q0q] at h1;have hl:(dig 256 n).length=t.length+1:=by have:=congrArg List.length h;simpa [bytesOf] using this
 have hlt:qy t < 256 ^ t.length:=by
  rw[<-q47];have cP:InR 256 (t.reverse.map UInt8.toNat):=by intro d hd;obtain⟨c,_,rfl⟩:=gr.1 hd;exact c.toNat_lt
  have:=q5k 256 _ cP;simpa using this
 have:=y9 256 (by omega) n t.length (by rw[h1];exact hlt);omega
theorem q5m (l:List UInt8):qy l < 256 ^ l.length:=by
 rw[<-q47];have cP:InR 256 (l.reverse.map UInt8.toNat):=by intro d hd;obtain⟨c,_,rfl⟩:=gr.1 hd;exact c.toNat_lt
 have:=q5k 256 _ cP;simpa using this
theorem q9q (n:Nat):(bytesOf n).length=(dig 256 n).length:=by simp[bytesOf]
def nb (x:Int):Nat:=(dig 256 x.natAbs).length
theorem q31 (x:Int) (k:Nat) (h:x.natAbs < 256 ^ k):nb x<=k:=y9 256 (by omega) _ _ h
theorem q5n (x:Int):x.natAbs < 256 ^ nb x:=zy 256 (by omega) _
theorem q0g:nb 0=0:=by simp[nb,jr]
theorem qmt (x:Int):nb (-x)=nb x:=by simp[nb]
theorem qbn (x y:Int):nb (x+y)<=max (nb x) (nb y)+1:=by refine q31 _ _ ?_;have h1:=q5n x;have h2:=q5n y;have h3:256 ^ nb x<=256 ^ max (nb x) (nb y):=bw (by omega) (Nat.le_max_left ..);have h4:256 ^ nb y<=256 ^ max (nb x) (nb y):=bw (by omega) (Nat.le_max_right ..);rw[Nat.pow_succ];omega
theorem q39 (x y:Int):nb (x*y)<=nb x+nb y:=by refine q31 _ _ ?_;rw[Int.natAbs_mul,Nat.pow_add];have h1:=q5n x;have h2:=q5n y;exact Nat.mul_lt_mul'' h1 h2
theorem q48 (x:Int) (h1 : -9223372036854775808<=x) (h2:x<=9223372036854775807):nb x<=8:=by
 refine q31 _ _ ?_;have:(256:Nat) ^ 8=18446744073709551616:=by decide
 omega
open Go.RowKit
theorem q8 {w w':World} (h:BwQ w w') {p:Addr} {u:Value} (hc:w.cell? p=some u):w'.cell? p=some u :=
 (h.cell (World.block_lt_of_cell? w p hc)).trans hc
theorem q1n {B:Nat} {w w':World} (h:Below B w w') (hB:w.heap.size<=B) {p:Addr} {u:Value} (hc:w.cell? p=some u):w'.cell? p=some u :=
 (h.cell (gM (World.block_lt_of_cell? w p hc) hB)).trans hc
def Sl (w:World) (st:Nat) (v:Value) (xs:List Value):Prop :=
 ∃ a n cap,v = .slice a n cap/\n<=cap/\cap<=maxLen/\xs.length=n*st/\(a=none->cap=0) ∧
  ∀ ad,a=some ad->∀ j u,xs[j]? = some u->w.cell? (ad.add j)=some u
theorem Sl.nil (w:World) (st:Nat):Sl w st (.slice none 0 0) [] :=
 ⟨none,0,0,rfl,nlr _,by simp[maxLen],by simp,fun _=>rfl,fun ad h=>by cases h⟩
theorem Sl.mono {w w':World} {st:Nat} {v:Value} {xs:List Value} (h:Sl w st v xs) (hk:∀ p u,w.cell? p=some u->w'.cell? p=some u):Sl w' st v xs:=by obtain⟨a,n,cap,h1,h2,h3,h4,h5,h6⟩:=h;exact⟨a,n,cap,h1,h2,h3,h4,h5,fun ad ha j u hj=>hk _ _ (h6 ad ha j u hj)⟩
theorem Sl.q8 {w w':World} {st:Nat} {v:Value} {xs:List Value} (h:Sl w st v xs) (hb:BwQ w w'):Sl w' st v xs :=
 h.mono fun _ _ hc=>Cx.q8 hb hc
theorem Sl.alloc {w:World} {st:Nat} {v:Value} {xs:List Value} (h:Sl w st v xs) (o:Obj):Sl (w.alloc o) st v xs :=
 h.q8 (bal w o)
theorem Sl.qc {w:World} {base e st:Nat} {v:Value} {n:Nat} {xs:List Value} (h:w.ownsRow base e st v n xs):Sl w st v xs:=by
 rcases h.2 with ⟨rfl,rfl⟩ | ⟨g,cap,cur,rfl,hb,hg,hn,hm,kH,ht⟩
 ·have hx:xs=[]:=gz (by simpa using h.1);subst hx;exact Sl.nil w st
 ·refine⟨some ⟨g,0,none⟩,n,cap,rfl,hn,hm,h.1,(fun e=>by cases e),?_⟩;intro ad cu j u hj;obtain rfl:=osi cu;exact h.cells (by simp[Value.ownBlock]) j u hj
theorem Sl.open {w:World} {st:Nat} {a:Option Addr} {n cap:Nat} {xs:List Value} (h:Sl w st (.slice a n cap) xs) :
  n<=cap/\cap<=maxLen/\xs.length=n*st/\(a=none->cap=0)/\∀ ad,a=some ad->∀ j u,xs[j]? = some u->w.cell? (ad.add j)=some u:=by
 obtain⟨a',n',bU,he,h2,h3,h4,h5,h6⟩:=h;cases he
 exact⟨h2,h3,h4,h5,h6⟩
theorem Sl.take {w:World} {st:Nat} {a:Option Addr} {n cap k:Nat} {xs:List Value} (h:Sl w st (.slice a n cap) xs) (hk:k<=n):Sl w st (.slice a k cap) (xs.take (k*st)):=by
 obtain⟨h2,h3,h4,h5,h6⟩:=h.open;refine⟨a,k,cap,rfl,by omega,h3,?_,h5,?_⟩
 ·rw[gd,h4];exact gX (bC _ hk)
 ·intro ad ha j u hj;rw[List.getElem?_take] at hj;split at hj
  ·exact h6 ad ha j u hj
  ·cases hj
theorem qa {w w':World} {base e st:Nat} {v:Value} {n:Nat} {xs:List Value} (h:w.ownsRow base e st v n xs) (hb:BwQ w w'):w'.ownsRow base e st v n xs:=by
 refine⟨h.1,?_⟩;rcases h.2 with hn | ⟨g,cap,cur,rfl,jW,uf,rest⟩
 ·exact .inl hn
 ·refine .inr ⟨g,cap,cur,rfl,jW,?_,rest⟩;rw[hb.block g (gp.1 uf).1];exact uf
theorem qf {w:World} {base mN e st:Nat} {v:Value} {n:Nat} {xs:List Value} (h:w.ownsRow base e st v n xs) (hb:mN<=base):w.ownsRow mN e st v n xs:=by
 refine⟨h.1,?_⟩;rcases h.2 with hn | ⟨g,cap,cur,hv,jW,rest⟩
 ·exact .inl hn
 ·exact .inr ⟨g,cap,cur,hv,gl hb jW,rest⟩
theorem qj {w:World} {base e st:Nat} {v:Value} {n:Nat} {xs:List Value} (h:w.ownsRow base e st v n xs):∃ a cap,v = .slice a n cap:=by
 rcases h.2 with ⟨rfl,rfl⟩ | ⟨g,cap,cur,rfl,_⟩
 ·exact⟨_,_,rfl⟩
 ·exact⟨_,_,rfl⟩
theorem ql {w w':World} {row:Option Nat} (hg:w.grownBy w' row) {p:Addr} {u:Value} (h:w.cell? p=some u) (al:∀ k,row=some k->p.block≠k):w'.cell? p=some u :=
 hg.cell h (fun e=>al _ e.symm rfl)
theorem qd (w:World) (c:Array Value) (t:TypeId) (m:Nat×Nat) (i:Nat):(w.alloc (.cells c t m)).cell? ⟨w.heap.size,i,none⟩=c[i]?:=World.cell?_alloc_mark w c t m i
theorem qju {w:World} {B:Nat} {c:Array Value} {t:TypeId} {m:Nat×Nat} (h:w.heap[B]? = some (.cells c t m)) (i:Nat):w.cell? ⟨B,i,none⟩=c[i]?:=by unfold World.cell?;simp only [h];rfl
theorem jz {w:World} {B:Nat} {c:Array Value} {t:TypeId} (h:w.heap[B]? = some (.cells c t (0,0))) (i:Nat):w.frozen? ⟨B,i,none⟩=false:=by unfold World.frozen?;simp only [h];simp
def ints (l:List Int):List Value:=l.map (Value.int .i64)
theorem q9r (l:List Int) (k:Nat) (h:k < l.length):(ints l)[k]? = some (.int .i64 (l.getD k 0)):=by simp[ints,h]
theorem xl (l:List Int):(ints l).length=l.length:=by simp[ints]
theorem j3 (l m:List Int):ints (l++m)=ints l++ints m:=by simp[ints]
theorem q49 (l:List Int) (k:Nat):ints (l.take k)=(ints l).take k:=by simp[ints,List.map_take]
theorem qbo {v u:Value} (h:v=u):Ending.returned v=Ending.returned u:=by rw[h]
def q2y (l:List Nat):List Int:=l.map Int.ofNat
theorem qen (l:List Nat) (k:Nat):(q2y l).getD k 0=(l.getD k 0:Nat):=by unfold q2y;simp[List.getD];cases l[k]? <;> simp
theorem q9s (l:List Nat):(q2y l).length=l.length:=by simp[q2y]
theorem qeo (l:List Nat) (k:Nat):q2y (l.take k)=(q2y l).take k:=by simp[q2y,List.map_take]
theorem q9t (l m:List Nat):q2y (l++m)=q2y l++q2y m:=by simp[q2y]
theorem q4a {w w':World} {o:Obj} {row:Option Nat} (h:(w.alloc o).grownBy w' row):w.grownBy w' row :=
 ⟨h.os,h.tape,h.output,gl (by simp) h.size,fun k hk al=>(h.block k (by simp;omega) al).trans (Below.heap_alloc w o k hk)⟩
theorem qo {P:Program} {ops:Array Oper} {rest:List Oper} {o:Oper} {a:Act} {Q:Exit->Act->World->Prop} {W wr:World} (oo:o.guard=none) (s x:Operand) (t:TypeId)
  (ho:o.op = .call { callee:=.builtin .append,args:=#[s,x],argTypes:=#[t,t] })
  (base:Nat) (e:TypeId) {z:Value} {size bytes:Nat} (ew:(P.info? e).map (fun i=>(i.zero,i.size,i.bytes))=some (some z,size,bytes)) (ht:P.underlying t=some (.slice e))
  (dZ:z.cells.size=size) (ao:0 < size) (pX:0 < bytes)
  (v:Value) (n:Nat) (xs:List Value) (hs:a.eval s=v) (ah:wr.ownsRow base e size v n xs)
  (vs:List Value) (hx:a.eval x = .slice (some ⟨wr.heap.size,0,none⟩) 1 1) (hl:vs.length=size) (h1:∀ u∈vs,u.oneCell'=true)
  (cV:(n+1)*bytes<=140737488355328) (hb:Below base W wr) (ae:base<=wr.heap.size)
  (h:∀ v' w',w'.ownsRow base e size v' (n+1) (xs++vs)->wr.grownBy w' v.ownBlock->Below base W w'->wpList P ops Q rest (a.put o.dst v') w') :
  wpList P ops Q (o :: rest) a (wr.alloc (.cells vs.toArray e)):=by
 obtain⟨i0,hi,aF,bR,bV⟩:=info_parts ew;refine wpList_append_own _ oo s x t ho base e i0 z size bytes ht hi aF bR bV dZ ao v n xs hs (ah.alloc _) ⟨wr.heap.size,0,none⟩ 1 1 vs hx (by omega) ?_ h1 ?_ cV (by simp;omega) ?_
 ·intro j u hj;rw[Addr.add_lit,Nat.zero_add,qd];simpa using hj
 ·have:(n+1)*1<=(n+1)*bytes:=Nat.mul_le_mul_left _ pX;unfold maxLen;omega
 ·intro v' w' h2 h3 _;exact h v' w' h2 (q4a h3) ((hb.alloc ae _).grown h3 (by simp;omega) (fun k hk=>(ah.lt k hk).1))
theorem qjv (s:ByteArray) (i:Nat) (h:i < s.size):s[i]=s.data.toList.getD i 0:=by simp[List.getD,h];rfl
theorem qh {x y:Int} (h:x=y):Value.int .i64 x=Value.int .i64 y:=by rw[h]
theorem vv {w w':World} {o:Obj} {B:Nat} (h:Below B (w.alloc o) w') (hB:w.heap.size<=B):BwQ w w' :=
 (bal _ _).trans (h.mono hB)
def u8s (bs:List UInt8):List Value:=bs.map fun c=>.int .u8 (c.toNat:Int)
theorem qbp (a b:List UInt8):u8s (a++b)=u8s a++u8s b:=by simp[u8s]
theorem q1s {P:Program} {w:World} {base e:Nat} {v:Value} {n:Nat} {bs:List UInt8} (src dst:TypeId) (hs:P.underlying src=some (.slice e)) (he:P.underlying e=some (.int .u8)) (hd:P.underlying dst=some .string)
  (h:w.ownsRow base e 1 v n (u8s bs)):(convert src dst v).run P w = .ok (.string ⟨bs.toArray⟩) w:=by
 have hn:bs.length=n:=by have:=h.1;simpa [u8s] using this
 rcases h.2 with ⟨rfl,rfl⟩ | ⟨g,cap,cur,rfl,_⟩
 ·have hx:bs=[]:=gz hn;subst hx;exact run_convert_bytes_nil (P:=P) w src e hs he 0 0 dst hd
 ·have:=run_convert_bytes_arg (P:=P) w src e hs he g 0 n cap (bs.map fun c=>(c.toNat:Int)) (by simpa using hn) (fun i hi=>by
   have hh:=h.cells (g:=g) (by simp[Value.ownBlock]) i (.int .u8 ((bs.map fun c=>(c.toNat:Int)).getD i 0)) (by simp[u8s,show i < bs.length by omega])
   rwa [Addr.add_lit] at hh) dst hd
  rw[this]
  congr 2
  simp[strOfNums,Function.comp_def]
theorem qep {w:World} {base e st:Nat} {v:Value} {n:Nat} {xs:List Value} (h:w.ownsRow base e st v n xs) (m:Nat):(w.drewN m).ownsRow base e st v n xs:=h
theorem Sl.drew {w:World} {st:Nat} {v:Value} {xs:List Value} (h:Sl w st v xs):Sl w.drew st v xs:=h
theorem qgd {w:World} {base e st:Nat} {v:Value} {n:Nat} {xs:List Value} (h:w.ownsRow base e st v n xs):w.drew.ownsRow base e st v n xs:=h
theorem qb {B:Nat} {a w:World} (h:Below B a w) (n:Nat):Below B a (w.drewN n):=below_drewN h n
theorem xe {w:World} {a p:Addr} {u x:Value} (h:w.cell? p=some x) (al:p.block≠a.block):(w.setCell a u).cell? p=some x :=
 (World.cell?_of_block (w:=w) (Below.heap_setCell w a u p.block al)).trans h
end Go.Cx
namespace Go.Cx
theorem q2i (B:Nat) (l:List Nat) (i:Nat) (hi:i<=l.length):val B l=val B (l.take i)+B ^ i*val B (l.drop i):=by
 conv=>lhs;rw[<-gu i l]
 rw[q5j,gd,gX hi]
theorem yj (l:List Nat) (i:Nat) (h:i < l.length):l.drop i=l.getD i 0 :: l.drop (i+1):=by rw[bf h];simp[List.getD,List.getElem?_eq_getElem h]
theorem q4b (l:List Nat) (i:Nat) (h:i < l.length):l.take (i+1)=l.take i++[l.getD i 0]:=by rw[List.take_succ_eq_append_getElem h];simp[List.getD,List.getElem?_eq_getElem h]
theorem xr {B:Nat} {l:List Nat} (h:InR B l) (hB:0 < B) (i:Nat):l.getD i 0 < B:=by
 rcases gP i l.length with hi | hi
 ·rw[List.getD,g8 hi];exact h _ (List.getElem_mem hi)
 ·simp[List.getD,List.getElem?_eq_none hi];exact hB
theorem qge {B:Nat} {l:List Nat} (h:InR B l) (i:Nat):InR B (l.take i):=fun d hd=>h d (gI hd)
theorem q54 (B:Nat) (l m:List Nat) (i:Nat) (hl:i < l.length) (hm:i < m.length) (hd:l.drop (i+1)=m.drop (i+1)) (hr:InR B l)
  (hlt:l.getD i 0 < m.getD i 0):val B l < val B m:=by
 rw[q2i B l i (by omega),q2i B m i (by omega),yj l i hl,yj m i hm,hd];simp only [val];have h1:=q5k B _ (qge hr i);rw[gd,gX (by omega)] at h1;have h2:B ^ i*(l.getD i 0+1+B*val B (m.drop (i+1)))<=B ^ i*(m.getD i 0+B*val B (m.drop (i+1))):=Nat.mul_le_mul_left _ (by omega);have h3:B ^ i*(l.getD i 0+1+B*val B (m.drop (i+1)))=B ^ i+B ^ i*(l.getD i 0+B*val B (m.drop (i+1))):=by rw[show l.getD i 0+1+B*val B (m.drop (i+1))=1+(l.getD i 0+B*val B (m.drop (i+1))) by omega,Nat.mul_add,gL]
 omega
def q5o (x y:Nat):Int:=if x < y then -1 else if y < x then 1 else 0
theorem q3l {x y:Nat} (h:x < y):q5o x y = -1:=by rw[q5o,if_pos h]
theorem q55 {x y:Nat} (h:y < x):q5o x y=1:=by rw[q5o,if_neg (by omega),if_pos h]
theorem qd2 {x y:Nat} (h:x=y):q5o x y=0:=by rw[q5o,if_neg (by omega),if_neg (by omega)]
theorem q3m (l m:List Nat) (i:Nat) (hl:i < l.length) (hm:i < m.length) (hd:l.drop (i+1)=m.drop (i+1)) (h:l.getD i 0=m.getD i 0):l.drop i=m.drop i:=by rw[yj l i hl,yj m i hm,hd,h]
theorem j9 (B:Nat) (l:List Nat) (i:Nat):val B (l.take (i+1))=val B (l.take i)+B ^ i*l.getD i 0:=by
 rcases gP i l.length with h | h
 ·rw[q4b l i h,vu,gd,gX (by omega)]
 ·rw[gm (by omega),gm (by omega)];simp[List.getD,List.getElem?_eq_none h]
theorem xo (B:Nat) (l:List Nat) (i:Nat) (h:l.length<=i):val B (l.take i)=val B l:=by rw[gm h]
theorem q0x (B:Nat) (a b out:List Nat) (i c:Nat) (ho:out.length=i) (h:val B out+B ^ i*c=val B (a.take i)+val B (b.take i)) :
  val B (out++[(c+a.getD i 0+b.getD i 0) % B])+B ^ (i+1)*((c+a.getD i 0+b.getD i 0) / B)=val B (a.take (i+1))+val B (b.take (i+1)):=by
 rw[j9,j9,vu,ho,Nat.pow_succ];have e:B ^ i*((c+a.getD i 0+b.getD i 0) % B)+B ^ i*B*((c+a.getD i 0+b.getD i 0) / B)=B ^ i*(c+a.getD i 0+b.getD i 0):=by rw[Nat.mul_assoc,<-Nat.mul_add,Nat.mod_add_div]
 rw[Nat.mul_add,Nat.mul_add] at e;omega
theorem q0h (l:List Nat) (i:Nat) (h:l.length<=i):l.getD i 0=0:=by simp[List.getD,List.getElem?_eq_none h]
theorem q5p (B:Nat) (a b out:List Nat) (i:Nat) (c c' d:Nat) (ho:out.length=i) (h:val B out+val B (b.take i)=val B (a.take i)+B ^ i*c)
  (hd:d+b.getD i 0+c=a.getD i 0+B*c') :
  val B (out++[d])+val B (b.take (i+1))=val B (a.take (i+1))+B ^ (i+1)*c':=by
 rw[j9,j9,vu,ho,Nat.pow_succ,Nat.mul_assoc];have e:B ^ i*(d+b.getD i 0+c)=B ^ i*(a.getD i 0+B*c'):=by rw[hd]
 rw[Nat.mul_add,Nat.mul_add,Nat.mul_add] at e;omega
theorem qeq (l:List Nat) (h:trim l=l) (h0:0 < l.length):l.getD (l.length - 1) 0≠0:=by intro e;have h1:=q4b l (l.length - 1) (by omega);rw[show l.length - 1+1=l.length by omega,List.take_length,e] at h1;have h2:=q2h (l.take (l.length - 1)) 0;rw[<-h1,if_pos rfl,h] at h2;have h3:=q02 (l.take (l.length - 1));rw[<-h2,gd] at h3;omega
theorem qd3 (B:Nat) (l:List Nat) (j x:Nat) (h:j < l.length):val B (l.set j x)+B ^ j*l.getD j 0=val B l+B ^ j*x:=by
 have h1:=q2i B (l.set j x) j (by simp;omega);have h2:=q2i B l j (by omega);rw[yj _ j (by simpa using h)] at h1;rw[yj l j h] at h2;have e1:(l.set j x).take j=l.take j:=by rw[List.take_set];exact List.set_eq_of_length_le (by simp;omega)
 have e2:(l.set j x).drop (j+1)=l.drop (j+1):=by rw[List.drop_set,if_pos (by omega)]
 have e3:(l.set j x).getD j 0=x:=by simp[List.getD,h]
 rw[e1,e2,e3] at h1;simp only [val,Nat.mul_add] at h1 h2;omega
theorem y6 {B:Nat} {l:List Nat} (h:InR B l) (j:Nat) {x:Nat} (hx:x < B):InR B (l.set j x):=by
 intro d hd;rcases List.mem_or_eq_of_mem_set hd with h' | rfl
 ·exact h d h'
 ·exact hx
theorem q1t (l:List Nat) (j k x:Nat) (h:j≠k):(l.set j x).getD k 0=l.getD k 0:=by simp[List.getD,List.getElem?_set_ne h]
theorem q9u (B:Nat) (l:List Nat) (j c t R:Nat) (h:j < l.length) (hv:val B l+B ^ j*c=R) :
  val B (l.set j ((l.getD j 0+t+c) % B))+B ^ (j+1)*((l.getD j 0+t+c) / B)=R+B ^ j*t:=by
 have h1:=qd3 B l j ((l.getD j 0+t+c) % B) h;have e:B ^ j*((l.getD j 0+t+c) % B)+B ^ j*B*((l.getD j 0+t+c) / B)=B ^ j*(l.getD j 0+t+c):=by rw[Nat.mul_assoc,<-Nat.mul_add,Nat.mod_add_div]
 rw[Nat.mul_add,Nat.mul_add] at e;rw[Nat.pow_succ];omega
theorem qd4 (B:Nat) (l:List Nat) (j c R:Nat) (h:j < l.length) (hz:l.getD j 0=0) (hv:val B l+B ^ j*c=R):val B (l.set j c)=R:=by have h1:=qd3 B l j c h;rw[hz,Nat.mul_zero] at h1;omega
def mulR (B:Nat) (a b:List Nat) (i k:Nat):Nat:=val B (a.take i)*val B b+B ^ i*(a.getD i 0*val B (b.take k))
theorem q7d (B:Nat) (a b:List Nat) (i k:Nat):mulR B a b i (k+1)=mulR B a b i k+B ^ (i+k)*(a.getD i 0*b.getD k 0):=by
 unfold mulR;rw[j9,Nat.mul_add,Nat.mul_add,Nat.pow_add];have:B ^ i*(a.getD i 0*(B ^ k*b.getD k 0))=B ^ i*B ^ k*(a.getD i 0*b.getD k 0):=by rw[Nat.mul_left_comm (a.getD i 0),Nat.mul_assoc]
 omega
theorem q7e (B:Nat) (a b:List Nat) (i:Nat):mulR B a b i 0=val B (a.take i)*val B b:=by simp[mulR,val]
theorem q9v (B:Nat) (a b:List Nat) (i:Nat):mulR B a b i b.length=val B (a.take (i+1))*val B b:=by unfold mulR;rw[j9,List.take_length,Nat.add_mul,Nat.mul_assoc]
theorem zt (l:List Nat) (k x:Nat) (h:k < l.length):(l.set k x).take (k+1)=l.take k++[x]:=by
 rw[q4b _ k (by simpa using h)]
 congr 1
 ·rw[List.take_set];exact List.set_eq_of_length_le (by simp;omega)
 ·simp[List.getD,h]
end Go.Cx
namespace Go.Proofs.YtlhicnfeajejhaaGreatDoor
open Go.RowKit Go.Cx
theorem Tryz.xg:(Tryz.prog.info? 3).map (fun i=>(i.zero,i.size,i.bytes))=some (some (.int .i64 0),1,8):=by kernel_rfl
theorem Tryz.q4c:(Tryz.prog.info? 5).map (fun i=>(i.zero,i.size,i.bytes))=some (some (.int .u8 0),1,1):=by kernel_rfl
abbrev dv (l:List Nat):List Value:=ints (q2y l)
theorem vd (l:List Nat) (k:Nat) (h:k < l.length):(dv l)[k]? = some (.int .i64 (l.getD k 0:Nat)):=by rw[dv,q9r _ _ (by simpa [q9s] using h),qen]
theorem q1u (l:List Nat):(dv l).length=l.length:=by simp[dv,xl,q9s]
theorem q4d (l m:List Nat):dv (l++m)=dv l++dv m:=by simp[dv,q9t,j3]
theorem qjw (l:List Nat) (k:Nat):dv (l.take k)=(dv l).take k:=by simp[dv,qeo,q49]
theorem q7f (zs:List Nat) (k:Nat) (hk:0 < k) (hz:zs.getD (k - 1) 0=0) (hl:k<=zs.length):trim (zs.take k)=trim (zs.take (k - 1)):=by
 have:zs.take k=zs.take (k - 1)++[0]:=by have h:=List.take_succ_eq_append_getElem (l:=zs) (i:=k - 1) (by omega);rw[show k - 1+1=k by omega] at h;rw[h];congr 1;simp[List.getD,List.getElem?_eq_getElem (show k - 1 < zs.length by omega)] at hz;rw[hz]
 rw[this,q2h];simp
theorem q7g (zs:List Nat) (k:Nat) (hk:0 < k) (hz:zs.getD (k - 1) 0≠0) (hl:k<=zs.length):trim (zs.take k)=zs.take k:=by
 have:zs.take k=zs.take (k - 1)++[zs.getD (k - 1) 0]:=by have h:=List.take_succ_eq_append_getElem (l:=zs) (i:=k - 1) (by omega);rw[show k - 1+1=k by omega] at h;rw[h];simp[List.getD,List.getElem?_eq_getElem (show k - 1 < zs.length by omega)]
 rw[this,q2h,if_neg hz]
theorem q3n (v:Value) (zs:List Nat) (w:World) (h:Sl w 1 v (dv zs)) :
  Calls Tryz.prog 146 #[v] w fun e w'=>∃ u,e = .returned u/\Sl w 1 u (dv (trim zs))/\w=w':=by
 obtain⟨a,len,cap,rfl,hl,hm,hz,hn,hc⟩:=h;rw[q1u,gL] at hz;unfold maxLen at hm;have Hz:=lhd hz;clear hz;have Hc:=lhd hc;clear hc;have Hn:=lhd hn;clear hn;go_enter Tryz.func146,Tryz.ntmps146;go_wp2
 go_loop [0] (fun s=>∃ k:Nat,k<=len/\trim zs=trim (zs.take k)/\s = .slice a k cap) (fun s=>match s with | .slice _ k _=>k | _=>0)
 case atStart=>exact⟨len,nlr _,by rw[gm (by have:=Hz.out;omega)],rfl⟩
 case round =>
  obtain⟨k,hk,ht,rfl⟩:=hrel;have Ht:=lhd ht;clear ht;by_cases h0:0 < k
  ·obtain⟨ad,rfl⟩:=sadq Hn.out (by omega)
   have aI:=Hc.out ad rfl (k - 1) _ (vd zs (k - 1) (by have:=Hz.out;omega));obtain⟨z,hz⟩ : ∃ z,zs.getD (k-1) 0=z:=⟨_,rfl⟩
   rw[hz] at aI;have HZ:=lhd hz;clear hz;by_cases aF:z=0
   ·subst aF;go_wp2
    go_round
    case rel=>exact⟨k - 1,by omega,by rw[Ht.out];exact q7f zs k h0 HZ.out (by have:=Hz.out;omega),rfl⟩
    case measure=>show k - 1 < k;omega
   ·have hb:((z:Int) == 0)=false:=by simp;omega
    go_wp2;go_ret;refine⟨_,rfl,?_,rfl⟩;rw[Ht.out,q7g zs k h0 (by rw[HZ.out];exact aF) (by have:=Hz.out;omega),qjw];have hS:Sl w 1 (.slice (some ad) len cap) (dv zs):=⟨_,_,_,rfl,hl,(by unfold maxLen;omega),(by rw[q1u,gL];exact Hz.out),Hn.out,Hc.out⟩
    have:=hS.take hk
    rwa [gL] at this
  ·have oq:k=0:=by omega
   subst oq;go_wp2;go_ret;refine⟨_,rfl,?_,rfl⟩;rw[Ht.out];exact⟨_,_,_,rfl,go _,(by unfold maxLen;omega),rfl,Hn.out,fun ad _ j u hj=>by simp[dv,ints,q2y,trim] at hj⟩
theorem qqo (bs:List UInt8) (i:Nat) (h:0 < i) (hi:i<=bs.length):qy (bs.drop (i - 1))=(bs.getD (i - 1) 0).toNat*256 ^ (bs.length - i)+qy (bs.drop i):=by
 have h1:bs.drop (i - 1)=bs.getD (i - 1) 0 :: bs.drop i:=by have:=bf (l:=bs) (i:=i - 1) (by omega);rw[show i - 1+1=i by omega] at this;rw[this];simp[List.getD,List.getElem?_eq_getElem (show i - 1 < bs.length by omega)]
 rw[h1,q5l,gv]
theorem qbq (bs:List UInt8) (l:List Nat) (k:Nat) (hk:l.length=k) (i:Nat) (hi:i+2*k=bs.length) (h1:1 < i) (hv:val 65536 l=qy (bs.drop i)) :
  val 65536 (l++[(bs.getD (i - 1) 0).toNat+256*(bs.getD (i - 2) 0).toNat])=qy (bs.drop (i - 2)):=by
 have e1:=qqo bs i (by omega) (by omega);have e2:=qqo bs (i - 1) (by omega) (by omega);rw[show i - 1 - 1=i - 2 by omega] at e2;rw[vu,hv,hk,e2,e1,show bs.length - i=2*k by omega,show bs.length - (i - 1)=2*k+1 by omega,Nat.pow_succ,Nat.pow_mul];rw[show (256:Nat) ^ 2=65536 by decide];have:(bs.getD (i - 2) 0).toNat*(65536 ^ k*256)=65536 ^ k*(256*(bs.getD (i - 2) 0).toNat):=by rw[Nat.mul_comm,Nat.mul_assoc]
 rw[this,Nat.mul_add,Nat.mul_comm (65536 ^ k) (bs.getD (i - 1) 0).toNat];omega
theorem qbr (bs:List UInt8) (l:List Nat) (k:Nat) (hk:l.length=k) (hi:1+2*k=bs.length) (hv:val 65536 l=qy (bs.drop 1)) :
  val 65536 (l++[(bs.getD 0 0).toNat])=qy bs:=by
 have e1:=qqo bs 1 (by omega) (by omega);simp only [Nat.sub_self,List.drop_zero] at e1;rw[vu,hv,hk,e1,show bs.length - 1=2*k by omega,Nat.pow_mul,show (256:Nat) ^ 2=65536 by decide,Nat.mul_comm (65536 ^ k)];omega
theorem kz (neg:Bool) (s:ByteArray) (w:World) (hs:s.size<=1099511627776) :
  Calls Tryz.prog 91 #[.agg #[.bool neg,.string s]] w fun e w'=>∃ u,e = .returned u/\Sl w' 1 u (dv (dig 65536 (qy s.data.toList)))/\BwQ w w':=by
 obtain⟨i0,hi,aF,bR,bV⟩:=info_parts Tryz.xg;go_enter Tryz.func91,Tryz.ntmps91;go_wp2;generalize kI:s.data.toList=bs;have hlen:bs.length=s.size:=by rw[<-kI];simp
 have zN:=lhd hlen;clear hlen;have Jl:=lhd kI;clear kI;go_loopw [3,5] (fun o i wr=>∃ (k:Nat) (j:Int) (l:List Nat),i = .int .i64 j/\-1<=j/\j+2*k=s.size/\l.length=k/\InR 65536 l/\val 65536 l=qy (bs.drop j.toNat) ∧
   wr.ownsRow (w.heap.size+1) 3 1 o k (dv l)/\Below (w.heap.size+1) (w.alloc (.cells #[.bool neg,.string s] 38)) wr) (fun _ i _=>(intOf i).toNat)
 case atStart =>refine⟨0,s.size,[],rfl,by omega,by omega,rfl,q3j _,?_,World.ownsRow_nil _ _ _ _,Below.refl _ _⟩;rw[show ((s.size:Int)).toNat=bs.length by rw[zN.out];omega,List.drop_length];rfl
 case round =>
  obtain⟨k,j,l,rfl,hj,jX,hl,hr,hv,ah,hb⟩:=hrel;have Dl:j<=1099511627776:=by omega
  have Hl:=lhd hl;clear hl;have Hv:=lhd hv;clear hv;have zO:=lhd jX;clear jX;have az:w.heap.size+1<=wr.heap.size:=gl (by simp) hb.size;by_cases h0:0 < j
  ·obtain⟨m,rfl⟩ : ∃ m:Nat,j=m:=⟨j.toNat,by omega⟩
   have fH:wr.cell? ⟨w.heap.size,1,none⟩=some (.string s):=(hb.cell (by simp)).trans (qd w _ _ _ 1);have Jm:m<=s.size:=by have:=zO.out;omega
   have hd1:=UInt8.toNat_lt (s[m - 1]'(by omega));have e1:=qjv s (m - 1) (by omega);rw[Jl.out] at e1;have E1:=lhd e1;clear e1;by_cases h1:1 < m
   ·have cj:=UInt8.toNat_lt (s[m - 2]'(by omega));have e2:=qjv s (m - 2) (by omega);rw[Jl.out] at e2;have E2:=lhd e2;clear e2;go_wp2_with (at_builtin;refine qo rfl _ _ 22 rfl (w.heap.size+1) 3 Tryz.xg Tryz.underlying22 rfl (by decide) (by decide) _ _ _ rfl ah [.int .i64 _] rfl rfl ?c2 ?c3 hb az ?_)
    case c2=>intro u hu;simp at hu;subst hu;rfl
    case c3=>have:=zO.out;omega
    intro v' w1 aW dA ot;go_wp2;go_roundw
    case measure=>simp[intOf];omega
    case rel =>
     refine⟨k+1,(m:Int) - 2,l++[(bs.getD (m - 1) 0).toNat+256*(bs.getD (m - 2) 0).toNat],rfl,by omega,by have:=zO.out;omega,by simp[Hl.out],q01 hr (q2g (by rw[<-E1.out,<-E2.out];omega)),?_,?_,ot⟩
     ·rw[show ((m:Int) - 2).toNat=m - 2 by omega];exact qbq bs l k Hl.out m (by have:=zO.out;have:=zN.out;omega) h1 (by have:=Hv.out;simpa using this)
     ·rw[E1.out,E2.out] at aW;rw[q4d];exact aW
   ·have pY:m=1:=by omega
    subst pY;have hd0:=UInt8.toNat_lt (s[0]'(by omega));go_wp2_with (at_builtin;refine qo rfl _ _ 22 rfl (w.heap.size+1) 3 Tryz.xg Tryz.underlying22 rfl (by decide) (by decide) _ _ _ rfl ah [.int .i64 _] rfl rfl ?d2 ?d3 hb az ?_)
    case d2=>intro u hu;simp at hu;subst hu;rfl
    case d3=>have:=zO.out;omega
    intro v' w1 aW dA ot;go_wp2;go_roundw
    case measure=>simp[intOf]
    case rel =>
     refine⟨k+1,-1,l++[(bs.getD 0 0).toNat],rfl,by omega,by have:=zO.out;omega,by simp[Hl.out],q01 hr (q2g (by have:=UInt8.toNat_lt (bs.getD 0 0);omega)),?_,?_,ot⟩
     ·exact qbr bs l k Hl.out (by have:=zO.out;have:=zN.out;omega) (by have:=Hv.out;simpa using this)
     ·have e1:=E1.out;simp only [Nat.sub_self] at e1;rw[e1] at aW;rw[q4d];exact aW
  ·have NF:val 65536 l=qy bs:=by
    have:=Hv.out
    rwa [show j.toNat=0 by omega,List.drop_zero] at this
   have HV:=lhd NF;clear NF;go_wp2_with (go_at_call 146;refine(q3n _ _ _ (Sl.qc ah)).mono ?_;rintro e w' ⟨u,rfl,fI,rfl⟩);go_ret;refine⟨_,rfl,?_,?_⟩
   ·rw[ze 65536 (by omega) _ hr,HV.out] at fI;rw[Jl.out];exact fI
   ·exact(bal _ _).trans (hb.mono (by omega))
theorem qbs (v u:Value) (x y:Nat) (w:World) (h:Sl w 1 v (dv (dig 65536 x))) (k:Sl w 1 u (dv (dig 65536 y))) :
  Calls Tryz.prog 93 #[v,u] w fun e w'=>e = .returned (.int .i64 (q5o x y))/\BwQ w w':=by
 obtain⟨a,len,cap,rfl,hl,hm,hz,hn,hc⟩:=h;obtain⟨b,ag,bU,rfl,ou,l5,dB,fw,hc'⟩:=k;rw[q1u,gL] at hz dB;unfold maxLen at hm l5;generalize dZ:dig 65536 x=zs at *;generalize dw:dig 65536 y=ys at *;have rz:InR 65536 zs:=dZ ▸ zb 65536 (by omega) x;have ry:InR 65536 ys:=dw ▸ zb 65536 (by omega) y;have vz:val 65536 zs=x:=dZ ▸ xw 65536 (by omega) x;have vy:val 65536 ys=y:=dw ▸ xw 65536 (by omega) y;by_cases al:len=ag
 ·subst al;have Hz:=lhd hz;clear hz;have ec:=lhd dB;clear dB;have SC:=lhd dZ;clear dZ;have SD:=lhd dw;clear dw;have Vz:=lhd vz;clear vz;have Vy:=lhd vy;clear vy;have Hc:=lhd hc;clear hc;have nO:=lhd hc';clear hc';have Hn:=lhd hn;clear hn;have nP:=lhd fw;clear fw;go_enter Tryz.func93,Tryz.ntmps93;go_wp2;go_loopw [5] (fun i wr=>∃ (j:Nat),i = .int .i64 ((j:Int) - 1)/\j<=len/\zs.drop j=ys.drop j/\BwQ w wr) (fun i _=>(intOf i+1).toNat)
  case atStart=>exact⟨len,rfl,nlr _,by rw[gY (by have:=Hz.out;omega),gY (by have:=ec.out;omega)],Below.refl _ _⟩
  case round =>
   obtain⟨j,rfl,hj,hd,hb⟩:=hrel;have Hd:=lhd hd;clear hd;by_cases h0:0 < j
   ·obtain⟨ad,rfl⟩:=sadq Hn.out (by omega)
    obtain⟨bd,rfl⟩:=sadq nP.out (by omega)
    obtain⟨m,rfl⟩ : ∃ m,j=m+1:=⟨j - 1,by omega⟩
    have e1:((m+1:Nat):Int) - 1=m:=by omega
    rw[e1];have c1:wr.cell? (ad.add m)=some (.int .i64 (zs.getD m 0:Nat)):=q8 hb (Hc.out ad rfl m _ (vd zs m (by have:=Hz.out;omega)));have c2:wr.cell? (bd.add m)=some (.int .i64 (ys.getD m 0:Nat)):=q8 hb (nO.out bd rfl m _ (vd ys m (by have:=ec.out;omega)));obtain⟨p,hp⟩ : ∃ p,zs.getD m 0=p:=⟨_,rfl⟩
    obtain⟨q,hq⟩ : ∃ q,ys.getD m 0=q:=⟨_,rfl⟩
    rw[hp] at c1;rw[hq] at c2;have Hp:=lhd hp;clear hp;have Hq:=lhd hq;clear hq;have i1:(0:Int)<=m:=by omega
    have i2:(m:Int) < len:=by omega
    by_cases heq:p=q
    ·have ai:((p:Int) != q)=false:=by simp[heq]
     have Jn:=lhd heq;clear heq;go_wp2
     go_quiet (fail)
     go_wp2;go_roundw
     case measure=>simp[intOf]
     case rel=>exact⟨m,rfl,by omega,q3m zs ys m (by have:=Hz.out;omega) (by have:=ec.out;omega) Hd.out (by rw[Hp.out,Hq.out];exact Jn.out),qb hb _⟩
    ·have ai:((p:Int) != q)=true:=by simp;omega
     go_wp2
     go_quiet (fail)
     go_wp2
     go_quiet (fail)
     go_wp2
     ·go_ret;refine⟨?_,qb (qb hb _) _⟩;have:=q54 65536 zs ys m (by have:=Hz.out;omega) (by have:=ec.out;omega) Hd.out rz (by rw[Hp.out,Hq.out];assumption);rw[Vz.out,Vy.out] at this;rw[q3l this];rfl
     ·go_ret;refine⟨?_,qb (qb hb _) _⟩;have hlt:¬ p < q:=by assumption
      have:=q54 65536 ys zs m (by have:=ec.out;omega) (by have:=Hz.out;omega) Hd.out.symm ry (by rw[Hp.out,Hq.out];omega);rw[Vz.out,Vy.out] at this;rw[q55 this];rfl
   ·have oq:j=0:=by omega
    subst oq;go_wp2;go_ret;refine⟨?_,hb⟩;have hd:=Hd.out;simp only [List.drop_zero] at hd;have:x=y:=by rw[<-Vz.out,<-Vy.out,hd]
    rw[qd2 this];rfl
 ·have SF:((len:Int) != ag)=true:=by simp;omega
  by_cases hlt:len < ag
  ·have hx:x < y:=q16 65536 (by omega) x y (by rw[dZ,dw];omega);clear hz dB hc hc' hn fw dZ dw vz vy;go_enter Tryz.func93,Tryz.ntmps93;go_wp2;go_ret;exact⟨by rw[q3l hx];rfl,Below.refl _ _⟩
  ·have hx:y < x:=q16 65536 (by omega) y x (by rw[dZ,dw];omega);clear hz dB hc hc' hn fw dZ dw vz vy;go_enter Tryz.func93,Tryz.ntmps93;go_wp2;go_ret;exact⟨by rw[q55 hx];rfl,Below.refl _ _⟩
theorem q17 {w:World} {b e n:Nat} {v:Value} {l:List Nat} {X:Int} {d:Nat} (h:w.ownsRow b e 1 v n (dv l++[.int .i64 X])) (hx:X=d):w.ownsRow b e 1 v n (dv (l++[d])):=by subst hx;rw[q4d];exact h
theorem kj {X:Int} {k:IntKind} : ∀ u∈[Value.int k X],u.oneCell'=true:=by intro u hu;simp at hu;subst hu;rfl
theorem qjx (v u:Value) (zs ys:List Nat) (w:World) (h:Sl w 1 v (dv zs)) (k:Sl w 1 u (dv ys)) (rz:InR 65536 zs) (ry:InR 65536 ys)
  (bz:zs.length<=1099511627776) (zP:ys.length<=1099511627776) :
  Calls Tryz.prog 92 #[v,u] w fun e w'=>∃ r,e = .returned r/\∃ l,w'.ownsRow w.heap.size 3 1 r l.length (dv l)/\InR 65536 l/\val 65536 l=val 65536 zs+val 65536 ys ∧
   l.length<=max zs.length ys.length+1/\BwQ w w':=by
 obtain⟨a,len,cap,rfl,hl,hm,hz,hn,hc⟩:=h;obtain⟨b,ag,bU,rfl,ou,l5,dB,fw,hc'⟩:=k;rw[q1u,gL] at hz dB;unfold maxLen at hm l5;rw[hz] at bz;rw[dB] at zP;have Hz:=lhd hz;clear hz;have ec:=lhd dB;clear dB;have Hc:=lhd hc;clear hc;have nO:=lhd hc';clear hc';have Hn:=lhd hn;clear hn;have nP:=lhd fw;clear fw;go_enter Tryz.func92,Tryz.ntmps92;go_wp2;go_loopw [5,6,7] (fun o c i wr=>∃ (k d:Nat) (l:List Nat),i = .int .i64 k/\c = .int .i64 d/\(k<=max len ag/\d<=1\/k=max len ag+1/\d=0)/\l.length=k/\InR 65536 l ∧
   val 65536 l+65536 ^ k*d=val 65536 (zs.take k)+val 65536 (ys.take k)/\wr.ownsRow w.heap.size 3 1 o k (dv l)/\BwQ w wr) (fun _ _ i _=>max len ag+1 - (intOf i).toNat)
 case atStart=>exact⟨0,0,[],rfl,rfl,.inl ⟨by omega,by omega⟩,rfl,q3j _,by simp[val],World.ownsRow_nil _ _ _ _,Below.refl _ _⟩
 case round =>
  obtain⟨k,d,l,rfl,rfl,pq,db,hr,hv,ah,hb⟩:=hrel;have NG:=lhd pq;have zQ:=lhd db;clear db;have Hv:=lhd hv;clear hv;have ig:k<=max len ag+1:=by omega
  have hd1:d<=1:=by omega
  have az:w.heap.size<=wr.heap.size:=hb.size;clear pq;have c1:k < len->∃ ad,a=some ad/\wr.cell? (ad.add k)=some (.int .i64 (zs.getD k 0:Nat)):=by
   intro hk;cases a with
   | none=>have:=Hn.out rfl;omega
   | some ad=>exact⟨ad,rfl,q8 hb (Hc.out ad rfl k _ (vd zs k (by have:=Hz.out;omega)))⟩
  have c2:k < ag->∃ ad,b=some ad/\wr.cell? (ad.add k)=some (.int .i64 (ys.getD k 0:Nat)):=by
   intro hk;cases b with
   | none=>have:=nP.out rfl;omega
   | some ad=>exact⟨ad,rfl,q8 hb (nO.out ad rfl k _ (vd ys k (by have:=ec.out;omega)))⟩
  have C1:=lhd c1;clear c1;have C2:=lhd c2;clear c2;obtain⟨p,hp⟩ : ∃ p,zs.getD k 0=p:=⟨_,rfl⟩
  obtain⟨q,hq⟩ : ∃ q,ys.getD k 0=q:=⟨_,rfl⟩
  have nQ:p < 65536:=hp ▸ xr rz (by omega) k;have fW:q < 65536:=hq ▸ xr ry (by omega) k;have Hp:=lhd hp;clear hp;have Hq:=lhd hq;clear hq;have step:∀ v' w1,w1.ownsRow w.heap.size 3 1 v' (k+1) (dv (l++[(d+p+q) % 65536]))->BwQ w w1->k<=max len ag->(k=max len ag->p=0/\q=0) →
    ∃ (k' d':Nat) (l':List Nat),(Value.int .i64 ((k:Int)+1)) = .int .i64 k'/\Value.int .i64 (((d:Int)+p+q) / 65536) = .int .i64 d'/\(k'<=max len ag/\d'<=1\/k'=max len ag+1/\d'=0)/\l'.length=k'/\InR 65536 l' ∧
     val 65536 l'+65536 ^ k'*d'=val 65536 (zs.take k')+val 65536 (ys.take k')/\w1.ownsRow w.heap.size 3 1 v' k' (dv l')/\BwQ w w1:=by
   intro v' w1 ho ai ey kJ;refine⟨k+1,(d+p+q) / 65536,l++[(d+p+q) % 65536],qh (by omega),qh (by omega),by omega,by simp[zQ.out],q01 hr (q2g (Nat.mod_lt _ (by omega))),?_,ho,ai⟩;have:=q0x 65536 zs ys l k d zQ.out Hv.out
   rwa [Hp.out,Hq.out] at this
  have Step:=lhd step;clear step;by_cases ha:k < len
  ·obtain⟨ad,rfl,c1⟩:=C1.out ha;rw[Hp.out] at c1;by_cases ot:k < ag
   ·obtain⟨bd,rfl,c2⟩:=C2.out ot;rw[Hq.out] at c2;go_wp2_with (at_builtin;refine qo rfl _ _ 22 rfl w.heap.size 3 Tryz.xg Tryz.underlying22 rfl (by decide) (by decide) _ _ _ rfl ah [.int .i64 _] rfl rfl kj ?d3 hb az ?_)
    case d3=>omega
    intro v' w1 aW dA ck;go_wp2;go_roundw
    case measure=>simp[intOf];omega
    case rel=>exact Step.out v' w1 (q17 aW (by omega)) ck (by omega) (by omega)
   ·have q0:q=0:=by rw[<-Hq.out];exact q0h _ _ (by have:=ec.out;omega)
    subst q0;go_wp2_with (at_builtin;refine qo rfl _ _ 22 rfl w.heap.size 3 Tryz.xg Tryz.underlying22 rfl (by decide) (by decide) _ _ _ rfl ah [.int .i64 _] rfl rfl kj ?e3 hb az ?_)
    case e3=>omega
    intro v' w1 aW dA ck;go_wp2;go_roundw
    case measure=>simp[intOf];omega
    case rel =>have:=Step.out v' w1 (q17 aW (by omega)) ck (by omega) (by omega);simpa using this
  ·have p0:p=0:=by rw[<-Hp.out];exact q0h _ _ (by have:=Hz.out;omega)
   subst p0;by_cases ot:k < ag
   ·obtain⟨bd,rfl,c2⟩:=C2.out ot;rw[Hq.out] at c2;go_wp2_with (at_builtin;refine qo rfl _ _ 22 rfl w.heap.size 3 Tryz.xg Tryz.underlying22 rfl (by decide) (by decide) _ _ _ rfl ah [.int .i64 _] rfl rfl kj ?f3 hb az ?_)
    case f3=>omega
    intro v' w1 aW dA ck;go_wp2;go_roundw
    case measure=>simp[intOf];omega
    case rel =>have:=Step.out v' w1 (q17 aW (by omega)) ck (by omega) (by omega);simpa using this
   ·have q0:q=0:=by rw[<-Hq.out];exact q0h _ _ (by have:=ec.out;omega)
    subst q0;by_cases hd0:0 < d
    ·go_wp2_with (at_builtin;refine qo rfl _ _ 22 rfl w.heap.size 3 Tryz.xg Tryz.underlying22 rfl (by decide) (by decide) _ _ _ rfl ah [.int .i64 _] rfl rfl kj ?g3 hb az ?_)
     case g3=>omega
     intro v' w1 aW dA ck;go_wp2;go_roundw
     case measure=>have:=NG.out;simp[intOf];omega
     case rel =>have:=Step.out v' w1 (q17 aW (by omega)) ck (by have:=NG.out;omega) (by simp);simpa using this
    ·have d0:d=0:=by omega
     subst d0;go_wp2;go_ret;have e:=Hv.out;rw[xo _ zs _ (by have:=Hz.out;omega),xo _ ys _ (by have:=ec.out;omega)] at e;have db:=zQ.out;exact⟨_,rfl,l,by rw[db];exact ah,hr,by omega,by rw[Hz.out,ec.out];omega,hb⟩
theorem q9w (v u:Value) (x y:Nat) (w:World) (h:Sl w 1 v (dv (dig 65536 x))) (k:Sl w 1 u (dv (dig 65536 y))) (hxy:y<=x)
  (bz:(dig 65536 x).length<=1099511627776) :
  Calls Tryz.prog 94 #[v,u] w fun e w'=>∃ r,e = .returned r/\Sl w' 1 r (dv (dig 65536 (x - y)))/\BwQ w w':=by
 obtain⟨a,len,cap,rfl,hl,hm,hz,hn,hc⟩:=h;obtain⟨b,ag,bU,rfl,ou,l5,dB,fw,hc'⟩:=k;rw[q1u,gL] at hz dB;unfold maxLen at hm l5;have bL:ag<=len:=by rw[<-hz,<-dB];exact j4 65536 (by omega) _ _ hxy
 generalize dZ:dig 65536 x=zs at *;generalize dw:dig 65536 y=ys at *;have rz:InR 65536 zs:=dZ ▸ zb 65536 (by omega) x;have ry:InR 65536 ys:=dw ▸ zb 65536 (by omega) y;have vz:val 65536 zs=x:=dZ ▸ xw 65536 (by omega) x;have vy:val 65536 ys=y:=dw ▸ xw 65536 (by omega) y;rw[hz] at bz;have Hz:=lhd hz;clear hz;have ec:=lhd dB;clear dB;have Hc:=lhd hc;clear hc;have nO:=lhd hc';clear hc';have Hn:=lhd hn;clear hn;have nP:=lhd fw;clear fw;have Vz:=lhd vz;clear vz;have Vy:=lhd vy;clear vy;clear dZ dw;go_enter Tryz.func94,Tryz.ntmps94;go_wp2;go_loopw [5,6,7] (fun o c i wr=>∃ (k d:Nat) (l:List Nat),i = .int .i64 k/\c = .int .i64 d/\k<=len/\d<=1/\l.length=k/\InR 65536 l ∧
   val 65536 l+val 65536 (ys.take k)=val 65536 (zs.take k)+65536 ^ k*d/\wr.ownsRow w.heap.size 3 1 o k (dv l)/\BwQ w wr) (fun _ _ i _=>len - (intOf i).toNat)
 case atStart=>exact⟨0,0,[],rfl,rfl,by omega,by omega,rfl,q3j _,by simp[val],World.ownsRow_nil _ _ _ _,Below.refl _ _⟩
 case round =>
  obtain⟨k,d,l,rfl,rfl,hk,hd,db,hr,hv,ah,hb⟩:=hrel;have zQ:=lhd db;clear db;have Hv:=lhd hv;clear hv;have az:w.heap.size<=wr.heap.size:=hb.size;by_cases hlt:k < len
  ·obtain⟨ad,rfl⟩:=sadq Hn.out (by omega)
   have c1:wr.cell? (ad.add k)=some (.int .i64 (zs.getD k 0:Nat)):=q8 hb (Hc.out ad rfl k _ (vd zs k (by have:=Hz.out;omega)));have c2:k < ag->∃ ad,b=some ad/\wr.cell? (ad.add k)=some (.int .i64 (ys.getD k 0:Nat)):=by
    intro hk;cases b with
    | none=>have:=nP.out rfl;omega
    | some ad=>exact⟨ad,rfl,q8 hb (nO.out ad rfl k _ (vd ys k (by have:=ec.out;omega)))⟩
   have C2:=lhd c2;clear c2;obtain⟨p,hp⟩ : ∃ p,zs.getD k 0=p:=⟨_,rfl⟩
   obtain⟨q,hq⟩ : ∃ q,ys.getD k 0=q:=⟨_,rfl⟩
   have nQ:p < 65536:=hp ▸ xr rz (by omega) k;have fW:q < 65536:=hq ▸ xr ry (by omega) k;rw[hp] at c1;have Hp:=lhd hp;clear hp;have Hq:=lhd hq;clear hq;have step:∀ v' w1 (d' m:Nat),w1.ownsRow w.heap.size 3 1 v' (k+1) (dv (l++[m]))->BwQ w w1->m < 65536->d'<=1->m+q+d=p+65536*d' →
     ∃ (k' zR:Nat) (l':List Nat),(Value.int .i64 ((k:Int)+1)) = .int .i64 k'/\Value.int .i64 (d':Int) = .int .i64 zR/\k'<=len/\zR<=1/\l'.length=k'/\InR 65536 l' ∧
      val 65536 l'+val 65536 (ys.take k')=val 65536 (zs.take k')+65536 ^ k'*zR/\w1.ownsRow w.heap.size 3 1 v' k' (dv l')/\BwQ w w1:=by
    intro v' w1 d' m ho ai hm rF he;refine⟨k+1,d',l++[m],qh (by omega),rfl,by omega,rF,by simp[zQ.out],q01 hr (q2g hm),?_,ho,ai⟩;exact q5p 65536 zs ys l k d d' m zQ.out Hv.out (by rw[Hp.out,Hq.out];exact he)
   have Step:=lhd step;clear step;by_cases ot:k < ag
   ·obtain⟨bd,rfl,c2⟩:=C2.out ot;rw[Hq.out] at c2;by_cases uM:(p:Int) - d - q < 0
    ·go_wp2_with (at_builtin;refine qo rfl _ _ 22 rfl w.heap.size 3 Tryz.xg Tryz.underlying22 rfl (by decide) (by decide) _ _ _ rfl ah [.int .i64 _] rfl rfl kj ?d3 hb az ?_)
     case d3=>omega
     intro v' w1 aW dA ck;go_wp2;go_roundw
     case measure=>simp[intOf];omega
     case rel=>exact Step.out v' w1 1 (p+65536 - d - q) (q17 aW (by omega)) ck (by omega) (by omega) (by omega)
    ·go_wp2_with (at_builtin;refine qo rfl _ _ 22 rfl w.heap.size 3 Tryz.xg Tryz.underlying22 rfl (by decide) (by decide) _ _ _ rfl ah [.int .i64 _] rfl rfl kj ?e3 hb az ?_)
     case e3=>omega
     intro v' w1 aW dA ck;go_wp2;go_roundw
     case measure=>simp[intOf];omega
     case rel=>exact Step.out v' w1 0 (p - d - q) (q17 aW (by omega)) ck (by omega) (by omega) (by omega)
   ·have q0:q=0:=by rw[<-Hq.out];exact q0h _ _ (by have:=ec.out;omega)
    subst q0;by_cases uM:(p:Int) - d < 0
    ·go_wp2_with (at_builtin;refine qo rfl _ _ 22 rfl w.heap.size 3 Tryz.xg Tryz.underlying22 rfl (by decide) (by decide) _ _ _ rfl ah [.int .i64 _] rfl rfl kj ?f3 hb az ?_)
     case f3=>omega
     intro v' w1 aW dA ck;go_wp2;go_roundw
     case measure=>simp[intOf];omega
     case rel=>exact Step.out v' w1 1 (p+65536 - d) (q17 aW (by omega)) ck (by omega) (by omega) (by omega)
    ·go_wp2_with (at_builtin;refine qo rfl _ _ 22 rfl w.heap.size 3 Tryz.xg Tryz.underlying22 rfl (by decide) (by decide) _ _ _ rfl ah [.int .i64 _] rfl rfl kj ?g3 hb az ?_)
     case g3=>omega
     intro v' w1 aW dA ck;go_wp2;go_roundw
     case measure=>simp[intOf];omega
     case rel=>exact Step.out v' w1 0 (p - d) (q17 aW (by omega)) ck (by omega) (by omega) (by omega)
  ·have bF:k=len:=by omega
   subst bF;go_wp2_with (go_at_call 146;refine(q3n _ _ _ (Sl.qc ah)).mono ?_;rintro e w' ⟨u,rfl,fI,rfl⟩);go_ret;refine⟨_,rfl,?_,hb⟩;have e:=Hv.out;rw[xo _ zs _ (by have:=Hz.out;omega),xo _ ys _ (by have:=ec.out;omega),Vz.out,Vy.out] at e;have ij:=q5k 65536 l hr;rw[zQ.out] at ij;have hd0:d=0:=by
    rcases Nat.eq_zero_or_pos d with h | h
    ·exact h
    ·exfalso
     have hd1:d=1:=by omega
     subst hd1;rw[gL] at e;omega
   subst hd0;rw[ze 65536 (by omega) _ hr,show val 65536 l=x - y by omega] at fI;exact fI
end Go.Proofs.YtlhicnfeajejhaaGreatDoor
namespace Go.Cx
open Go.RowKit
def iv (neg:Bool) (s:ByteArray):Int:=if neg then -(qy s.data.toList:Int) else qy s.data.toList
def mg (x:Int):ByteArray:=⟨(bytesOf x.natAbs).toArray⟩
abbrev wv (x:Int):Value:=.agg #[.bool (decide (x < 0)),.string (mg x)]
theorem q56 (x:Int):(mg x).data.toList=bytesOf x.natAbs:=rfl
theorem j5 (x:Int):(mg x).size=nb x:=by show (mg x).data.size=_;rw[<-bu,q56,q9q];rfl
theorem q0i (x:Int):iv (decide (x < 0)) (mg x)=x:=by
 unfold iv;rw[q56,q0q];by_cases h:x < 0
 ·rw[if_pos (by simpa using h)];omega
 ·rw[if_neg (by simpa using h)];omega
theorem qmu (neg:Bool) (s:ByteArray):(iv neg s).natAbs=qy s.data.toList:=by unfold iv;cases neg <;> simp
theorem q8d:mg 0=⟨#[]⟩:=by unfold mg;rw[Int.natAbs_zero,q3k]
theorem qd5:wv 0 = .agg #[.bool false,.string ⟨#[]⟩]:=by show Value.agg #[.bool (decide ((0:Int) < 0)),.string (mg 0)]=_;rw[q8d];rfl
theorem qmv {x y:Int} (h:mg x=mg y):x.natAbs=y.natAbs:=by
 have h1:bytesOf x.natAbs=bytesOf y.natAbs:=by rw[<-q56,<-q56,h]
 have:=congrArg qy h1
 rwa [q0q,q0q] at this
theorem qgf {x y:Int} (h1:decide (x < 0)=decide (y < 0)) (h2:mg x=mg y):x=y:=by
 have:=qmv h2;have h3:x < 0↔y < 0:=by simpa using h1
 omega
theorem qmd (neg:Bool) (s:ByteArray):nb (iv neg s)<=s.size:=by refine q31 _ _ ?_;rw[qmu];have:=q5m s.data.toList;simpa using this
def sg (neg:Bool) (n:Nat):Int:=if neg then -(n:Int) else n
theorem qmw (neg:Bool) (n:Nat):(sg neg n).natAbs=n:=by unfold sg;cases neg <;> simp
theorem qgg (neg:Bool) (n:Nat) (h:n≠0):decide (sg neg n < 0)=neg:=by unfold sg;cases neg <;> simp <;> omega
theorem q57 (neg:Bool):sg neg 0=0:=by unfold sg;cases neg <;> simp
theorem qme (neg:Bool) (n:Nat):mg (sg neg n)=⟨(bytesOf n).toArray⟩:=by unfold mg;rw[qmw]
theorem jq (neg:Bool) (s:ByteArray):iv neg s=sg neg (qy s.data.toList):=rfl
end Go.Cx
