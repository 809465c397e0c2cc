/- Steps towards MorseChecks. Conditions: none. -/
import Derived.Test.YtlhicnfeajejhaaGreatDoorFNf
import Derived.Test.YtlhicnfeajejhaaGreatDoorFNh
set_option maxRecDepth 1000000
set_option maxHeartbeats 16000000
namespace Go.Proofs.YtlhicnfeajejhaaGreatDoor
open Go.RowKit Go.Cx Go.Shelf Go.Lib Go.Sort Go.Proofs
variable {P:Program} {k:Nat} {α:Type} [Inhabited α]
theorem qkj (L:qhh P k) (enc:α->List Value) (cf:α->α->Int) (key:α->Int) (g:Nat) (cb:Array Value) (blk off cap sz:Nat) (d0:Array α) (w0:World) (eg:∀ args w,(callFunc g args).run P w = .ok (.enter g args) w) (aY:CmpLays P g cb enc k cf blk off d0.size w0) (aq:∀ x y,cf x y < 0↔key x < key y) (R:RowK enc k w0 blk off d0) (hs:d0.size=sz) (ao:sz<=19) (d:Array α) (w:World) (S:SWK enc k w0 blk off d w) (et:d.size=sz) :
  Calls P 232 #[.slice (some ⟨blk,off,none⟩) sz cap,.int .i64 sz,.func (.func g) #[] cb] w fun e w' =>
   e = .returned (.tuple #[])/\∃ d':Array α,qs key d.toList d'.toList/\Srt key d'.toList/\SWK enc k w0 blk off d' w':=by
 have LL:Aside _:=L;have RR:Aside _:=R;have HC:Aside _:=aY;have bY:Aside _:=aq;have EG:Aside _:=eg;have cI:=L.c0;have cM:=L.c1;have mixed:=L.mixed;have aE:=L.aE;have zE:=L.zE;have uS:=run_underlying L.tS;have tN:=L.tN;have tNa:=L.tNa;have tNz:=L.tNz;have tNv:=L.tNv;have tB:=L.tB;have tBa:=L.tBa;have tBz:=L.tBz;have tBv:=L.tBv;have tS:=L.tS;have tSa:=L.tSa;have tSz:=L.tSz;have tSv:=L.tSv;have tU:=L.tU;have tUa:=L.tUa;have tUz:=L.tUz;have tUv:=L.tUv;have t0:=L.t0;have t0a:=L.t0a;have t0z:=L.t0z;have t0v:=L.t0v
 have S1:Aside _:=S;obtain⟨l,hl⟩ : ∃ l,l=d.toList:=⟨_,rfl⟩
 have bH:l.length=sz:=by rw[hl,bi];exact et
 have HL:=lhd hl;clear hl;have fp:=lhd bH;clear aY aq S;go_enter L.f4,Tryz.ntmps232;clear L R;go_wp2;go_loopg [7,8] sz (fun g1 va vb wr=>va = .int .i64 0/\vb = .int .i64 20/\Aside (SWK enc k w0 blk off d wr))
 case atStart=>exact⟨rfl,rfl,S1⟩
 case round =>
  clear S1;obtain⟨rfl,rfl,S1⟩:=hrel;have cF:¬ (20:Int)<=(sz:Int):=by omega
  go_wp2_with fail;refine(qki LL.out enc cf key g cb blk off cap sz d0 w0 eg HC.out bY.out RR.out hs (by omega) d wr S1.out 0 sz [] l [] (by rw[HL.out];simp) rfl (by omega) (nlr _) et).mono ?_;rintro e w2 ⟨rfl,d2,m2,bQ,dy,ir,S2⟩;have hB:qs key l d2.toList/\Srt key d2.toList:=by
   rw[bQ,gQ,List.nil_append];exact⟨dy,ir⟩
  have HB:=lhd hB;clear bQ dy ir hB S1;have S1:Aside _:=S2;clear S2;go_wp2;go_loopg [6,7,8,9] 0 (fun g2 v6 v7 v8 v9 lv=>v6 = .int .i64 20/\Aside (SWK enc k w0 blk off d2 lv))
  case atStart=>exact⟨rfl,S1⟩
  case round =>
   clear S1;obtain⟨rfl,S1⟩:=hrel;have cF:¬ (20:Int) < (sz:Int):=by omega
   go_wp2
   go_end0
   exact⟨rfl,d2,by rw[<-HL.out];exact HB.out.1,HB.out.2,S1.out⟩
end Go.Proofs.YtlhicnfeajejhaaGreatDoor
namespace Go.Proofs.YtlhicnfeajejhaaGreatDoor
open Go.RowKit Go.Cx Go.Sort Go.Proofs
theorem qdu (x:Sd) (w:World):Calls Tryz.prog 184 #[.agg #[.int .i64 x.c,.int .i64 x.g]] w fun e w'=>e = .returned (.int .i64 x.c)/\∃ q pz,w'=grow (w.drewN q) pz:=by
 go_enter Tryz.func184,Tryz.ntmps184;go_wp2;go_ret;exact⟨rfl,0,_,alloc_eq_grow _ _⟩
theorem qkk (x y:Sd) (bk:Nat) (w:World) (hb:bk < w.heap.size) (hc:w.cell? ⟨bk,0,none⟩=some (.func (.func 184) #[] #[])) :
  Calls Tryz.prog 204 #[.agg #[.int .i64 x.c,.int .i64 x.g],.agg #[.int .i64 y.c,.int .i64 y.g],.pointer (some ⟨bk,0,none⟩)] w fun e w'=>e = .returned (.int .i64 (q3u x.c y.c))/\∃ q pz,w'=grow (w.drewN q) pz:=by
 have mixed:Tryz.prog.follows .mixedOrders=true:=by kernel_rfl
 go_enter Tryz.func204,Tryz.ntmps204;go_wp2_with fail;have cb:∀ n os,(grow (((w.alloc (.cells #[.int .i64 x.c,.int .i64 x.g] 108)).alloc (.cells #[.int .i64 y.c,.int .i64 y.g] 108)).drewN n) os).cell? ⟨bk,0,none⟩=some (.func (.func 184) #[] #[]):=fun n os=>cell_grown (by simp;omega) (qk (qk hc _) _) n os
 have Hs:∀ n os,(grow (((w.alloc (.cells #[.int .i64 x.c,.int .i64 x.g] 108)).alloc (.cells #[.int .i64 y.c,.int .i64 y.g] 108)).drewN n) os).cell? ⟨w.heap.size,0,none⟩=some (.int .i64 x.c):=fun n os=>cell_grown (by simp;omega) (qk (qd w #[.int .i64 x.c,.int .i64 x.g] 108 (0,0) 0) _) n os
 have Hw:∀ n os,(grow (((w.alloc (.cells #[.int .i64 x.c,.int .i64 x.g] 108)).alloc (.cells #[.int .i64 y.c,.int .i64 y.g] 108)).drewN n) os).cell? ⟨w.heap.size+1,0,none⟩=some (.int .i64 y.c):=fun n os=>cell_grown (by simp) (by have:=qd (w.alloc (.cells #[.int .i64 x.c,.int .i64 x.g] 108)) #[.int .i64 y.c,.int .i64 y.g] 108 (0,0) 0;rwa [World.size_alloc] at this) n os
 have sx:∀ n os,(grow (((w.alloc (.cells #[.int .i64 x.c,.int .i64 x.g] 108)).alloc (.cells #[.int .i64 y.c,.int .i64 y.g] 108)).drewN n) os).cell? ⟨w.heap.size,1,none⟩=some (.int .i64 x.g):=fun n os=>cell_grown (by simp;omega) (qk (qd w #[.int .i64 x.c,.int .i64 x.g] 108 (0,0) 1) _) n os
 have Ia:∀ n os,(grow (((w.alloc (.cells #[.int .i64 x.c,.int .i64 x.g] 108)).alloc (.cells #[.int .i64 y.c,.int .i64 y.g] 108)).drewN n) os).cell? ⟨w.heap.size+1,1,none⟩=some (.int .i64 y.g):=fun n os=>cell_grown (by simp) (by have:=qd (w.alloc (.cells #[.int .i64 x.c,.int .i64 x.g] 108)) #[.int .i64 y.c,.int .i64 y.g] 108 (0,0) 1;rwa [World.size_alloc] at this) n os
 obtain⟨w2,eO⟩ : ∃ w2,w2=(w.alloc (.cells #[.int .i64 x.c,.int .i64 x.g] 108)).alloc (.cells #[.int .i64 y.c,.int .i64 y.g] 108):=⟨_,rfl⟩
 rw[<-eO] at cb Hs Hw sx Ia ⊢;have zX:=lhd eO;clear eO
 go_quiet_grown (first
  |(go_at_call 201;exact Calls.grown_of (q64 _ _ _))
  |(go_at_call 184;first | exact Calls.grown_of (qdu x _) | exact Calls.grown_of (qdu y _)))
 go_wp2;go_ret;exact⟨rfl,nq,_,by rw[zX.out,q7o]⟩
theorem qhi (bk blk size:Nat) (w:World) (hb:bk < w.heap.size) (ak:bk≠blk) (hc:w.cell? ⟨bk,0,none⟩=some (.func (.func 184) #[] #[])) :
  CmpLays Tryz.prog 204 #[.pointer (some ⟨bk,0,none⟩)] Sd.enc 2 (fun x y=>q3u x.c y.c) blk 0 size w:=by
 intro m os dk _ x y;refine qkk x y bk _ ?_ ?_
 ·unfold sortWorldK;rw[size_grow,size_putRowK];show bk < w.heap.size+_;omega
 ·unfold sortWorldK;rw[cell?_grow _ _ _ (by rw[size_putRowK];exact hb),cell?_putRowK_other _ _ _ _ _ _ _ ak];exact hc
theorem qhj (c:Value) (w:World):Calls Tryz.prog 247 #[.slice none 0 0,.int .i64 0,.int .i64 0,c] w fun e w'=>e = .returned (.tuple #[])/\w'=w:=by
 go_enter Tryz.func247,Tryz.ntmps247;go_wp2;go_loopg [8] 0 (fun _ vi wr=>vi = .int .i64 1/\wr=w)
 case atStart=>exact⟨rfl,rfl⟩
 case round =>
  obtain⟨rfl,rfl⟩:=hrel;go_wp2
  go_end0
  exact⟨rfl,rfl⟩
theorem qhk (c:Value) (w:World):Calls Tryz.prog 232 #[.slice none 0 0,.int .i64 0,c] w fun e w'=>e = .returned (.tuple #[])/\w'=w:=by
 go_enter Tryz.func232,Tryz.ntmps232;go_wp2;go_loopg [7,8] 0 (fun _ va vb wr=>va = .int .i64 0/\vb = .int .i64 20/\wr=w)
 case atStart=>exact⟨rfl,rfl,rfl⟩
 case round =>
  obtain⟨rfl,rfl,rfl⟩:=hrel;go_wp2_with fail;refine(qhj c wr).mono ?_;rintro e w1 ⟨rfl,rfl⟩;go_wp2;go_loopg [6,7,8,9] 0 (fun _ v6 v7 v8 v9 lv=>v6 = .int .i64 20/\lv=w1)
  case atStart=>exact⟨rfl,rfl⟩
  case round =>
   obtain⟨rfl,rfl⟩:=hrel;go_wp2
   go_end0
   exact⟨rfl,rfl⟩
theorem qkl (base bk:Nat) (v:Value) (l:List Sd) (w:World) (h:w.ownsRow base 108 2 v l.length (cat Sd.enc l)) (hl:l.length<=19) (hb:bk < w.heap.size) (ak:v.ownBlock≠some bk) (hc:w.cell? ⟨bk,0,none⟩=some (.func (.func 184) #[] #[])) :
  Calls Tryz.prog 203 #[v,.func (.func 204) #[] #[.pointer (some ⟨bk,0,none⟩)]] w fun e w' =>
   e = .returned (.tuple #[])/\∃ l',qs Sd.c l l'/\Srt Sd.c l'/\w'.ownsRow base 108 2 v l'.length (cat Sd.enc l')/\w.grownBy w' v.ownBlock:=by
 have ej:=h;rcases h.2 with ⟨rfl,pA⟩ | ⟨g,cap,cur,rfl,hg,tw,r1,r2,r3,r4⟩
 ·have dO:l.length=0:=by have:=h.1;rw[pA] at this;simp at this;omega
  have fS:l=[]:=gu dO;subst fS;clear h pA hl dO ak hc;go_enter Tryz.func203,Tryz.ntmps203;go_wp2_with fail;refine(qhk _ w).mono ?_;rintro e w1 ⟨rfl,rfl⟩;go_wp2
  go_end0
  exact⟨rfl,[],qs.refl _,Srt.nil,ej,⟨rfl,rfl,rfl,nlr _,fun _ _ _=>rfl⟩⟩
 ·have hH:=q32 Sd.qp ej;have lf:g < w.heap.size:=(gw.1 tw).1;have fY:bk≠g:=fun e=>ak (by rw[e];rfl)
  have hls:(l.toArray).size=l.length:=by simp
  have HL:=qhi bk g l.toArray.size w hb fY hc;clear h tw r1 r2 r3 r4 ak hc fY;have R:RowK Sd.enc 2 w g 0 l.toArray:=⟨Sd.qp,Sd.xu,hH,lf⟩
  have HH:=lhd ej;clear ej;have HR:Hid _:=R;have Ib:Hid _:=HL;have Ic:Hid _:=hH;clear R HL hH;go_enter Tryz.func203,Tryz.ntmps203;go_wp2_with fail;refine(qkj qp1 Sd.enc (fun x y=>q3u x.c y.c) Sd.c _ _ g 0 cap l.length l.toArray w Tryz.call204 Ib.out (fun x y=>qaa _ _) HR.out hls hl l.toArray w (SWK.start Ic.out) hls).mono ?_;rintro e w1 ⟨rfl,d',k1,k2,k3⟩;have uf:d'.size=l.length:=by have:=k1.len;simpa using this.symm
  obtain⟨z1,z2⟩:=q61 Sd.qp HH.out uf k3;clear k3;go_wp2
  go_end0
  refine⟨rfl,d'.toList,by simpa using k1,k2,?_,z2⟩;have e5:d'.toList.length=l.length:=by rw[bi];exact uf
  rw[e5];exact z1
theorem Tryz.q05:(Tryz.prog.info? 108).map (fun i=>(i.zero,i.size,i.bytes))=some (some (.agg #[.int .i64 0,.int .i64 0]),2,16):=by kernel_rfl
theorem qf8 (v:Value) (l:List Sd) (w:World) (h:Sl w 2 v (cat Sd.enc l)) (hl:l.length<=1099511627776) :
  Calls Tryz.prog 202 #[v] w fun e w'=>∃ r,e = .returned r/\w'.ownsRow w.heap.size 108 2 r l.length (cat Sd.enc l)/\Below w.heap.size w w':=by
 have qe:∀ (w:World) (a:Option Addr) (n c n' c':Nat),(binOp .eql 73 (.slice a n c) (.slice none n' c')).run Tryz.prog w = .ok (.bool a.isNone) w:=fun w a n c n' c'=>Lib.run_eql_slice_nil w _ _ a n c n' c' Tryz.underlying73
 obtain⟨a,n,cap,rfl,h2,h3,h4,h5,h6⟩:=h;cases a with
 | none =>
  have hc:=h5 rfl;have hn:n=0:=by omega
  subst hn hc;have dO:l=[]:=gu (by rw[qt Sd.qp] at h4;omega);subst dO;clear h2 h3 h4 h5 h6;go_enter Tryz.func202,Tryz.ntmps202;go_wp2;go_ret;exact⟨_,rfl,World.ownsRow_nil _ _ _ _,Below.refl _ _⟩
 | some ad =>
  have hs:Sl w 2 (.slice (some ad) n cap) (cat Sd.enc l):=⟨some ad,n,cap,rfl,h2,h3,h4,h5,h6⟩
  clear h2 h3 h4 h5 h6;have aV:Below w.heap.size w (w.alloc (.cells #[] 108)):=(Below.refl _ w).alloc (nlr _) _;have hk:=hs.alloc (.cells #[] 108);have HS:=lhd hk;clear hs hk;go_enter Tryz.func202,Tryz.ntmps202;go_wp2_with (at_builtin;refine qm (W:=w) rfl _ _ 73 rfl w.heap.size 108 Tryz.q05 Tryz.underlying73 rfl (by decide) (by decide) _ _ _ rfl (zj w 108 2) _ l.length (cat Sd.enc l) rfl HS.out (qt Sd.qp l) (zo Sd.xu l) ?ad1 aV aV.size ?_)
  case ad1=>omega
  intro v1 w1 fj cA al;go_wp2;go_ret;exact⟨_,rfl,by simpa using fj,al⟩
theorem qc1 (v:Value) (l:List Sd) (w:World) (h:Sl w 2 v (cat Sd.enc l)) (hl:l.length<=19) :
  Calls Tryz.prog 183 #[v,.func (.func 184) #[] #[]] w fun e w'=>∃ r l',e = .returned r/\qs Sd.c l l'/\Srt Sd.c l'/\w'.ownsRow w.heap.size 108 2 r l'.length (cat Sd.enc l')/\Below w.heap.size w w':=by
 obtain⟨a,n,cap,hv⟩:=qg h;subst hv;have HS:=lhd h;clear h;go_enter Tryz.func183,Tryz.ntmps183;go_wp2_with fail;refine(qf8 _ l _ (HS.out.alloc _) (by omega)).mono ?_;rintro e w1 ⟨r,rfl,hr,ai⟩;rw[World.size_alloc] at hr ai;have hc:w1.cell? ⟨w.heap.size,0,none⟩=some (.func (.func 184) #[] #[]):=by
  have:=q1n ai (by simp) (qd w #[.func (.func 184) #[] #[]] _ (0,0) 0);exact this
 have hz:w.heap.size < w1.heap.size:=by have:=ai.size;simp at this;omega
 have ak:r.ownBlock≠some w.heap.size:=fun e=>by have:=(hr.lt w.heap.size e).1;omega
 have aV:Below w.heap.size w w1:=((Below.refl _ w).alloc (nlr _) _).trans (ai.mono (by omega));have fN:=qkl (w.heap.size+1) w.heap.size r l w1 hr hl hz ak hc;have BQ:=lhd fN;have HR:=lhd hr;clear fN hc hr;go_wp2_with fail;refine BQ.out.mono ?_;rintro e w2 ⟨rfl,l',k1,k2,k3,k4⟩;have aw:Below w.heap.size w w2:=aV.grown k4 (by omega) (fun k hk=>by have:=(HR.out.lt k hk).1;omega);go_wp2;go_ret;exact⟨r,l',rfl,k1,k2,qf k3 (by omega),aw⟩
end Go.Proofs.YtlhicnfeajejhaaGreatDoor
