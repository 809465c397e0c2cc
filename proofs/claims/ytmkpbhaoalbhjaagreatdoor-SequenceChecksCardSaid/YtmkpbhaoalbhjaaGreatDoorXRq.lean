/- Steps towards SequenceChecks. Conditions: none. -/
import Derived.Lib.AppendZerosOnto
import Derived.Test.YtmkpbhaoalbhjaaGreatDoorXRp
set_option maxRecDepth 1000000
set_option maxHeartbeats 0
open Go.Value renaming slice→O,agg→I,pointer→σ,bool→τ,tuple→ψ,string→ω
open Option renaming none→Z,some→Y
open Go renaming undef→V,World→δ,Value→ε
open Go.IntKind renaming i64→φ
open Go.Cx renaming keep→J
namespace Go.Cx
open Go.RowKit
theorem qga {L:List (Int×Int)}{k:Nat}{p:Int×Int}(hp:L[k]? =Y p)(c:Int):co (L.take (k+1)) c=co (L.take k) c+if p.1=c then p.2 else 0:=by rw[gC,hp];exact q5a _ p c
theorem qq2 {L:List (Int×Int)}(h:Cn L){k:Nat}{p:Int×Int}(hp:L[k]? =Y p):co (L.take k) p.1=0:=by
 obtain⟨hk,e⟩:=gk.1 hp;refine gN fun hn=>?_
 have hq:∀M:List (Int×Int),(∀q∈M,q.1≠p.1)->co M p.1=0:=fun M=>by
  induction M with
  |nil=>intro _;rfl
  |cons q M ih =>intro h;rw[jh,if_neg (h q bg),ih fun r hr=>h r (bm _ hr)];rfl
 refine hn (hq _ fun q hq=>?_);obtain⟨i,hi,e2⟩:=List.mem_iff_getElem.1 hq;rw[gD]at hi;rw[List.getElem_take]at e2;have:=bb.1 h.1 i k (by omega) hk (by omega);rw[<-e2,<-e];omega
end Go.Cx
namespace Go.Proofs.YtmkpbhaoalbhjaaGreatDoor
open Go.RowKit Go.Cx
attribute [local go_sem ↓] Go.wp_at_zero Go.wp_at_succ
theorem qvt {w:δ}{v u:ε}{R:List Int}{f:Int->Int}{N S:Nat}(h:Sl w 1 v (ints R))(hu:(Fk.cf f N S).holds u w)(hR:∀c∈R,I64 c)(Ur:R.length<=200)(hN:N<=100000)(hS:S<=100000) :
  Calls Tryz.prog 120 #[v,u] w fun e w'=>∃E:Nat,e=.returned (O E R.length R.length)/\w<=E/\E<w'/\EW w' E R.length (fun i=>f (R.getD i 0))/\Below w w w':=by
 have P4:=fun c=>qnv hu c
 obtain⟨T,h1,h2,h3,h4,h5⟩:=hu;obtain⟨a,n,c,rfl⟩:=qg h;have hn:n=R.length:=by have:=h.open.2.2.1;rw[xl]at this;omega
 subst hn;obtain⟨b,m,d,rfl⟩:=qg h5;have HX:=q5h h h1 h2 h3 h4 h5 P4 hR;obtain⟨n,hn⟩:=x4 R.length;rw[<-hn]at Ur ⊢;have X9:=qqr n (by omega);have HN:=lhd hn;clear h h1 h2 h3 h4 h5 P4 hR hn;obtain⟨W,hW⟩:=x4 (w.alloc (.map #[] 0));have hw:Below w w W:=by rw[hW];exact(q9).alloc (nlr _) _
 have dL:Mp Tryz.prog 3 W w 0 (fun _=>Z):=by rw[hW];exact Mp.made (P:=Tryz.prog) (k:=3) w
 obtain⟨B,hB⟩:=x4 w.heap.size;rw[<-hB]at dL;have HW:=yt hw dL hW hB;clear hw dL hW hB;have dU:=@run_makeMap Tryz.prog;go_enter Tryz.func120,Tryz.ntmps120;go_wp2_with fail;rw[<-HW.a2,<-HW.b3];clear dU;refine(qdd _ _ S W (HX.a5.keep HW.out.1) HX.a4 (by have:=HX.a3;rw[q4s];omega)).mono ?_;rintro e w1 ⟨r,rfl,⟨L,g1,g2,g3,g4⟩,ae⟩;rw[zv]at g2;have e:L=T:=Cn.uniq g1 HX.a1 g2;subst e;obtain⟨ra,rc,rfl⟩:=qj g4;obtain⟨len,hlen⟩:=x4 L.length;rw[<-hlen]at g4 ⊢;have XA:len<=100000:=by have:=HX.a3;omega
 have sL:∀ad,ra=Y ad->ad.block≠B:=fun ad e=>by
  have h1:=(g4.lt ad.block (by rw[e];rfl)).1;have h2:W.heap.size=w+1:=by rw[HW.a2];simp
  have h3:=HW.b3;omega
 have Us:=lhd sL;clear sL;have H1:=kg hlen (Sl.qc g4) ((btr HW.out.1 ae)) (HW.a1.keep ae) ae;clear g1 g2 g3 g4 ae hlen;go_wp2_with fail;go_loopw [7,15] (fun _ x wr=>∃k:Nat,x=k/\k<=len/\Hid (∃g,Mp Tryz.prog 3 wr B k g/\∀c,(g c).getD (wv 0)=wv (co (L.take k) c))/\Hid (Below w w wr/\∀p u,w1 p=Y u->p.block≠B->wr p=Y u)) (fun _ x _=>len-(vI x).toNat)
 case atStart=>exact⟨0,rfl,gm _,(lhd ⟨_,H1.a3,fun c=>rfl⟩),(lhd ⟨H1.a2,fun _ _ h _=>h⟩)⟩
 case round =>
  obtain⟨k,rfl,hk,HM,HB⟩:=hrel;by_cases aZ:k<len
  ·have cV:(k:Int)<len:=by omega
   obtain⟨ad,p,iH,hp,d0,d1,d2⟩:=qsz H1.a1 (k:=k) (by have:=H1.out.1;omega);subst iH;have oI:(ad.add (k*3)).block≠B:=by have:=Us.out ad rfl;unfold Addr.add;first|exact this|(split <;> exact this)
   replace d0:=HB.out.2 _ _ d0 oI
   replace d1:=HB.out.2 _ _ d1 oI
   replace d2:=HB.out.2 _ _ d2 oI
   have A5:=gi hp;have Cg:f p.1=p.2:=by rw[<-HX.a2];exact zl HX.a1.1 A5
   have xS:I64 p.1:=HX.a6 p.1 (by rw[Cg];exact HX.a1.2 p A5);have a0:(wr.alloc (.cells #[p.1,τ (decide (p.2<0)),ω (mg p.2)] 167)) wr=p.1:=xz wr _ _ 0 rfl;have a1:(wr.alloc (.cells #[p.1,τ (decide (p.2<0)),ω (mg p.2)] 167)) ⟨wr,1,Z⟩=τ (decide (p.2<0)):=xz wr _ _ 1 rfl;have a2:(wr.alloc (.cells #[p.1,τ (decide (p.2<0)),ω (mg p.2)] 167)) ⟨wr,2,Z⟩=ω (mg p.2):=xz wr _ _ 2 rfl;obtain⟨g,hg,hgc⟩:=HM.out;have av:=q0k (P:=Tryz.prog) (k:=3) Tryz.underlying3 xS.1 xS.2;have aA:Below wr wr (wr.alloc (.cells #[p.1,τ (decide (p.2<0)),ω (mg p.2)] 167)):=(q9).alloc (nlr _) _;obtain⟨w5,iX,o6,jU⟩:=(hg.alloc (.cells #[p.1,τ (decide (p.2<0)),ω (mg p.2)] 167)).set (t:=198) (e:=110) Tryz.underlying3 Tryz.underlying198 (by unfold maxLen;omega) av (wv p.2);have aC:Below w w w5:=(HB.out.1.alloc HB.out.1.size _).grown jU (gd HB.out.1.size (by simp)) (fun j e=>by cases e;rw[HW.b3];exact nlr _);have wM:(Instr.mapUpdate 198 (.map (Y B)) p.1 (I #[τ (decide (p.2<0)),ω (mg p.2)])).run Tryz.prog (wr.alloc (.cells #[p.1,τ (decide (p.2<0)),ω (mg p.2)] 167))=.ok () w5:=iX;have iB:∀p u,w1 p=Y u->p.block≠B->w5 p=Y u:=fun p u h hp=>ql jU (qk (HB.out.2 p u h hp) _) fun k e=>by cases e;exact hp
   have GJ:∀c,(zg g p.1 (wv p.2) c).getD (wv 0)=wv (co (L.take (k+1)) c):=fun c=>by
    rw[qga hp];unfold zg;by_cases hc:c=p.1
    ·subst hc;rw[if_pos rfl,if_pos rfl,qq2 HX.a1 hp,Int.zero_add];rfl
    ·rw[if_neg hc,if_neg fun e=>hc e.symm,bA];exact hgc c
   have H5:=yt o6 GJ aC iB;clear iX o6 aC jU GJ iB A5 Cg xS av hp hg hgc aA oI;go_wp2_with fail;go_roundw
   case measure=>simp[vI];omega
   case rel=>exact⟨k+1,qh (by omega),by omega,(lhd ⟨_,H5.out.1,H5.a1⟩),(lhd ⟨H5.a2,H5.b3⟩)⟩
  ·have aM:k=len:=by omega
   have eY:Hid (∃g,Mp Tryz.prog 3 wr B len g/\∀c,(g c).getD (wv 0)=wv (f c)):=(lhd (by obtain⟨g,h1,h2⟩:=HM.out;refine⟨g,by rw[<-aM];exact h1,fun c=>?_⟩;rw[h2,gr (by rw[<-H1.out.1,aM];exact nlr _),HX.a2]))
   clear HM;have cV:¬(k:Int)<len:=by omega
   have dh:=lhd HB.out.1;clear HB;go_wp2_with fail;obtain⟨wo,eE⟩:=x4 wr;subst eE;obtain⟨W3,cH⟩:=x4 (wo.alloc (.cells (wz n) 110));obtain⟨E,hE⟩:=x4 wo.heap.size;have Ii:EW W3 E n (fun _=>0):=by rw[cH,hE];exact EW.new wo n _
   have aw:Below w w W3:=by rw[cH];exact dh.out.alloc dh.out.size _
   have jQ:w<=E:=by rw[hE];exact dh.out.size
   have P5:B<E:=by rw[hE];obtain⟨g,h1,_⟩:=eY.out;exact h1.lt
   have Ut:Hid (∃g,Mp Tryz.prog 3 W3 B len g/\∀c,(g c).getD (wv 0)=wv (f c)):=(lhd (by obtain⟨g,h1,h2⟩:=eY.out;exact⟨g,by rw[cH];exact h1.alloc _,h2⟩))
   have Uu:=lhd (show E<W3 by rw[cH,hE];simp);rw[<-cH,<-hE];have H3:=yh Ii aw P5;clear cH hE Ii aw eY aM hk P5;go_loopw [9,10,30] (fun _ _ x wr=>∃k:Nat,x=k/\k<=n/\Hid (EW wr E n (fun i=>if i<k then f (R.getD i 0)else 0))/\Hid (∃g,Mp Tryz.prog 3 wr B len g/\∀c,(g c).getD (wv 0)=wv (f c))/\Hid (Below w w wr/\E<wr)) (fun _ _ x _=>n-(vI x).toNat)
   case atStart=>exact⟨0,rfl,gm _,(lhd (H3.out.1.congr fun i _=>by simp)),Ut,(lhd ⟨H3.a1,Uu.out⟩)⟩
   case round =>
    obtain⟨k,rfl,hk,HE,HM,HB⟩:=hrel;by_cases dy:k<n
    ·have cV:(k:Int)<n:=by omega
     obtain⟨ad,x,iH,hx,d0⟩:=q00 HX.out.1 (k:=k) (by rw[<-HN.out];exact dy);subst iH
     replace d0:=J HB.out.1 d0
     have kE:=HX.b7 x (gi hx);obtain⟨g,hg,hgc⟩:=HM.out;have eh:(Instr.lookup 198 (.map (Y B)) x false).run Tryz.prog wr=.ok (I #[τ (decide (f x<0)),ω (mg (f x))]) wr:=by have:=hg.look (e:=110) Tryz.underlying3 Tryz.underlying198 (q20 wr) (yx kE);rw[this,hgc]
     obtain⟨t0,t1,t2,t3⟩:=HE.out k dy;have Ie:R.getD k 0=x:=by rw[gb,hx];rfl
     have HY:=lhd Ie;clear hx kE hg hgc Ie;go_wp2_with fail;go_roundw
     case measure=>simp[vI];omega
     case rel =>
      refine⟨k+1,qh (by omega),by omega,(lhd ((HE.out.put k (f x)).congr fun i hi=>?_)),(show Hid _ from ?_),(lhd ⟨(HB.out.1.setCell jQ _).setCell jQ _,by simpa [World.setCell]using HB.out.2⟩)⟩
      ·by_cases uz:i=k
       ·rw[if_pos uz,if_pos (by omega),uz,HY.out]
       ·rw[if_neg uz];by_cases h2:i<k
        ·rw[if_pos h2,if_pos (by omega)]
        ·rw[if_neg h2,if_neg (by omega)]
      ·obtain⟨g,hg,hgc⟩:=HM.out;have:=H3.b2;exact⟨g,(hg.setCell (show B≠E by omega) _).setCell (show B≠E by omega) _,hgc⟩
    ·have aM:k=n:=by omega
     subst aM;have cV:¬(k:Int)<k:=by omega
     go_wp2_with fail;go_ret;refine⟨E,rfl,jQ,?_,HE.out.congr fun i hi=>by rw[if_pos hi,gb],HB.out.1⟩;exact HB.out.2
def SlV (w:δ)(v:ε)(ls:List (List Int)):Prop:=∃vs,Sl w 1 v vs/\vs.length=ls.length/\∀(i:Nat) (u:ε) (l:List Int),vs[i]? =Y u->ls[i]? =Y l->Sl w 2 u (wvs l)
theorem SlV.keep {w w':δ}{v:ε}{ls:List (List Int)}(h:SlV w v ls)(hb:Below w w w'):SlV w' v ls:=by obtain⟨vs,h1,h2,h3⟩:=h;exact⟨vs,h1.keep hb,h2,fun i u l hu hl=>(h3 i u l hu hl).keep hb⟩
theorem SlV.len {w:δ}{a:Option Addr}{n c:Nat}{ls:List (List Int)}(h:SlV w (O a n c) ls):n=ls.length:=by obtain⟨vs,h1,h2,h3⟩:=h;have:=h1.open.2.2.1;omega
theorem SlV.at {w:δ}{a:Option Addr}{n c k:Nat}{ls:List (List Int)}(h:SlV w (O a n c) ls)(hk:k<n) :
  ∃ad u l,a=Y ad/\ls[k]? =Y l/\w (ad.add k)=Y u/\Sl w 2 u (wvs l):=by
 have hn:=h.len;obtain⟨vs,h1,h2,h3⟩:=h;obtain⟨_,_,_,h5,h6⟩:=h1.open;obtain⟨u,hu⟩:∃u,vs[k]? =Y u:=⟨_,gg (by omega)⟩
 obtain⟨l,hl⟩:∃l,ls[k]? =Y l:=⟨_,gg (by omega)⟩
 obtain⟨ad,rfl⟩:=sadq h5 (by omega)
 exact⟨ad,u,l,rfl,hl,h6 ad rfl _ _ hu,h3 k u l hu hl⟩
theorem qs2 (n:Nat)(hn:n<=1000000)(w:δ):Calls Tryz.prog 165 #[O Z 0 0,n] w fun e w'=>∃r,e=.returned r/\w'.ownsRow w 110 2 r 0 []/\Below w w w':=by
 have cY:¬((n:Int)<0):=by omega
 by_cases h0:n=0
 ·subst h0;go_enter Tryz.func165,Tryz.ntmps165;go_wp2;go_ret;exact⟨_,rfl,World.ownsRow_nil _ _ _ _,q9⟩
 have jX:(n:Int) > 0:=by omega
 obtain⟨i,hi,hz⟩:=Option.map_eq_some_iff.1 Tryz.qpw;simp only [Prod.mk.injEq]at hz;have wZ:∀ty,(Builtin.append_ #[73,3] ty #[O Z 0 0,n]).run Tryz.prog w =
   .ok (O w n (grownCap w n 0 110)) (w.drew.alloc (.cells (#[]++Builtin.zeroCells #[τ false,ω ⟨#[]⟩] n++Builtin.zeroCells #[τ false,ω ⟨#[]⟩] (grownCap w n 0 110-n)) 110)):=fun ty=>by
  have h:=Lib.run_append_grow_zeros w 73 3 ty 110 i _ φ φ Tryz.underlying73 Tryz.underlying3 hi hz.1 Z 0 0 [] (run_firstCells_none w.drew i.size 0 0 0) n (by omega) (by rw[hz.2.1];decide) (by omega) (by omega)
   (by rw[hz.2.2];omega)
   (by rw[Nat.zero_add];exact growslice_fits (by omega) (by rw[hz.2.2];omega))
  rw[show (I #[τ false,ω ⟨#[]⟩]).cells=#[τ false,ω ⟨#[]⟩]from by simp[Value.cells]]at h;simpa using h
 have Ag:n<=grownCap w n 0 110:=grownCap_ge w _ _ _;have BW:grownCap w n 0 110<=maxLen:=grownCap_le_maxLen w n 0 110 (by unfold maxLen;omega);obtain⟨G,hG⟩:=x4 (grownCap w n 0 110);rw[<-hG]at wZ Ag BW;obtain⟨Bd,hZ⟩:=x4 (#[]++Builtin.zeroCells #[τ false,ω ⟨#[]⟩] n++Builtin.zeroCells #[τ false,ω ⟨#[]⟩] (G-n));have P6:Bd.size=G*2:=by rw[hZ];simp only [Array.size_append,size_zeroCells];show 0+n*2+(G-n)*2=G*2;omega
 rw[<-hZ]at wZ;obtain⟨W,hW⟩:=x4 (w.drew.alloc (.cells Bd 110));have hb:Below w w W:=by rw[hW];exact(qb (Below.refl _ w) 1).alloc (nlr _) _
 have al:W.ownsRow w 110 2 (O w 0 G) 0 []:=by refine⟨rfl,.inr ⟨w,G,Bd,rfl,nlr _,?_,gm _,BW,P6,rfl⟩⟩;rw[hW];exact heap_alloc_new w.drew _
 rw[<-hW]at wZ;have HH:=jg hb al;unfold maxLen at BW;clear hG hZ P6 hW hb al hi hz;go_enter Tryz.func165,Tryz.ntmps165;go_wp2_with (at_builtin;refine Lib.wpList_append_run _ rfl _ _ _ _ rfl _ _ rfl rfl _ _ (wZ _) ?_)
 all_goals (go_ret;exact⟨_,rfl,HH.out.2,HH.out.1⟩)
theorem qlo {w:δ}{a:Option Addr}{n c:Nat}{l:List Int}(h:Sl w 2 (O a n c) (wvs l)):n=l.length:=by have:=h.open.2.2.1;rw[q2j]at this;omega
theorem q4i {α:Type}{ls:List (List α)}{k:Nat}{l:List α}(h:ls[k]? =Y l):(ls.take (k+1)).flatten=(ls.take k).flatten++l:=by rw[gC,h];simp
theorem qaf {α:Type}(ls:List (List α))(k:Nat):(ls.take k).flatten.length<=ls.flatten.length:=by
 have h:ls.flatten=(ls.take k).flatten++(ls.drop k).flatten:=by rw[<-List.flatten_append,bC]
 rw[h,gw];omega
theorem qnh {w:δ}{v:ε}{ls:List (List Int)}(h:SlV w v ls)(hl:ls.length<=1000)(hs:ls.flatten.length<=100000):Calls Tryz.prog 148 #[v] w fun e w' =>
  ∃r,e=.returned r/\w'.ownsRow w 110 2 r ls.flatten.length (wvs ls.flatten)/\Below w w w':=by
 obtain⟨a,n,c,rfl⟩:∃a n c,v=O a n c:=by obtain⟨vs,h1,_⟩:=h;exact qg h1
 have hn:=h.len;have HX:=yh h hn hs;have eR:n<=1000:=by omega
 clear h hn hl hs;go_enter Tryz.func148,Tryz.ntmps148;go_wp2;go_loopw [3,5,11] (fun x _ y wr=>∃k s:Nat,y=k/\k<=n/\x=s/\s<=100000/\Hid (s=(ls.take k).flatten.length)/\Hid (Below w w wr)) (fun _ _ y _=>n-(vI y).toNat)
 case atStart=>exact⟨0,0,rfl,gm _,rfl,by omega,(lhd rfl),(lhd q9)⟩
 case round =>
  obtain⟨k,s,rfl,hk,rfl,hs,HS,HB⟩:=hrel;by_cases dy:k<n
  ·have cV:(k:Int)<n:=by omega
   obtain⟨ad,u,l,iH,hl,d0,hu⟩:=(HX.out.1.keep HB.out).at dy;subst iH;obtain⟨ua,un,uc,rfl⟩:=qg hu;have tP:=qlo hu;have cC:s+un=(ls.take (k+1)).flatten.length:=by rw[q4i hl,gw,<-HS.out,tP]
   have aV:s+un<=100000:=by rw[cC];exact gd (qaf ls _) HX.b2
   have hw:IntKind.i64.wrap ((s:Int)+(un:Int))=((s+un:Nat):Int):=by rw[Int.natCast_add];exact IntWalk.i64_in _ (by omega)
   have ue:¬(((s+un:Nat):Int)<0):=by omega
   have HU:=lhd cC;obtain⟨su,Lw⟩:=x4 (s+un);rw[<-Lw]at hw ue aV;have Uv:=lhd Lw;clear cC tP hu hl Lw;go_wp2;go_roundw
   case measure=>simp[vI];omega
   case rel=>exact⟨k+1,su,qh (by omega),by omega,rfl,aV,(lhd (Uv.out.trans HU.out)),HB⟩
  ·have aM:n=k:=by omega
   subst aM;have cV:¬(n:Int)<n:=by omega
   obtain⟨wo,eE⟩:=x4 wr;subst eE;clear HS;go_wp2_with fail;refine(qs2 s (by omega) _).mono ?_;rintro e w1 ⟨r,rfl,hr,ae⟩;have hb:Below w w w1:=(btr HB.out ae);obtain⟨ra,rc,rfl⟩:=qj hr;have H1:=jg (qf hr HB.out.size) hb;clear hr hb ae;go_wp2_with fail;go_loopw [6,8,27] (fun x _ y wr=>∃(k m:Nat) (xa:Option Addr) (xc:Nat),y=k/\k<=n/\x=O xa m xc/\Hid (m=(ls.take k).flatten.length/\wr.ownsRow w 110 2 (O xa m xc) m (wvs (ls.take k).flatten))/\Hid (Below w w wr)) (fun _ _ y _=>n-(vI y).toNat)
   case atStart=>exact⟨0,0,ra,rc,rfl,gm _,rfl,(lhd ⟨rfl,H1.out.1⟩),(lhd H1.out.2)⟩
   case round =>
    obtain⟨k,m,xa,xc,rfl,hk,rfl,HO,jF⟩:=hrel;by_cases dy:k<n
    ·have cV:(k:Int)<n:=by omega
     obtain⟨ad,u,l,iH,hl,d0,hu⟩:=(HX.out.1.keep jF.out).at dy;subst iH;have hlen:(wvs l).length=l.length*2:=q2j l;have cC:m+l.length=(ls.take (k+1)).flatten.length:=by rw[q4i hl,gw,<-HO.out.1]
     have aV:m+l.length<=100000:=by rw[cC];exact gd (qaf ls _) HX.b2
     have af:=HO.out.2;have bQ:=jF.out;have hsz:=jF.out.size;have H2:=jg hl cC;clear hl cC hk dy;go_wp2_with (at_builtin;refine q2f (W:=w) rfl _ _ 73 rfl w 110 Tryz.qpw Tryz.underlying73 rfl (by decide) (by decide) _ m _ rfl af u l.length _ rfl hu hlen ?one ?bp2 bQ hsz ?_)
     case one =>intro x hx;obtain⟨y,hy,hx⟩:=List.mem_flatMap.1 hx;exact qvg y x hx
     case bp2=>omega
     intro v9 w9 jB rZ ei;obtain⟨nS,nU,sb⟩:=qj jB;subst sb;have lC:=jg jB ei;clear rZ jB ei af hlen bQ hsz hu;go_wp2;go_roundw
     case measure=>simp[vI];omega
     case rel =>refine⟨k+1,_,nS,nU,qh (by omega),by omega,rfl,(lhd ⟨H2.out.2,?_⟩),(lhd lC.out.2)⟩;rw[q4i H2.out.1,qdb];exact lC.out.1
    ·have aM:n=k:=by omega
     subst aM;have cV:¬(n:Int)<n:=by omega
     have fh:(ls.take n).flatten=ls.flatten:=by rw[gr (by rw[<-HX.a1];exact nlr _)]
     have HF:=yt HO.out.1 HO.out.2 jF.out fh;clear HO jF fh;go_wp2;go_ret;refine⟨_,rfl,?_,HF.a2⟩;have h1:=HF.a1;have h2:=HF.out.1;rw[HF.b3]at h1 h2;rw[List.length_flatten]at h2;rw[<-h2];exact h1
theorem q4j {P:Program}{Q:Exit->Act->δ->Prop}{o:Oper}{a:Act}{w:δ}{K:Act->δ->Prop}(x:Operand)(aX:o.op=.nilCheck x)(p:Addr)(h1:a.eval x=σ (Y p))(h:K (a.put o.dst (σ (Y p))) w):Oper.wp P o a w K Q:=by unfold Oper.wp;simp[execOp,aX,h1];exact h
structure Qk (q b:Nat)(w w':δ):Prop where
 os:w'.os=w.os
 tape:w'.tape=w.tape
 output:w'.output=w.output
 size:w.heap.size<=w'
 block:∀k,k<b->k≠q->w'.heap[k]? =w.heap[k]?
theorem Qk.refl (q b:Nat)(w:δ):Qk q b w w:=⟨rfl,rfl,rfl,nlr _,fun _ _ _=>rfl⟩
theorem Qk.trans {q b:Nat}{w0 w w':δ}(h:Qk q b w0 w)(k:Qk q b w w'):Qk q b w0 w' :=
 ⟨k.os.trans h.os,k.tape.trans h.tape,k.output.trans h.output,gd h.size k.size,fun i hi ah=>(k.block i hi ah).trans (h.block i hi ah)⟩
theorem Qk.below {q b:Nat}{w0 w w':δ}(h:Qk q b w0 w)(k:Below b w w'):Qk q b w0 w' :=
 h.trans ⟨k.os,k.tape,k.output,k.size,fun i hi _=>k.block i hi⟩
theorem Qk.set {q b:Nat}{w0 w:δ}(h:Qk q b w0 w)(k:Nat)(u:ε):Qk q b w0 (w.setCell ⟨q,k,Z⟩ u) :=
 h.trans ⟨rfl,rfl,rfl,by simp[World.setCell],fun i _ ah=>Below.heap_setCell _ _ _ _ (by exact ah)⟩
theorem Qk.cell {q b:Nat}{w w':δ}(h:Qk q b w w'){p:Addr}{u:ε}(hb:p.block<b)(hp:p.block≠q)(hu:w p=Y u):w' p=Y u :=
 (World.cell?_of_block (w:=w) (h.block p.block hb hp)).trans hu
theorem Qk.lower {q b c:Nat}{w0 w w':δ}(h:Qk q b w w')(hb:Below c w0 w)(hq:c<=q)(hc:c<=b):Below c w0 w' :=
 hb.trans ⟨h.os,h.tape,h.output,h.size,fun k hk=>h.block k (by omega) (by omega)⟩
structure Wr where
 a:Option Addr
 n:Nat
 k:Nat
 l:List Int
def Wr.sl (x:Wr):Value:=O x.a x.n x.k
theorem qq3:(Tryz.prog.info? 73).map (fun i=>(i.zero,i.size,i.bytes))=Y (Y (O Z 0 0),1,24):=by kernel_rfl
theorem qvu (w:δ)(a:Option Addr)(n c:Nat):(Instr.buildSlice 173 1 #[(0,O a n c)]).run Tryz.prog w=.ok (O w 1 1) (w.alloc (.cells #[O a n c] 73)):=by exact q2p _ _ 73 _ _ _ _ 1 24 Tryz.underlying173 qq3 (by decide) (by decide) (by kernel_rfl)
structure VG (wr:δ)(q b2:Nat)(o:ε)(L:List Wr):Prop where
 c0:wr q=Y o
 z0:wr.frozen? q=false
 own:wr.ownsRow b2 73 1 o L.length (L.map Wr.sl)
 im:∀x∈L,Sl wr 2 x.sl (wvs x.l)/\∀g,x.sl.ownBlock=Y g->b2<=g/\g<wr/\o.ownBlock≠Y g
 lt:q<b2
 le:b2<=wr
theorem qs3 (w:δ)(p:Addr)(u:ε)(b:Option Addr)(m d:Nat)(h:w p=Y u)(hf:w.frozen? p=false):(Instr.storeAt 173 (σ (Y p)) (O b m d)).run Tryz.prog w=.ok () (w.setCell p (O b m d)):=by simp[go_sem,h,hf]
theorem qs4 (w:δ)(p:Addr)(b:Option Addr)(m d:Nat)(h:w p=O b m d):(Instr.loadAt 173 (σ (Y p))).run Tryz.prog w=.ok (O b m d) w:=by simp[go_sem,h]
theorem qq4 (w:δ)(q:Nat):(Instr.fieldAt 175 (σ q) 0).run Tryz.prog w=.ok (σ q) w:=by simp[go_sem]
def WgF (b:Nat)(w:δ)(v:ε)(l:List Int):Prop:=(∃a n c,v=O a n c)/\(∀g,v.ownBlock=Y g->b<=g/\g<w)/\Sl w 2 v (wvs l)
theorem WgF.keep {b:Nat}{w w':δ}{v:ε}{l:List Int}(h:WgF b w v l)(hb:Below w w w'):WgF b w' v l:=by obtain⟨h0,h1,h2⟩:=h;exact⟨h0,fun g hg=>⟨(h1 g hg).1,gz (h1 g hg).2 hb.size⟩,h2.keep hb⟩
theorem qjn {w w':δ}{st:Nat}{v o:ε}{xs:List ε}(h:Sl w st v xs)(hg:w.grownBy w' o.ownBlock)(hk:∀g,v.ownBlock=Y g->o.ownBlock≠Y g):Sl w' st v xs:=by
 obtain⟨a',n',c',rfl,e2,e3,e4,e5,e6⟩:=h;refine⟨_,_,_,rfl,e2,e3,e4,e5,fun ad bR j u hj=>ql hg (e6 ad bR j u hj) fun k ek e=>?_⟩;have:(ad.add j).block=ad.block:=by unfold Addr.add;split <;> rfl
 rw[this]at e;subst bR;exact hk ad.block rfl (by rw[ek,e])
theorem VG.step {wr w6 w7:δ}{q b2 g cap:Nat}{o:ε}{L:List Wr}{x:Wr}(h:VG wr q b2 o L)(hb:Below wr wr w6)(hv:WgF wr w6 x.sl x.l)
  (hg:w6.grownBy w7 o.ownBlock) (af:w7.ownsRow b2 73 1 (O g (L.length+1) cap) (L.length+1) (L.map Wr.sl++[x.sl])) (ot:o.ownBlock=Y g\/g=w6) :
  VG (w7.setCell q (O g (L.length+1) cap)) q b2 (O g (L.length+1) cap) (L++[x])/\Below b2 wr w7:=by
 have qN:∀k,o.ownBlock=Y k->b2<=k/\k<wr:=fun k e=>h.own.lt k e
 have hsz:=hb.size;have E2:w6.heap.size<=w7:=hg.size;have hle:=h.le;have ak:=h.lt;have hB:Below b2 wr w7:=(hb.mono h.le).grown hg (gd h.le hsz) fun k e=>(qN k e).1
 have tV:w6 q=Y o:=J hb h.c0;have sJ:w7 q=Y o:=ql hg tV fun k e=>by have:=(qN k e).1;show q≠k;omega
 have xC:w7.frozen? q=false:=(hB.frozen (p:=q) h.lt).trans h.z0;have iX:∀ {v:ε} {xs:List ε},(∀g,v.ownBlock=Y g->g≠q)->Sl w7 2 v xs->Sl (w7.setCell q (O (Y ⟨g,0,Z⟩) (L.length+1) cap)) 2 v xs:=fun {v xs} ah hs =>y8 hs _ _ fun ad n' c' e=>ah ad.block (by rw[e];rfl)
 refine⟨⟨World.cell?_setCell_same' _ _ _ (by rw[sJ];rfl),by rw[World.frozen?_setCell];exact xC,?_,fun y hy=>?_,h.lt,?_⟩,hB⟩
 ·rw[gw,gW];exact qji af (fun k hk=>by have:=(af.lt k hk).1;show k≠q;omega) _
 ·rcases gO.1 hy with hy|hy
  ·obtain⟨y1,y2⟩:=h.im y hy;refine⟨iX (fun g e=>by have:=(y2 g e).1;omega) (qjn (y1.keep hb) hg fun g e=>(y2 g e).2.2),fun gy ey=>?_⟩;obtain⟨z1,z2,z3⟩:=y2 gy ey;refine⟨z1,by simp only [World.size_setCell];omega,fun e=>?_⟩;have e:g=gy:=by injection e
   rcases ot with e2|e2
   ·exact z3 (by rw[e2,e])
   ·omega
  ·have hy:=List.mem_singleton.1 hy;subst hy;refine⟨iX (fun g e=>by have:=(hv.2.1 g e).1;omega) (qjn hv.2.2 hg fun g e e2=>?_),fun gy ey=>?_⟩
   ·have:=(qN g e2).2;have:=(hv.2.1 g e).1;omega
   ·obtain⟨z1,z2⟩:=hv.2.1 gy ey;refine⟨by omega,by simp only [World.size_setCell];omega,fun e=>?_⟩;have e:g=gy:=by injection e
    rcases ot with e2|e2
    ·have:=(qN g e2).2;omega
    ·omega
 ·simp only [World.size_setCell];omega
def vT (wr:δ)(b2 k:Nat)(l:List Int)(o:ε)(L:List Wr):List ε->δ->Prop:=fun vs w2=>match vs with
 |[]=>Below wr wr w2
 |[v]=>Below wr wr w2/\WgF wr w2 v l
 |[v,s]=>Below wr wr w2/\WgF wr w2 v l/\∃gs,s=O (Y ⟨gs,0,Z⟩) 1 1/\∀j x,([v] : List ε)[j]? =Y x->w2 (Addr.add ⟨gs,0,Z⟩ j)=Y x
 |[v,_,r]=>∃g cap w6,r=O (Y ⟨g,0,Z⟩) (k+1) cap/\Below wr wr w6/\WgF wr w6 v l/\w6.grownBy w2 o.ownBlock/\w2.ownsRow b2 73 1 (O (Y ⟨g,0,Z⟩) (k+1) cap) (k+1) (L.map Wr.sl++[v])/\(o.ownBlock=Y g\/g=w6)
 |_=>False
theorem qtu {wr w2:δ}{b2 k:Nat}{l:List Int}{o:ε}{L:List Wr}{vs:List ε}(h:vT wr b2 k l o L vs w2)(hl:vs.length<=2):Below wr wr w2:=by
 match vs,h,hl with
 |[],h,_=>exact h
 |[_],h,_=>exact h.1
 |[_,_],h,_=>exact h.1
 |_ :: _ :: _ :: _,_,hl=>simp at hl
theorem VG.box {wr w6 w7:δ}{q b2:Nat}{o:ε}{L:List Wr}(h:VG wr q b2 o L)(hb:Below wr wr w6)(hg:w6.grownBy w7 o.ownBlock):w7 q=Y o/\w7.frozen? q=false:=by
 have sJ:w7 q=Y o:=ql hg (J hb h.c0) fun k e=>by have:=(h.own.lt k e).1;have:=h.lt;show q≠k;omega
 have hB:Below b2 wr w7:=(hb.mono h.le).grown hg (gd h.le hb.size) fun k e=>(h.own.lt k e).1
 exact⟨sJ,(hB.frozen (p:=q) h.lt).trans h.z0⟩
theorem qv6 {w:δ}{q b2:Nat}{o v:ε}{L:List Wr}{ls:List (List Int)}(h:VG w q b2 o L)(hv:SlV w v ls)(hL:L.length<=1000)(hl:ls.length<=1000)(hs:ls.flatten.length<=100000) :
  Calls Tryz.prog 119 #[σ q,v] w fun e w'=>e=.returned (ψ #[])/\∃(o':ε) (x:Wr),x.l=ls.flatten/\VG w' q b2 o' (L++[x])/\Qk q b2 w w':=by
 obtain⟨pa,pn,pc,rfl⟩:∃a n c,v=O a n c:=by obtain⟨vs,h1,_⟩:=hv;exact qg h1
 obtain⟨k,hk⟩:=x4 L.length;have af:=h.own;rw[<-hk]at af;obtain⟨oa,oc,ho⟩:=qj af;subst ho;have c0:=h.c0;have HT:=kp h hk af hv hl hs;have aZ:k<=1000:=by omega
 clear h hk af hv hl hs;obtain⟨wr,rH⟩:=x4 w;subst rH;go_enter Tryz.func119,Tryz.ntmps119;go_wp2_with fail;refine qp4 fun KO cD=>?_
 go_cut []from 4 to 14 (fun wx=>∃(g cap:Nat) (u:ε) (w6 w7:δ),wx=w7.setCell q (O g (k+1) cap)/\Hid (Below wr wr w6/\WgF wr w6 u ls.flatten/\w6.grownBy w7 (O oa k oc).ownBlock/\w7.ownsRow b2 73 1 (O g (k+1) cap) (k+1) (L.map Wr.sl++[u])/\((O oa k oc).ownBlock=Y g\/g=w6)))
 case first =>
  rename_i At K2 hJ aQ;refine yg (by kernel_rfl) (VF [Y (σ q),Y (σ q),Y (σ q),Y (σ q),Y (O oa k oc),Y (O pa pn pc),Z,Z,Z,Y (σ q),Y (σ q),Z]) [6,7,8] (vT wr b2 k ls.flatten (O oa k oc) L) 11 20 15 rfl (by kernel_rfl) (by kernel_rfl) (by decide) (by kernel_rfl) (by kernel_rfl) (by kernel_rfl) (by decide) (by decide) (fun a w2=>K2 a w2) ?start ?pure ?eff ?last ?done
  case start=>exact qb (Below.refl _ wr) 1
  case pure =>
   intro i o ho hL hE a w' vs hT ai hd ab hsz
   match i,ho,hL,hE,ai,hd with
   |0,rfl,_,_,_,_ =>exact jo (.inl rfl) ⟨_,rfl,fun _ h=>(zr qu ab 0).trans (osi h),rfl⟩
   |1,rfl,_,_,_,_ =>exact jo (.inl rfl) ⟨_,rfl,fun _ h=>(zr qu ab 0).trans (osi h),rfl⟩
   |2,rfl,_,_,_,hd =>exact⟨rfl,gu _,q4j _ rfl _ (j8 hd 1) (gone rfl)⟩
   |3,rfl,_,_,_,hd =>exact yb rfl (j8 hd 2) (qq4 _ _) (gone rfl)
   |4,rfl,hL,hE,ai,hd =>have lO:w' q=O oa k oc:=J (qtu hT (by have:=ai 2 8 rfl (by kernel_rfl);omega)) c0;exact jm rfl (j8 hd 3) (qs4 _ _ _ _ _ (lO)) (gone rfl)
   |5,rfl,_,_,_,_ =>exact jo (.inl rfl) ⟨_,rfl,fun _ h=>(zr qu ab 1).trans (osi h),rfl⟩
   |6,ho,hL,hE,ai,hd =>exact absurd (by decide) hE
   |7,ho,hL,hE,ai,hd =>exact absurd (by decide) hE
   |8,ho,hL,hE,ai,hd =>exact absurd (by decide) hE
   |9,rfl,_,_,_,hd =>exact⟨rfl,gu _,q4j _ rfl _ (j8 hd 0) (gone rfl)⟩
   |10,rfl,_,_,_,hd =>exact yb rfl (j8 hd 9) (qq4 _ _) (gone rfl)
   |11,ho,hL,hE,ai,hd =>exact absurd rfl hL
   |i+12,ho,hL,hE,ai,hd =>have:i+12<12:=(gh.1 ho).1;omega
  case eff =>
   intro s i o hs ho a w' vs hl hT hd hr ab hsz
   match s,hs,hr,hl with
   |0,hs,hr,hl =>obtain rfl:=osi hs;obtain rfl:=osi ho;obtain rfl:=gl hl;have f9:a 9 V=O pa pn pc:=j8 hd 5;exact⟨rfl,qdj _ _ _ rfl (fun _ _=>rfl) #[O pa pn pc] (by rw[<-f9];simp[Act.eval]) ((qnh (HT.a3.keep hT) HT.a4 HT.b5).mono fun e w2 ⟨r,h1,h2,h3⟩=>⟨_,h1,_,rfl,(show Below wr wr w2/\WgF wr w2 _ ls.flatten from⟨Below.trans hT (h3.mono (Below.size hT)),(by obtain⟨a',c',e'⟩:=qj h2;exact⟨_,_,_,e'⟩),fun g hg=>⟨gd (Below.size hT) (h2.lt g hg).1,(h2.lt g hg).2⟩,Sl.qc h2⟩)⟩)⟩
   |1,hs,hr,hl =>
    obtain rfl:=osi hs;obtain rfl:=osi ho;obtain⟨v1,rfl⟩:=List.length_eq_one_iff.1 hl;have f10:a 10 V=v1:=hr 0 6 _ _ rfl rfl rfl (by decide);obtain⟨hb,hW⟩:=(show Below wr wr w'/\WgF wr w' v1 ls.flatten from hT)
    obtain⟨⟨va,vn,vc,rfl⟩,_⟩:=id hW;have aA:Below w' w' (w'.alloc (.cells #[O va vn vc] 73)):=(q9).alloc (nlr _) _;exact⟨rfl,q5z 173 1 _ rfl #[(0,O va vn vc)] (by rw[<-f10];simp[Act.eval]) _ _ (qvu w' _ _ _) ⟨_,rfl,(show Below wr wr _/\WgF wr _ _ _/\_ from⟨hb.alloc hb.size _,hW.keep aA,w',rfl,q7l w' 73 [O va vn vc]⟩)⟩⟩
   |2,hs,hr,hl =>
    obtain rfl:=osi hs;obtain rfl:=osi ho;obtain⟨v1,v2,rfl⟩:=q51 hl;have f11:a 11 V=v2:=hr 1 7 _ _ rfl rfl rfl (by decide);have f8:a 8 V=O oa k oc:=j8 hd 4;obtain⟨hb,hW,gs,rfl,hn⟩:=(show Below wr wr w'/\WgF wr w' v1 ls.flatten/\∃gs,v2=O (Y ⟨gs,0,Z⟩) 1 1/\∀j x,([v1] : List ε)[j]? =Y x->w' (Addr.add ⟨gs,0,Z⟩ j)=Y x from hT)
    obtain⟨⟨va,vn,vc,rfl⟩,_⟩:=id hW;exact⟨rfl,qae _ _ 173 rfl b2 73 qq3 Tryz.underlying173 rfl (by decide) _ k (L.map Wr.sl) f8 (qa HT.a2 hb) ⟨gs,0,Z⟩ 1 1 [O va vn vc] f11 rfl hn (fun u hu=>by rw[List.mem_singleton.1 hu];rfl) (by decide) (by unfold maxLen;omega) (by omega) (gd HT.out.1.le hb.size) fun g2 cap w7 r1 r2 r3 r4=>⟨_,rfl,(show vT wr b2 k ls.flatten (O oa k oc) L [_,_,_] w7 from⟨g2,cap,w',rfl,hb,hW,r2,r1,r3⟩)⟩⟩
   |s+3,hs,hr,hl=>cases hs
  case last =>
   intro o ho a w' vs hsz aO hl hT hf hr ab;obtain rfl:=osi ho;obtain⟨v1,v2,v3,rfl⟩:=qfp hl;obtain⟨g2,cap,w6,rfl,h1,h2,h4,h5,h6⟩:=(show ∃g cap w6,v3=O (Y ⟨g,0,Z⟩) (k+1) cap/\Below wr wr w6/\WgF wr w6 v1 ls.flatten/\w6.grownBy w' (O oa k oc).ownBlock/\w'.ownsRow b2 73 1 (O (Y ⟨g,0,Z⟩) (k+1) cap) (k+1) (L.map Wr.sl++[v1])/\((O oa k oc).ownBlock=Y g\/g=w6)from hT)
   have g0:a 14 V=σ q:=hf 10 _ _ rfl rfl (by kernel_rfl) (by decide) _ rfl;have g1:a 12 V=O g2 (k+1) cap:=hr 2 8 _ _ rfl rfl rfl;obtain⟨c9,z9⟩:=HT.out.1.box h1 h4;refine⟨rfl,ju _ _ _ rfl _ _ g0 g1 (qs3 _ _ _ _ _ _ c9 z9) ?_⟩;refine aQ _ _ (Met.intro (hJ _ _ ⟨a 4 V,a 5 V,a 6 V,a 7 V,a 8 V,a 9 V,a 10 V,a 11 V,a 12 V,a 13 V,a 14 V,⟨g2,cap,v1,w6,w',rfl,(lhd ⟨h1,h2,h4,h5,h6⟩)⟩,(q8z hsz aO ab).trans ?_⟩));kernel_rfl
  case done=>exact fun _ _ h=>h
 case rest =>obtain⟨g,cap,u,w6,w7,rfl,H5⟩:=hcut;refine cD _ _ ?_;obtain⟨⟨ua,un,uc,rfl⟩,_⟩:=H5.a1;have ag:=HT.out.1.step (x:=⟨ua,un,uc,ls.flatten⟩) (g:=g) (cap:=cap) H5.out.1 H5.a1 H5.a2 (by rw[<-HT.a1];exact H5.a3) H5.b4;rw[<-HT.a1]at ag;have HS:=lhd ag;clear ag;go_wp2_with fail;refine bodyPost_end (v:=ψ #[]) (by simp[results,Tryz.results119]) rfl ?_;exact⟨rfl,_,_,rfl,HS.out.1,((Qk.refl q b2 wr).below HS.out.2).set _ _⟩
