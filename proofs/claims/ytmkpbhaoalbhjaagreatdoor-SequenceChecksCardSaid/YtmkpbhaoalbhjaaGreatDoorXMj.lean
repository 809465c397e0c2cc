/- Steps towards SequenceChecks. Conditions: none. -/
import Derived.Test.YtmkpbhaoalbhjaaGreatDoorXMi
set_option maxRecDepth 1000000
set_option maxHeartbeats 0
open Go.Value renaming slice→O,agg→I,pointer→σ,bool→τ,int→H,tuple→ψ,string→ω
open Option renaming none→Z,some→Y
open Go renaming undef→V,World→δ,Value→ε
open Go.IntKind renaming i64→φ
namespace Go.Cx
open Go.RowKit
def wvs (l:List Int):List Value:=l.flatMap fun x=>[τ (decide (x<0)),ω (mg x)]
theorem qdb (l m:List Int):wvs (l++m)=wvs l++wvs m:=by simp[wvs]
theorem qmy (x:Int):wvs [x]=[τ (decide (x<0)),ω (mg x)]:=by simp[wvs]
theorem q2j (l:List Int):(wvs l).length=l.length*2:=by
 induction l with
 |nil=>rfl
 |cons x l ih=>show (wvs ([x]++l)).length=_;rw[qdb,gw,ih,qmy];simp;omega
theorem q7p (l:List Int)(i:Nat)(x:Int)(h:l[i]? =Y x):(wvs l)[i*2]? =τ (decide (x<0))/\(wvs l)[i*2+1]? =ω (mg x):=by
 induction l generalizing i with
 |nil=>simp at h
 |cons u l ih =>
  have e:wvs (u :: l)=τ (decide (u<0)) :: ω (mg u) :: wvs l:=rfl;rw[e];cases i with
  |zero=>simp at h;subst h;simp
  |succ i =>have:=ih i (by simpa using h);rw[show (i+1)*2=i*2+1+1 by omega,show i*2+1+1+1=(i*2+1)+1+1 by omega];simpa using this
end Go.Cx
namespace Go.Proofs.YtmkpbhaoalbhjaaGreatDoor
open Go.RowKit Go.Cx
attribute [local go_sem ↓] Go.wp_at_zero Go.wp_at_succ
theorem Tryz.qpw:(Tryz.prog.info? 110).map (fun i=>(i.zero,i.size,i.bytes))=Y (Y (I #[τ false,ω ⟨#[]⟩]),2,24):=by kernel_rfl
theorem qvg (x:Int):∀u∈[τ (decide (x<0)),ω (mg x)],u.oneCell'=true:=by intro u hu;simp at hu;rcases hu with rfl|rfl <;> rfl
end Go.Proofs.YtmkpbhaoalbhjaaGreatDoor
namespace Go.Cx
open Go.RowKit Go.Maps Go.WideElems Go.WideShapes
open Go.ChangeMaps (setBlock modify_eq_set heap_setBlock_same heap_setBlock_other)
variable {P:Program}{k t e:TypeId}{w:δ}{b r n:Nat}{D:DataW ε}{left:Lit->Bool}{cnt:Nat}
theorem qfx {w:δ}{b:Nat}{es:Array MapEntry}{clock:Nat}{o1 o2:Obj}(hb:w.heap[b]? =Y (.map es clock))(h:setBlock w b o1=setBlock w b o2):o1=o2:=by have h1:=heap_setBlock_same hb o1;have h2:=heap_setBlock_same hb o2;rw[h,h2]at h1;exact(osi h1).symm
theorem qj7 (h:w.ranges P k hld b r n D left cnt)(K:Keyed P k)(ht:P.underlying t=Y (.map k e))(hn:n<maxLen){key:ε}{kl:Lit}(av:keyOf P k key=Y kl)(hh:has D kl=true)(val:ε) :
  ∃w',(Instr.mapUpdate t (.map (Y b)) key val).run P w=.ok () w'/\w'.ranges P k hld b r n (D.put kl (.held val)) left cnt/\w.grownBy w' (Y b):=by
 have ah:=h.ne;obtain⟨es,clock,since,seen,c0,hb,F,hs,rfl,hr,hold,rfl,oT,mv,Rv,CF⟩:=h;obtain⟨yI,rj,bP,F',fo,_,_,Rx⟩:=Maps.fit_store (R':=hld) K ht hb F (Nat.lt_of_le_of_lt hs hn) (fun _ _ _ _ hz=>hz) av (yv:=(.held val,[])) rfl;rcases K.find w av es.toList F.keys with ⟨h1,h2⟩|⟨j,e0,h1,h2,h3⟩
 ·exfalso
  obtain⟨p,hp,Ry⟩:=List.any_eq_true.1 hh;obtain⟨x,hx,rfl⟩:=gj.1 (mem_sorted.1 hp);obtain⟨y,hy⟩:=F.reads x hx;have e1:=WideAt.sameKey_eq Ry;rw[rg_of hy]at e1;exact h2 x hx (K.inj (e1 ▸ rd_key hy) av)
 ·have hj:es[j]? =Y e0:=by simpa using h2
  have fH:(es.modify j (fun e'=>{ e' with key:=key,val:=val })).toList=es.toList.set j { e0 with key:=key,val:=val }:=by rw[Array.toList_modify,modify_eq_set _ _ _ _ h2]
  have o8:(Instr.mapUpdate t (.map (Y b)) key val).run P w=.ok () (setBlock w b (.map (es.modify j (fun e'=>{ e' with key:=key,val:=val })) clock)):=by simp[Instr.mapUpdate,run_underlying ht,MapKept.run_getObj_map hb,K.check w false av,h1,hj,h3,K.stays w av,MapKept.run_setObj_map _ hb,Result.andThen,setBlock]
  rw[bP]at o8;have Jy:Obj.map yI rj=.map (es.modify j (fun e'=>{ e' with key:=key,val:=val })) clock:=qfx hb (by injection o8);injection Jy with he' hc'
  rw[<-he']at fH;subst hc';have wO:yI.toList.map (·.born)=es.toList.map (·.born):=by
   rw[fH];apply List.ext_getElem?;intro i;rw[List.getElem?_map,List.getElem?_map,List.getElem?_set];by_cases iu:j=i
   ·subst iu;rw[h2,if_pos rfl];rw[if_pos (gk.1 h2).1];rfl
   ·rw[if_neg iu]
  have wP:∀x∈yI.toList,∃y∈es.toList,y.born=x.born/\(rg P k hld y).1=(rg P k hld x).1:=fun x hx=>by
   rw[fH]at hx;obtain⟨i,hi,ex⟩:=List.getElem_of_mem hx;rw[List.getElem_set]at ex;split at ex
   ·refine⟨e0,gi h2,by rw[<-ex],?_⟩;obtain⟨y,hy⟩:=F.reads e0 (gi h2);have wQ:x∈yI.toList:=by rw[fH];exact hx
    obtain⟨z,hz⟩:=F'.reads x wQ;rw[rg_of hy,rg_of hz];have k1:=rd_key hy;have k2:=rd_key hz;rw[h3]at k1;have:x.key=key:=by rw[<-ex]
    rw[this]at k2;exact osi (k1.symm.trans k2)
   ·have pY:i<es.toList.length:=by simpa using hi
    exact⟨x,ex ▸ List.getElem_mem pY,rfl,rfl⟩
  refine⟨_,bP,⟨yI,rj,since,seen,c0,heap_setBlock_same hb _,F',?_,by rw[DataW.put_eq,fo],(heap_setBlock_other hb _ ah).trans hr,?_,?_,?_,?_,Rv,CF⟩,⟨rfl,rfl,rfl,by simp[setBlock],fun i _ hi=>heap_setBlock_other hb _ (fun e=>hi (by rw[e]))⟩⟩
  ·have:=congrArg List.length wO;simp at this;omega
  ·intro x hx;obtain⟨y,hy,iO,_⟩:=wP x hx;rw[<-iO];exact hold y hy
  ·have e1:∀a:Array MapEntry,(leftOf a seen).size=((a.toList.map (·.born)).filter fun z=>!seen.contains z).length:=fun a=>by unfold leftOf;rw[<-bo,Array.toList_filter,List.filter_map,gp];rfl
   rw[e1,e1,wO]
  ·intro x hx;obtain⟨y,hy,iO,rp⟩:=wP x hx;rw[<-rp,<-iO];exact oT y hy
  ·intro Rz Jz;obtain⟨x,hx,rfl⟩:=mv Rz Jz;obtain⟨i,hi⟩:=bh hx;by_cases iu:j=i
   ·subst iu;rw[h2]at hi;injection hi with hi;subst hi
    have hm:({ e0 with key:=key,val:=val } : MapEntry)∈yI.toList:=by rw[fH];exact gi (by rw[List.getElem?_set,if_pos rfl,if_pos (gk.1 h2).1])
    refine⟨_,hm,?_⟩;obtain⟨y,hy⟩:=F.reads e0 hx;obtain⟨z,hz⟩:=F'.reads _ hm;rw[rg_of hy,rg_of hz];have k1:=rd_key hy;have k2:=rd_key hz;rw[h3]at k1;exact(osi (k1.symm.trans k2)).symm
   ·exact⟨x,by rw[fH];exact gi (by rw[List.getElem?_set,if_neg iu];exact hi),rfl⟩
theorem qt3 {ops:Array Oper}{rest:List Oper}{o:Oper}{a:Act}{Q:Exit->Act->δ->Prop}(hg:o.guard=Z)(m x v:Operand)(t:TypeId)(aX:o.op=Op.mapUpdate t m x v)
  (h:w.ranges P k hld b r n D left cnt) (K:Keyed P k) (ht:P.underlying t=Y (.map k e)) (hn:n<maxLen) (key:ε) (kl:Lit) (u:ε) (hm:a.eval m=.map (Y b)) (hx:a.eval x=key) (hv:a.eval v=u) (av:keyOf P k key=Y kl) (hh:has D kl=true)
  (hK:∀w',w'.ranges P k hld b r n (D.put kl (.held u)) left cnt->w.grownBy w' (Y b)->wpList P ops Q rest (a.put o.dst V) w'):wpList P ops Q (o :: rest) a w:=by
 refine wpList_plain hg fun K' oQ=>?_
 obtain⟨w',hr,h1,h2⟩:=qj7 h K ht hn av hh u;unfold Oper.wp;simp[execOp,aX,hm,hx,hv,hr,Result.andThen];exact oQ _ _ (hK w' h1 h2)
def Hg (D:DataW Value)(g:Int->Option Value):Prop:=∀x,has D (.int .i64 x)=(g x).isSome/\∀v,g x=some v->∀z,D.atKey (.int .i64 x) z=.held v
theorem Hg.qh3 {D:DataW Value}{g:Int->Option Value}(h:Hg D g){x:Int}{c:Value}(bY:∀z,D.atKey (.int .i64 x) z=.held c):g x=some c:=by
 cases hg:g x with
 |some v =>have h1:=(h x).2 v hg .nil;rw[bY]at h1;injection h1 with h1;rw[h1]
 |none =>have h1:=(h x).1;rw[hg]at h1;have h2:=bY .nil;rw[atKey_of_not_has (by simpa using h1)]at h2;cases h2
end Go.Cx
namespace Go.Proofs.YtmkpbhaoalbhjaaGreatDoor
open Go.RowKit Go.Cx Go.Maps
attribute [local go_sem ↓] Go.wp_at_zero Go.wp_at_succ
def scG (g0:Int->Option Value)(f:Int->Int)(x:Int)(left:Lit->Bool):Int->Option Value:=fun c=>(g0 c).map fun v=>if left (.int .i64 c)then v else wv (x*f c)
theorem qfy {D:DataW Value}{g:Int->Option Value}(hD:IsMap D)(h2:∀x,has D (.int .i64 x)=(g x).isSome/\∀v,g x=some v->∀z,D.atKey (.int .i64 x) z=.held v)(x:Int)(v:Value) :
  ∀y,has (D.put (.int .i64 x) (.held v)) (.int .i64 y)=(zg g x v y).isSome/\∀u,zg g x v y=some u->∀z,(D.put (.int .i64 x) (.held v)).atKey (.int .i64 y) z=.held u:=qn7 hD h2 x v
theorem qr1 (b:Bool)(s:ByteArray)(v:Value)(l:List Tm)(S:Nat)(w:World)(h:Sl w 3 v (tv l))(hS:TOk S l)(hs:s.size<=S)(hb:2*S+l.length<=1099511627774) :
  Calls Tryz.prog 147 #[.agg #[.bool b,.string s],v] w fun e w'=>∃r,e=.returned r/\qbv w w' r (fun c=>iv b s*co (prs l) c) l.length:=by
 obtain⟨a,n,cap,rfl⟩:=qg h;have HH:=lhd h;clear h;have lN:Below w.heap.size w (w.alloc (.cells #[.bool b,.string s] 110)):=bal w _;have R0:Bx (w.alloc (.cells #[.bool b,.string s] 110)) w.heap.size b s:=Bx.new w b s 110;go_enter Tryz.func147,Tryz.ntmps147;go_wp2_with fail;have hc:=qn8 (.slice (some ⟨(w.alloc (.cells #[.bool b,.string s] 110)).heap.size,0,none⟩) 1 1) [l] S ((w.alloc (.cells #[.bool b,.string s] 110)).alloc (.cells #[.slice a n cap] 159)) (SlL.one (HH.out.keep lN) _) (by simpa using hS) (by simp;omega);rw[World.size_alloc]at hc;refine hc.mono ?_;rintro e w1 ⟨rfl,⟨g,hm,hg⟩,ae⟩;simp only [List.flatten_cons,List.flatten_nil,List.append_nil,World.size_alloc]at hm hg ae;simp only [World.size_alloc];clear hc;have aF:Below w.heap.size w w1:=(lN.alloc (by simp) _).trans (ae.mono (by omega));have b1:Bx w1 w.heap.size b s:=(R0.alloc (by simp) _).keep ae (by omega);have dB:w.heap.size+2<=w1.heap.size:=by have:=ae.size;simpa using this
 obtain⟨B,hB⟩:=x4 (w.heap.size+2);have nJ:B=w.heap.size+1+1:=by omega
 rw[<-nJ]at hm ⊢;have R2:w.heap.size<B:=by omega
 have iw:=jg hB nJ;clear hB nJ;obtain⟨D,af,hD⟩:=hm;have uq:=int_keyed (P:=Tryz.prog) (k:=3) Tryz.underlying3;have yK:∀c,nb (co (prs l) c)<=S+l.length:=fun c=>by
  have:=q0y S (prs l) (q19 hS) c
  rwa [kq]at this
 have Bt:=lhd yK;clear yK;have HG:=lhd hg;clear hg;have GD:=af.lt;go_wp2_with (first
  |(at_range;refine wpList_range_own _ rfl _ 199 rfl 3 110 uq Tryz.underlying199 hld B l.length D rfl af ?_;intro w0 jW kR dg)
  |go_in)
 go_frame
 obtain⟨r,hr⟩:=x4 w1.heap.size;rw[<-hr]at jW ⊢;have yT:B<r:=by omega
 have WW:=lhd hr;clear hr;have R3:Hid (Hg D (scG g (co (prs l)) (iv b s) (has D))):=fun c=>by
  have h1:=hD c;unfold scG;rw[h1.1];cases hgc:g c with
  |none=>rw[hgc]at h1;exact⟨rfl,fun v hv=>by cases hv⟩
  |some u=>rw[hgc]at h1;exact⟨rfl,fun v hv=>by simp at hv;subst hv;exact h1.2 u rfl⟩
 have J0:Below w.heap.size w w0:=aF.grown kR aF.size (fun k e=>by cases e);have N5:=b1.keep (B:=w1.heap.size) ⟨kR.os,kR.tape,kR.output,kR.size,fun k hk=>kR.block k hk (by simp)⟩ (by omega);go_loopw [6,7] (fun _ _ wr=>∃(left:Lit->Bool) (cnt:Nat) (D':DataW Value),wr.ranges Tryz.prog 3 hld B r l.length D' left cnt/\Hid (Hg D' (scG g (co (prs l)) (iv b s) left))/\Bx wr w.heap.size b s/\Below w.heap.size w wr) (fun _ _ wr=>wr.rangeLeft B r)
 case atStart=>exact⟨_,_,D,jW,R3,N5,J0⟩
 case round =>
  clear N5;obtain⟨left,cnt,D',lL,HD,fF,hB⟩:=hrel;have yU:=lhd lL;obtain⟨p0,p1,p2,p3⟩:=fF;go_wp2_with (first
   |(at_next;refine wpList_next_ranges _ rfl _ rfl 3 uq hld (Value.int .i64) (fun v:Value=>v) (fun key kl av=>by obtain⟨x,rfl,_⟩:=Maps.keyOf_int_inv Tryz.underlying3 av;exact⟨x,rfl⟩) (fun v y _=>⟨v,rfl⟩) B r l.length D' left cnt rfl lL ?_ ?_)
   |go_in)
  ·intro lO iV;have dL:Mp Tryz.prog 3 wr B l.length (scG g (co (prs l)) (iv b s) left):=⟨D',lL.owns,HD.out⟩
   have cC:q2z (scG g (co (prs l)) (iv b s) left) (fun c=>iv b s*co (prs l) c):=fun c=>by
    have h1:=HG.out c;unfold scG;cases hgc:g c with
    |none =>
     rw[hgc]at h1;have h2:wv 0=wv (co (prs l) c):=h1;have h3:decide ((0:Int)<0)=decide (co (prs l) c<0)/\mg 0=mg (co (prs l) c):=by simpa using h2
     have h4:co (prs l) c=0:=(qgf h3.1 h3.2).symm;show wv 0=wv (iv b s*co (prs l) c);rw[h4,Int.mul_zero]
    |some u =>show (some (if left (.int .i64 c)then u else wv (iv b s*co (prs l) c))).getD (wv 0)=_;rw[iV];rfl
   have aq:=q8k B l.length _ _ wr dL cC (by omega) (fun c=>by have h1:=qc5 (iv b s) (co (prs l) c);have h2:=qmd b s;have h3:=Bt.out c;omega)
   have HC:=lhd aq;clear aq dL cC lL lO iV;go_wp2_with fail;refine HC.out.mono ?_;rintro e w2 ⟨r2,rfl,L,h1,h2,h3,h4,aj⟩;go_wp2;go_ret;exact⟨_,rfl,⟨L,h1,h2,h3,qf h4 hB.size⟩,(btr hB aj)⟩
  ·intro x c kl y1 y2 w2 ur av eh hv bY mz ak fp cU ru;obtain⟨x',oU,rfl,yV⟩:=Maps.keyOf_int_inv Tryz.underlying3 av;have wR:x=x':=by injection oU
   subst wR;have lv:y1=.held c:=by have:hld c=some (.held c,[]):=rfl;rw[this]at hv;injection hv with hv;injection hv with hv _;exact hv.symm
   subst lv;have fq:=HD.out.qh3 bY;have yW:g x=some c:=by
    unfold scG at fq;cases hgc:g x with
    |none=>rw[hgc]at fq;cases fq
    |some u=>rw[hgc]at fq;rw[eh]at fq;simpa using fq
   have nC:c=wv (co (prs l) x):=by have:=HG.out x;rw[yW]at this;exact this
   subst nC;have yX:(Instr.entry (.pointer (some ⟨r,0,none⟩))).run Tryz.prog w2=.ok (.tuple #[.int .i64 x,.agg #[.bool (decide (co (prs l) x<0)),.string (mg (co (prs l) x))]]) w2:=ru;have CH:has D' (.int .i64 x)=true:=by rw[(HD.out x).1,fq];rfl
   have N6:=yt eh fq yW CH;have J1:Bx w2 w.heap.size b s:=by
    refine⟨ql fp p0 (fun k e=>by cases e;show w.heap.size≠r;omega),ql fp p1 (fun k e=>by cases e;show w.heap.size≠r;omega),?_,?_⟩
    ·exact(fp.frozen_far _ (World.block_lt_of_cell? _ _ p0) (by simp;omega)).trans p2
    ·exact(fp.frozen_far _ (World.block_lt_of_cell? _ _ p1) (by simp;omega)).trans p3
   obtain⟨t0,t1,t2,t3⟩:=J1;have s0:=qk t0 (.cells #[.bool (decide (co (prs l) x<0)),.string (mg (co (prs l) x))] 110);have s1:=qk t1 (.cells #[.bool (decide (co (prs l) x<0)),.string (mg (co (prs l) x))] 110);have aI:Below w.heap.size w w2:=hB.grown fp hB.size (fun k e=>by cases e;omega);have qC:=Bt.out x;have mC:=jg mz ak;clear ru av eh hv bY mz ak fq yW CH oU lL p0 p1 p2 p3;go_wp2_with fail;refine(qmh _ _ _ _ _ (by omega) (by rw[j5];omega)).mono ?_;rintro e w3 ⟨rfl,aw⟩;rw[q0i];have uj:Below w2.heap.size w2 (w2.alloc (.cells #[.bool (decide (co (prs l) x<0)),.string (mg (co (prs l) x))] 110)):=bal w2 _;rw[World.size_alloc]at aw;have aJ:Below w2.heap.size w2 w3:=uj.trans (aw.mono (by omega));have CI:r<w2.heap.size:=mC.out.1.lt;have bX:B<w2.heap.size:=mC.out.1.owns.lt;have qV:w3.ranges Tryz.prog 3 hld B r l.length D' (fun z=>left z && !z.sameKey (.int .i64 x)) ur :=
    mC.out.1.kept (row:=none) ⟨aJ.os,aJ.tape,aJ.output,aJ.size,fun k hk _=>aJ.block k hk⟩ (by simp) (by simp)
   have N7:Bx w3 w.heap.size b s:=Bx.keep (B:=w2.heap.size) ⟨t0,t1,t2,t3⟩ aJ (World.block_lt_of_cell? _ _ t0);have GH:=lhd N7;clear N7 t0 t1 t2 t3 s0 s1;go_wp2_with (first
    |(at_mapUpdate;refine qt3 rfl _ _ _ 199 rfl qV uq Tryz.underlying199 (by unfold maxLen;omega) _ (.int .i64 x) _ rfl rfl rfl (q0k Tryz.underlying3 (by simp[Lit.wf,IntKind.min,IntKind.max,IntKind.bits,IntKind.signed]at yV;omega) (by simp[Lit.wf,IntKind.min,IntKind.max,IntKind.bits,IntKind.signed]at yV;omega)) N6.b3 ?_)
    |fail)
   intro w4 kT tD;go_wp2;go_roundw
   case measure=>rw[kT.left_eq,yU.out.left_eq];exact mC.out.2
   case rel =>
    obtain⟨z0,z1,z2,z3⟩:=GH.out;refine⟨_,_,_,kT,(show Hid _ from ?_),⟨ql tD z0 (fun k e=>by cases e;show w.heap.size≠B;omega),ql tD z1 (fun k e=>by cases e;show w.heap.size≠B;omega),(tD.frozen_far _ (World.block_lt_of_cell? _ _ z0) (by simp;omega)).trans z2,(tD.frozen_far _ (World.block_lt_of_cell? _ _ z1) (by simp;omega)).trans z3⟩,?_⟩
    ·have h1:=qfy (D:=D') mC.out.1.owns.isMap HD.out x (wv (iv b s*co (prs l) x));have h2:zg (scG g (co (prs l)) (iv b s) left) x (wv (iv b s*co (prs l) x))=scG g (co (prs l)) (iv b s) (fun z=>left z && !z.sameKey (.int .i64 x)):=by
      funext c
      unfold zg scG;by_cases hc:c=x
      ·subst hc;rw[if_pos rfl,N6.a2];simp[Lit.sameKey]
      ·rw[if_neg hc];have:(Lit.int .i64 c).sameKey (.int .i64 x)=false:=by simp[Lit.sameKey,hc]
       simp[this]
     rw[h2]at h1;exact h1
    ·exact((btr aI aJ)).grown tD (by have:=aI.size;have:=aJ.size;omega) (fun k e=>by cases e;omega)
end Go.Proofs.YtmkpbhaoalbhjaaGreatDoor
namespace Go.Proofs.YtmkpbhaoalbhjaaGreatDoor
open Go.RowKit Go.Cx Go.Shelf
attribute [local go_sem] Oper.semAt_some
structure Pr where
 i:Int
 y:Sd
 hi:I64 i
 hc:I64 y.c
 hg:I64 y.g
def Pr.raw (p:Pr):Int×Sd:=(p.i,p.y)
def Pr.vs (p:Pr):Array Value:=#[p.i,I #[p.y.c,p.y.g]]
def q2o (L:List Ce):List (Int×Sd):=L.flatMap fun x=>x.s.map fun y=>(x.id,y)
theorem q0l (L M:List Ce):q2o (L++M)=q2o L++q2o M:=by simp[q2o]
def yw (W W':δ):Prop:=∀p u,W p=Y u->W' p=Y u
theorem yw.refl (W:δ):yw W W:=fun _ _ h=>h
theorem yw.trans {A B C:δ}(h:yw A B)(k:yw B C):yw A C:=fun p u hu=>k p u (h p u hu)
theorem yw.put (W:δ)(l:Nat)(o o':Obj)(hl:W.heap[l]? =Y o)(ho:o.isCells=false):yw W (W.putObj l o'):=fun p u hu=>by
 have ah:p.block≠l:=by
  intro e;obtain⟨o2,h1,h2⟩:=cells_of_cell hu;rw[e,hl]at h1;injection h1 with h1
  rw[h1]at ho;rw[ho]at h2;cases h2
 exact(World.cell?_of_block (w:=W) (World.putObj_heap_other ah)).trans hu
theorem qh4 (n:Nat)(hn:1<=n)(l Bs:Nat)(v:ε)(L:List Ce)(W:δ)(hS:SlC W v L)(fj:COk L)
  (At Jx:List Pr->δ->Prop)
  (hY:∀pre x W,At pre W->pre.length<(q2o L).length->YieldAt Fence.wide (n-1) Tryz.prog l (Pr.vs x) W fun e W' =>(e=.returned (τ true)/\At (pre++[x]) W'/\yw W W')\/(e=.returned (τ false)/\Jx (pre++[x]) W'))
  (Bi:W Bs=Y v) (hJ:∀pre W W',At pre W->True->W.grownBy W' Z->At pre W') (h0:At [] W) :
  CallsIn Fence.wide n Tryz.prog 163 #[.func (.yield l) #[] #[],σ Bs] W fun e W'=>(∃v,e=.returned v) ∧
   ((∃ys,ys.map Pr.raw=q2o L/\At ys W')\/(∃pre:List Pr,Jx pre W')):=by
 obtain⟨a,len,cap,rfl⟩:=qg hS.1;have HS:=lhd hS;have qZ:=lhd fj;have HY:=lhd hY;have HJ:=lhd hJ;have aW:L.length=len:=by obtain⟨_,_,h3,_⟩:=hS.1.open;rw[qt Ce.qp]at h3;omega
 have HL:=lhd aW;have ej:len<=maxLen:=by obtain⟨h1,h2,_⟩:=hS.1.open;omega
 unfold maxLen at ej;clear hS fj hY hJ aW;refine callsIn_of_wp Tryz.func163 rfl trivial ?_ rfl;simp only [Tryz.ntmps163,List.size_toArray,List.length_cons,List.length_nil,Nat.reduceAdd,Nat.reduceSub,Array.replicate_succ,Array.replicate_zero,List.push_toArray,List.append_toArray,List.nil_append,List.cons_append]
 gi_wp2
 gi_loopw [10] (fun i wr=>∃(k:Nat) (pre:List Pr),i=k/\k<=len/\Hid (pre.map Pr.raw=q2o (L.take k))/\At pre wr/\yw W wr)
  (fun i _=>len-(vI i).toNat)
 case atStart=>exact⟨0,[],rfl,gm _,(lhd rfl),h0,yw.refl _⟩
 case round =>
  obtain⟨k,pre,rfl,hk,HP,hj,Bu⟩:=hrel;by_cases ak:k<len
  ·obtain⟨x,hx⟩:∃x,L[k]? =Y x:=⟨_,gg (by rw[HL.out];exact ak)⟩
   obtain⟨h2,h3,h4,h5,h6⟩:=HS.out.1.open;obtain⟨ad,rfl⟩:=sadq h5 (by omega)
   obtain⟨e0,e1,e2⟩:=zh L k x hx;have d0:wr (ad.add (k*3))=x.id:=Bu _ _ (h6 ad rfl _ _ e0);have d1:wr ⟨(ad.add (k*3)).block,(ad.add (k*3)).off+1,Z⟩=x.dim:=by rw[qi _ _ _ (by omega)];exact Bu _ _ (h6 ad rfl _ _ e1)
   have d2:wr ⟨(ad.add (k*3)).block,(ad.add (k*3)).off+2,Z⟩=O x.a x.n x.c:=by rw[qi _ _ _ (by omega)];exact Bu _ _ (h6 ad rfl _ _ e2)
   have ee:=gi hx;have kP:=HS.out.2 x ee;obtain⟨⟨dW,-⟩,-,dM⟩:=qZ.out x ee;obtain⟨g2,g3,g4,g5,g6⟩:=kP.open;unfold maxLen at g3;have aV:x.s.length=x.n:=by rw[qt Sd.qp]at g4;omega
   have G2:=lhd g2;have dO:x.n<=9223372036854775807:=gd g2 g3;have dH:q2o (L.take (k+1))=q2o (L.take k)++x.s.map (fun y=>(x.id,y)):=by rw[gC,hx,q0l];simp[q2o]
   have CI:(q2o (L.take k)).length+x.s.length<=(q2o L).length:=by
    have e3:q2o L=q2o (L.take (k+1))++q2o (L.drop (k+1)):=by rw[<-q0l,bC]
    have:=congrArg List.length e3;rw[dH,gw,gw,gp]at this;omega
   have kQ:=jg dH CI;have N8:=jg dW dM;have G5:=lhd g5;have G6:=lhd g6;have yO:=lhd aV;clear h2 h3 h4 h5 h6 e0 e1 e2 hx ee kP dW dM g2 g4 g5 g6 aV dH CI;obtain⟨wo,eE⟩:=x4 wr;subst eE;obtain⟨W1,kV⟩:=x4 (wo.alloc (.cells #[x.id,x.dim,O x.a x.n x.c] 52));have y0:W1 wo=x.id:=by rw[kV];exact qd wo #[x.id,x.dim,O x.a x.n x.c] 52 (0,0) 0
   have y2:W1 ⟨wo,2,Z⟩=O x.a x.n x.c:=by rw[kV];exact qd wo #[x.id,x.dim,O x.a x.n x.c] 52 (0,0) 2
   have uu:At pre W1:=by rw[kV];exact HJ.out pre wo _ hj trivial (World.grownBy_alloc wo _ Z)
   have cJ:yw W W1:=by rw[kV];exact Bu.trans (fun p u hu=>qk hu _)
   have tE:=lhd kV;clear kV
   gi_wp2
   rw[<-tE.out]
   gi_loopw [17] (fun i wr=>∃(j:Nat) (pre:List Pr),i=j/\j<=x.n/\Hid (pre.map Pr.raw=q2o (L.take k)++(x.s.take j).map (fun y=>(x.id,y)))/\At pre wr/\yw W1 wr)
    (fun i _=>x.n-(vI i).toNat)
   case atStart=>exact⟨0,pre,rfl,gm _,(lhd (by show _=_;rw[HP.out];simp)),uu,yw.refl _⟩
   case round =>
    clear hj;obtain⟨j,pre,rfl,ly,J2,hj,r5⟩:=hrel;by_cases oM:j<x.n
    ·obtain⟨y,hy⟩:∃y,x.s[j]? =Y y:=⟨_,gg (by rw[yO.out];exact oM)⟩
     obtain⟨bd,r9⟩:∃ad,x.a=Y ad:=by
      cases hxa:x.a with
      |none=>have:=G5.out hxa;have:=G2.out;omega
      |some ad=>exact⟨ad,rfl⟩
     rw[r9];obtain⟨f0,f1⟩:=zw x.s j y hy;have z0:wr (bd.add (j*2))=y.c:=r5 _ _ (cJ _ _ (G6.out bd r9 _ _ f0));have z1:wr ⟨(bd.add (j*2)).block,(bd.add (j*2)).off+1,Z⟩=y.g:=by rw[qi _ _ _ (by omega)];exact r5 _ _ (cJ _ _ (G6.out bd r9 _ _ f1))
     have z2:wr wo=x.id:=r5 _ _ y0;have z3:=qk z2 (.cells #[y.c,y.g] 54);have J3:=N8.out.2 y (gi hy);have dH:(x.s.take (j+1)).map (fun y=>(x.id,y))=(x.s.take j).map (fun y=>(x.id,y))++[(x.id,y)]:=by rw[gC,hy];simp
     have J4:=lhd dH;have tF:pre.length<(q2o L).length:=by have h1:=congrArg List.length J2.out;rw[gp,gw,gp,gD]at h1;have:=kQ.out.2;have:=yO.out;omega
     obtain⟨pr,CJ,CK⟩:∃pr:Pr,Pr.raw pr=(x.id,y)/\Pr.vs pr=#[H φ x.id,I #[H φ y.c,H φ y.g]]:=⟨⟨x.id,y,N8.out.1,J3.1,J3.2⟩,rfl,rfl⟩
     have N9:At pre (wr.alloc (.cells #[y.c,y.g] 54)):=HJ.out pre wr _ hj trivial (World.grownBy_alloc wr _ Z);obtain⟨fn,tmps,assign,body,R4,hR⟩:=HY.out pre pr _ N9 tF;rw[CK]at R4;have R5:=lhd CJ;clear f0 f1 hy J3 dH tF CJ CK hj N9
     gi_wp2
     refine hR.mono ?_;rintro e W3 (⟨rfl,Je,Bj⟩|⟨rfl,yG⟩)
     ·gi_wp2
      go_roundw
      case rel=>exact⟨j+1,pre++[pr],qh (by omega),by omega,(lhd (by show _=_;rw[gW,J2.out,J4.out,<-bj];simp[R5.out])),Je,r5.trans (fun p u hu=>Bj p u (qk hu _))⟩
      case measure=>simp[vI];omega
     ·gi_wp2
      refine bodyPost_ret (results_none rfl _ _ _) rfl ?_;exact⟨⟨_,rfl⟩,.inr ⟨_,yG⟩⟩
    ·have CL:j=x.n:=by omega
     have R6:=lhd CL;clear CL
     gi_wp2
     go_roundw
     case rel=>exact⟨k+1,pre,qh (by omega),by omega,(lhd (by show _=_;rw[J2.out,kQ.out.1,R6.out,gr (l:=x.s) (by have:=yO.out;omega)])),hj,cJ.trans r5⟩
     case measure=>simp[vI];omega
  ·have aZ:k=len:=by omega
   have yP:=lhd aZ;clear aZ
   gi_wp2
   go_end0
   refine⟨⟨_,rfl⟩,.inl ⟨pre,?_,hj⟩⟩;rw[HP.out,yP.out,gr (by rw[HL.out];exact nlr _)]
