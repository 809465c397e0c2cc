/- Steps towards MorseChecks. Conditions: none. -/
import Derived.Test.YtlhicnfeajejhaaGreatDoorFQc
set_option maxRecDepth 1000000
set_option maxHeartbeats 16000000
namespace Go.Cx
section
variable {T:Int->Option Cl} {x:Cl}
theorem q94 {k:Nat} {s:Sd} (hs:x.s[k]? = some s) (ht:T s.c=none):xq T x k=true:=by
 unfold xq;rw[hs];dsimp only;rw[ht];rfl
theorem qay {k:Nat} {s:Sd} {y:Cl} (hs:x.s[k]? = some s) (ht:T s.c=some y) (h:y.dim≠x.dim - 1):xq T x k=true:=by
 unfold xq;rw[hs];dsimp only;rw[ht];simp[h]
theorem q95 {s:Sd} {y:Cl} (hs:x.s[0]? = some s) (ht:T s.c=some y) (h:y.dim=x.dim - 1):xq T x 0=false:=by
 unfold xq;rw[hs];dsimp only;rw[ht];simp[h]
theorem q96 {k:Nat} {s r:Sd} {y:Cl} (hs:x.s[k+1]? = some s) (hr:x.s[k]? = some r) (ht:T s.c=some y) (h:y.dim=x.dim - 1):xq T x (k+1)=(r.c == s.c):=by
 unfold xq;rw[hs];dsimp only;rw[ht,Nat.add_sub_cancel,hr];simp[h]
theorem q7y (h:x.dim < 0\/8 < x.dim):xx T x=21:=by unfold xx;rw[if_pos h]
def qaz (x:Cl):Prop:=¬ (x.dim < 0\/8 < x.dim)/\¬ ((x.dim=0/\0 < x.s.length)\/(x.dim=1/\x.s.length≠2)\/(1 < x.dim/\(x.s.length < 2\/64 < x.s.length)))
theorem qfo (h:¬ (x.dim < 0\/8 < x.dim)) (h2:(x.dim=0/\0 < x.s.length)\/(x.dim=1/\x.s.length≠2)\/(1 < x.dim/\(x.s.length < 2\/64 < x.s.length))):xx T x=22:=by
 unfold xx;rw[if_neg h,if_pos h2]
theorem q3f (h:qaz x) {k:Nat} (hk:k < x.s.length) (hb:xq T x k=true):xx T x=22:=by
 unfold xx;rw[if_neg h.1,if_neg h.2,if_pos (List.any_eq_true.2 ⟨k,gy.2 hk,hb⟩)]
theorem q4i (h3:∀ k,k < x.s.length->xq T x k=false):¬ (List.range x.s.length).any (xq T x)=true:=by
 rw[List.any_eq_true];rintro ⟨k,hk,hb⟩;rw[h3 k (gy.1 hk)] at hb;cases hb
theorem qcl (h:qaz x) (h3:∀ k,k < x.s.length->xq T x k=false) {s:Sd} (hs:s∈x.s) (h4:s.g≠1) (h5:s.g≠-1):xx T x=23:=by
 unfold xx;rw[if_neg h.1,if_neg h.2,if_neg (q4i h3),if_pos (List.any_eq_true.2 ⟨s,hs,by simp[h4,h5]⟩)]
theorem q7z (h4:∀ s∈x.s,s.g=1\/s.g = -1):¬ x.s.any (fun s=>s.g != 1 && s.g != -1)=true:=by
 rw[List.any_eq_true];rintro ⟨s,hs,hb⟩;rcases h4 s hs with h | h <;> simp[h] at hb
theorem qfp (h:qaz x) (h3:∀ k,k < x.s.length->xq T x k=false) (h4:∀ s∈x.s,s.g=1\/s.g = -1) (h5:x.dim=1) (h6:(x.s.map Sd.g).sum≠0):xx T x=23:=by
 unfold xx;rw[if_neg h.1,if_neg h.2,if_neg (q4i h3),if_neg (q7z h4),if_pos ⟨h5,h6⟩]
theorem qb0 (h:qaz x) (h3:∀ k,k < x.s.length->xq T x k=false) (h4:∀ s∈x.s,s.g=1\/s.g = -1) (h5:¬ (x.dim=1/\(x.s.map Sd.g).sum≠0)):xx T x=0:=by
 unfold xx;rw[if_neg h.1,if_neg h.2,if_neg (q4i h3),if_neg (q7z h4),if_neg h5]
end
end Go.Cx
namespace Go.Proofs.YtlhicnfeajejhaaGreatDoor
open Go.RowKit Go.Cx
attribute [local go_sem ↓] Go.wp_at_zero Go.wp_at_succ
def qx (m:List Ce):Int->Option Cl:=fun c=>(m.find? fun x=>x.id == c).map Ce.cl
theorem q97 (m:List Ce) (c:Int):(gOf m c).isSome=(qx m c).isSome/\∀ y,qx m c=some y->∃ z∈m,z.id=c/\z.cl=y/\gOf m c=some z.v:=by
 unfold gOf qx;cases hf:m.find? (fun x=>x.id == c) with
 | none=>exact⟨rfl,fun y h=>by cases h⟩
 | some z=>exact⟨rfl,fun y h=>⟨z,gT hf,by simpa using List.find?_some hf,osi h,rfl⟩⟩
theorem qo3 (T B n:Nat) (m:List Ce) (x:Ce) (w:World) (q0:w.cell? ⟨T,0,none⟩=some (.map (some B))) (dt:Mp Tryz.prog 3 w B n (gOf m)) (hs:Sl w 2 x.sl (cat Sd.enc x.s)) (hd:I64 x.dim) (EY:∀ s∈x.s,I64 s.c/\I64 s.g) :
  Calls Tryz.prog 178 #[.pointer (some ⟨T,0,none⟩),x.v] w fun e w'=>e = .returned (.int .i64 (xx (qx m) x.cl))/\Below w.heap.size w w':=by
 unfold Ce.sl at hs;obtain⟨h1,h2,h3,h4,h5⟩:=hs.open;rw[qt Sd.qp] at h3;have hl:x.cl.s.length=x.n:=by show x.s.length=x.n;omega
 unfold maxLen at h2;unfold Ce.v;have HS:=lhd hs;have HM:=lhd dt;have HI:=lhd (aiq hd EY);obtain⟨d,dn⟩ : ∃ d,d=x.dim:=⟨_,rfl⟩
 obtain⟨xn,eL⟩ : ∃ xn,xn=x.n:=⟨_,rfl⟩
 have Nk:x.cl.dim=d:=dn.symm;rw[<-dn];rw[<-eL] at hl h1 ⊢;have HL:=lhd (aiq hl (aiq Nk (aiq eL dn)));have lZ:∀ t,Below w.heap.size w (w.alloc (.cells #[.int .i64 x.id,.int .i64 d,.slice x.a xn x.c] t)):=fun t=>(Below.refl _ w).alloc (nlr _) _
 have Nl:=lhd lZ;clear h3 h4 h5 hs dt hl hd EY dn eL Nk lZ;by_cases hA:d < 0
 ·have hE:xx (qx m) x.cl=21:=q7y (by rw[HL.out.2.1];exact .inl hA);rw[hE];clear hE;go_enter Tryz.func178,Tryz.ntmps178;go_wp2_with fail;go_ret;exact⟨rfl,Nl.out _⟩
 by_cases Ab:8 < d
 ·have hE:xx (qx m) x.cl=21:=q7y (by rw[HL.out.2.1];exact .inr Ab);rw[hE];clear hE;go_enter Tryz.func178,Tryz.ntmps178;go_wp2_with fail;go_ret;exact⟨rfl,Nl.out _⟩
 have h0:¬ (x.cl.dim < 0\/8 < x.cl.dim):=by rw[HL.out.2.1];omega
 have H0:=lhd h0;clear h0;obtain⟨W,hW⟩ : ∃ W,W=w.alloc (.cells #[.int .i64 x.id,.int .i64 d,.slice x.a xn x.c] 75):=⟨_,rfl⟩
 have aK:Below w.heap.size w W:=by rw[hW];exact(Below.refl _ w).alloc (nlr _) _
 have k1:W.cell? ⟨w.heap.size,1,none⟩=some (.int .i64 d):=by rw[hW];exact qd w _ _ (0,0) 1
 have k2:W.cell? ⟨w.heap.size,2,none⟩=some (.slice x.a xn x.c):=by rw[hW];exact qd w _ _ (0,0) 2
 have jO:=lhd aK;have tH:w.heap.size < W.heap.size:=by rw[hW];simp
 go_enter Tryz.func178,Tryz.ntmps178;go_upto_region 4 with fail;rw[<-hW];clear hW aK
 go_cut [25] from 26 to 54 (fun p wx=>∃ q:Bool,p = .bool q/\(q=true↔((d=0/\0 < xn)\/(d=1/\xn≠2)\/(1 < d/\(xn < 2\/64 < xn))))/\wx=W)
 case first =>
  have shape:(d=0/\xn=0)\/(d=1/\xn=2)\/(1 < d/\2<=xn/\xn<=64)\/(d=0/\0 < xn)\/(d=1/\xn≠2)\/(1 < d/\xn < 2)\/(1 < d/\64 < xn):=by omega
  clear HL HS HM HI H0 jO;rcases shape with ⟨rfl,rfl⟩ | ⟨rfl,rfl⟩ | ⟨ep,dh,fT⟩ | ⟨rfl,hs⟩ | ⟨rfl,hs⟩ | ⟨ep,hs⟩ | ⟨ep,hs⟩
  ·go_wp2_with fail
   go_meet
   case rel=>exact⟨false,rfl,by simp,rfl⟩
  ·go_wp2_with fail
   go_meet
   case rel=>exact⟨false,rfl,by simp,rfl⟩
  ·have bL:(d == 0)=false:=by simp;omega
   have bT:(d == 1)=false:=by simp;omega
   have kI:¬ (xn:Int) < 2:=by omega
   have mh:¬ (64:Int) < (xn:Int):=by omega
   go_wp2_with fail
   go_meet
   case rel=>exact⟨false,rfl,⟨(fun h=>by cases h),fun h=>by omega⟩,rfl⟩
  ·have hz:(0:Int) < (xn:Int):=by omega
   go_wp2_with fail
   go_meet
   case rel=>exact⟨true,rfl,⟨fun _=>.inl ⟨trivial,hs⟩,fun _=>rfl⟩,rfl⟩
  ·have hz:((xn:Int) == 2)=false:=by simp;omega
   go_wp2_with fail
   go_meet
   case rel=>exact⟨true,rfl,⟨fun _=>.inr (.inl ⟨trivial,hs⟩),fun _=>rfl⟩,rfl⟩
  ·have hz:(xn:Int) < 2:=by omega
   have bL:(d == 0)=false:=by simp;omega
   have bT:(d == 1)=false:=by simp;omega
   have cp:(1:Int) < d:=by omega
   go_wp2_with fail
   go_meet
   case rel=>exact⟨true,rfl,⟨fun _=>by omega,fun _=>rfl⟩,rfl⟩
  ·have hz:¬ (xn:Int) < 2:=by omega
   have bL:(d == 0)=false:=by simp;omega
   have bT:(d == 1)=false:=by simp;omega
   have cp:(1:Int) < d:=by omega
   have kI:(64:Int) < (xn:Int):=by omega
   go_wp2_with fail
   go_meet
   case rel=>exact⟨true,rfl,⟨fun _=>by omega,fun _=>rfl⟩,rfl⟩
 case rest =>
  obtain⟨q,rfl,hq,rfl⟩:=hcut;cases q with
  | true =>
   have hE:xx (qx m) x.cl=22:=qfo H0.out (by rw[HL.out.1,HL.out.2.1];exact hq.1 rfl);have HE:=lhd hE;clear hE hq;go_wp2_with fail;go_ret;exact⟨by rw[HE.out];rfl,jO.out⟩
  | false =>
   have CE:qaz x.cl:=⟨H0.out,by rw[HL.out.1,HL.out.2.1];exact fun h=>by cases hq.2 h⟩
   have o7:xn<=64:=by
    have:¬ ((d=0/\0 < xn)\/(d=1/\xn≠2)\/(1 < d/\(xn < 2\/64 < xn))):=fun h=>by cases hq.2 h
    omega
   have iz:Sl w 2 (.slice x.a xn x.c) (cat Sd.enc x.s):=by rw[HL.out.2.2.1];exact HS.out
   have xO:=lhd iz;have lG:=lhd CE;have pC:IntKind.i64.wrap (d - 1)=d - 1:=(IntWalk.i64_left _).trans (IntWalk.wrap64_in _ (by omega));clear CE hq iz;go_wp2_with fail;go_loopw [58] (fun i wr=>∃ k:Nat,i = .int .i64 k/\k<=xn/\Hid (∀ j,j < k->xq (qx m) x.cl j=false)/\Below wc.heap.size wc wr) (fun i _=>xn - (vI i).toNat)
   case atStart=>exact⟨0,rfl,gp _,(show Hid _ from fun j hj=>by omega),Below.refl _ _⟩
   case round =>
    obtain⟨k,rfl,hk,HN,hB⟩:=hrel;have aL:Below w.heap.size w wr:=jO.out.trans (hB.mono jO.out.size);by_cases hlt:k < xn
    ·obtain⟨s,hs⟩ : ∃ s,x.s[k]? = some s:=⟨_,g8 (by have:=HL.out.1;show k < x.cl.s.length;omega)⟩
     obtain⟨_,_,_,h5,h6⟩:=(xO.out.q8 aL).open;obtain⟨ad,bI⟩ : ∃ ad,x.a=some ad:=by
      cases ha:x.a with
      | none=>have:=h5 ha;omega
      | some ad=>exact⟨ad,rfl⟩
     obtain⟨e0,e1⟩:=zw x.s k s hs;have g0:wr.cell? (ad.add (k*2))=some (.int .i64 s.c):=h6 ad bI _ _ e0;have g1:wr.cell? ⟨(ad.add (k*2)).block,(ad.add (k*2)).off+1,none⟩=some (.int .i64 s.g):=by rw[qi _ _ _ (by omega)];exact h6 ad bI _ _ e1
     have EY:=HI.out.2 s (gd hs);have aq:=yx EY.1;have vX:wr.cell? ⟨T,0,none⟩=some (.map (some B)):=Cx.q8 aL q0;have eU:=HM.out.q8 aL;have pM:wr.cell? ⟨w.heap.size,1,none⟩=some (.int .i64 d):=Cx.q8 hB k1;have jS:wr.cell? ⟨w.heap.size,2,none⟩=some (.slice x.a xn x.c):=Cx.q8 hB k2;obtain⟨zi,zd,za,zn,zc,F,hz,hF⟩ : ∃ (zi zd:Int) (za:Option Addr) (zn zc:Nat) (F:Bool),(gOf m s.c).getD (.agg #[.int .i64 0,.int .i64 0,.slice none 0 0]) = .agg #[.int .i64 zi,.int .i64 zd,.slice za zn zc]/\(gOf m s.c).isSome=F:=by
      unfold gOf;cases m.find? (fun y=>y.id == s.c) with
      | none=>exact⟨_,_,_,_,_,_,rfl,rfl⟩
      | some y=>exact⟨_,_,_,_,_,_,rfl,rfl⟩
     have dd:∀ W:World,Mp Tryz.prog 3 W B n (gOf m)->(Instr.lookup 181 (.map (some B)) (.int .i64 s.c) true).run Tryz.prog W = .ok (.tuple #[.agg #[.int .i64 zi,.int .i64 zd,.slice za zn zc],.bool F]) W:=fun W hW=>by
      have:=hW.qgy Tryz.underlying3 Tryz.underlying181 (zeroCell _) aq
      rwa [hz,hF] at this
     have oW:=lhd dd;have HK:=lhd (aiq hs (aiq bI (aiq hz hF)));have me:=lhd eU;have a0:(wr.alloc (.cells #[.int .i64 s.c,.int .i64 s.g] 108)).cell? ⟨T,0,none⟩=some (.map (some B)):=qk vX _;have a1:(wr.alloc (.cells #[.int .i64 s.c,.int .i64 s.g] 108)).cell? ⟨wr.heap.size,0,none⟩=some (.int .i64 s.c):=qd wr _ _ (0,0) 0;have am:=eU.alloc (.cells #[.int .i64 s.c,.int .i64 s.g] 108);clear h5 h6 e0 e1 hs hz hF dd eU;rw[bI] at jS ⊢;go_wp2_with fail
     go_region_held3 (fun w'=>w'.cell? ⟨T,0,none⟩=some (.map (some B))/\w'.cell? ⟨wr.heap.size,0,none⟩=some (.int .i64 s.c)/\Mp Tryz.prog 3 w' B n (gOf m)/\(Instr.lookup 181 (.map (some B)) (.int .i64 s.c) true).run Tryz.prog w' = .ok (.tuple #[.agg #[.int .i64 zi,.int .i64 zd,.slice za zn zc],.bool F]) w')
      (first
       | exact⟨by assumption,by assumption,by assumption,oW.out _ (by assumption)⟩
       | exact⟨qk (by assumption) _,qk (by assumption) _,Mp.alloc (by assumption) _,oW.out _ (Mp.alloc (by assumption) _)⟩)
      (fail)
     all_goals
      obtain⟨W3,i6⟩ : ∃ W3,W3=((wr.alloc (.cells #[.int .i64 s.c,.int .i64 s.g] 108)).alloc (.cells #[.int .i64 zi,.int .i64 zd,.slice za zn zc] 75)).drew:=⟨_,rfl⟩
      rw[<-i6];have aB:Below wr.heap.size wr W3:=by rw[i6];exact qb (((Below.refl _ wr).alloc (nlr _) _).alloc (by simp) _) 1
      have x0:W3.cell? ⟨wr.heap.size,0,none⟩=some (.int .i64 s.c):=by rw[i6];exact qk (qd wr #[.int .i64 s.c,.int .i64 s.g] 108 (0,0) 0) _
      have x1:W3.cell? ⟨wr.heap.size+1,1,none⟩=some (.int .i64 zd):=by
       rw[i6];have:=qd (wr.alloc (.cells #[.int .i64 s.c,.int .i64 s.g] 108)) #[.int .i64 zi,.int .i64 zd,.slice za zn zc] 75 (0,0) 1;rw[World.size_alloc] at this;exact this
      have y1:=Cx.q8 aB pM;have y2:=Cx.q8 aB jS;have eK:=lhd (hB.trans (aB.mono hB.size));have sM:=lhd (aL.trans (aB.mono aL.size));obtain⟨CF,CG⟩:=q97 m s.c;have Jc:=lhd (aiq CF CG);clear i6 a0 a1 am aB pM jS k1 k2 q0 vX g0 g1 CF CG;cases F with
      | false =>
       have dE:xq (qx m) x.cl k=true:=q94 (s:=s) HK.out.1 (by
        have h1:=Jc.out.1;rw[HK.out.2.2.2] at h1;cases ht:qx m s.c with
        | none=>rfl
        | some y=>rw[ht] at h1;cases h1)
       have HE:=lhd (q3f lG.out (show k < x.cl.s.length by rw[HL.out.1];exact hlt) dE);clear dE;go_wp2_with fail
       go_quiet (fail)
       go_wp2;go_ret;exact⟨by rw[HE.out];rfl,qb sM.out _⟩
      | true =>
       obtain⟨yy,Jd⟩ : ∃ yy,qx m s.c=some yy:=by
        have h1:=Jc.out.1;rw[HK.out.2.2.2] at h1;cases ht:qx m s.c with
        | none=>rw[ht] at h1;cases h1
        | some y=>exact⟨y,rfl⟩
       have jJ:yy.dim=zd:=by
        obtain⟨z,bT,cp,kI,mh⟩:=Jc.out.2 yy Jd;have h1:=HK.out.2.2.1;rw[mh] at h1;have h2:(Value.agg #[.int .i64 z.id,.int .i64 z.dim,.slice z.a z.n z.c]) = .agg #[.int .i64 zi,.int .i64 zd,.slice za zn zc]:=h1;have h3:z.dim=zd:=by simp at h2;exact h2.2.1
        rw[<-kI];exact h3
       have nE:=lhd (aiq Jd jJ);clear Jd jJ;by_cases dK:zd=d - 1
       ·have e9:(zd != d - 1)=false:=by simp[dK]
        have Sw:(zd == d - 1)=true:=by simp[dK]
        have Nn:Hid (yy.dim=x.cl.dim - 1):=by show _=_;rw[nE.out.2,HL.out.2.1];exact dK
        subst dK;by_cases dr:0 < k
        ·obtain⟨mm,cC⟩ : ∃ mm,k=mm+1:=⟨k - 1,by omega⟩
         have kR:decide ((0:Int) < (k:Int))=true:=by simpa using dr
         have Np:(0:Int) < (k:Int):=by omega
         have eO:IntKind.i64.wrap ((k:Int) - 1)=(mm:Int):=by rw[IntWalk.i64_left,IntWalk.wrap64_in _ (by omega)];omega
         have ru:(0:Int)<=(mm:Int):=by omega
         have cO:(mm:Int) < (xn:Int):=by omega
         obtain⟨r,hr⟩ : ∃ r,x.s[mm]? = some r:=⟨_,g8 (by have:=HL.out.1;show mm < x.cl.s.length;omega)⟩
         obtain⟨_,_,_,h5,h6⟩:=(xO.out.q8 sM.out).open;obtain⟨e0,e1⟩:=zw x.s mm r hr;have r0:W3.cell? (ad.add (mm*2))=some (.int .i64 r.c):=h6 ad HK.out.2.1 _ _ e0;have uF:xq (qx m) x.cl k=(r.c == s.c):=by
          have h1:=HK.out.1;rw[cC] at h1 ⊢;exact q96 h1 hr nE.out.1 Nn.out
         have EO:=lhd uF;clear h5 h6 e0 e1 uF hr cC;by_cases ud:r.c=s.c
         ·have hq:(r.c == s.c)=true:=by simpa using ud
          have HE:=lhd (q3f lG.out (show k < x.cl.s.length by rw[HL.out.1];exact hlt) (EO.out.trans hq));clear ud;go_wp2_with fail
          go_quiet (fail)
          go_wp2;go_ret;exact⟨by rw[HE.out];rfl,qb sM.out _⟩
         ·have hq:(r.c == s.c)=false:=by simpa using ud
          have HE:=lhd (EO.out.trans hq);clear ud;go_wp2_with fail
          go_quiet (fail)
          go_wp2;go_roundw
          case measure=>simp[vI];omega
          case rel=>exact⟨k+1,qh (by omega),by omega,(show Hid _ from fun j hj=>by
           rcases gL j k with h | h
           ·exact HN.out j h
           ·rw[show j=k by omega];exact HE.out),qb eK.out _⟩
        ·have kR:decide ((0:Int) < (k:Int))=false:=by simpa using dr
         have uF:xq (qx m) x.cl k=false:=by
          have h1:=HK.out.1;rw[show k=0 by omega] at h1 ⊢;exact q95 h1 nE.out.1 Nn.out
         have HE:=lhd uF;clear uF;go_wp2_with fail
         go_quiet (fail)
         go_wp2;go_roundw
         case measure=>simp[vI];omega
         case rel=>exact⟨k+1,qh (by omega),by omega,(show Hid _ from fun j hj=>by
          rcases gL j k with h | h
          ·exact HN.out j h
          ·rw[show j=k by omega];exact HE.out),qb eK.out _⟩
       ·have e9:(zd != d - 1)=true:=by simp[dK]
        have HE:=lhd (q3f lG.out (show k < x.cl.s.length by rw[HL.out.1];exact hlt) (qay HK.out.1 nE.out.1 (by rw[nE.out.2,HL.out.2.1];exact dK)));clear dK;go_wp2_with fail
        go_quiet (fail)
        go_wp2;go_ret;exact⟨by rw[HE.out];rfl,qb sM.out _⟩
    ·have aH:∀ j,j < x.cl.s.length->xq (qx m) x.cl j=false:=fun j hj=>HN.out j (by rw[HL.out.1] at hj;omega)
     have iI:=lhd aH;have HB:=lhd hB;have pM:wr.cell? ⟨w.heap.size,1,none⟩=some (.int .i64 d):=Cx.q8 hB k1;have jS:wr.cell? ⟨w.heap.size,2,none⟩=some (.slice x.a xn x.c):=Cx.q8 hB k2;clear aH k1 k2;obtain⟨wo,db⟩ : ∃ wo,wo=wr:=⟨_,rfl⟩
     subst db;go_wp2_with fail;go_loopw [10,103] (fun sm i wr=>∃ k:Nat,i = .int .i64 k/\sm = .int .i64 ((x.s.take k).map Sd.g).sum/\k<=xn/\Hid (∀ s∈x.s.take k,s.g=1\/s.g = -1)/\Below wo.heap.size wo wr) (fun _ i _=>xn - (vI i).toNat)
     case atStart=>exact⟨0,rfl,rfl,gp _,(show Hid _ from fun s hs=>by simp at hs),Below.refl _ _⟩
     case round =>
      obtain⟨k,rfl,rfl,hk,HG,kP⟩:=hrel;have cn:Below w.heap.size w wr:=aL.trans (kP.mono aL.size);have Sx:wr.cell? ⟨w.heap.size,1,none⟩=some (.int .i64 d):=Cx.q8 kP pM;have xQ:=lhd cn;obtain⟨S,hS⟩ : ∃ S,S=((x.s.take k).map Sd.g).sum:=⟨_,rfl⟩
      rw[<-hS];have EZ:=lhd hS;have Sy : -(64:Int)<=S/\S<=64:=by
       have h1:=qfi (x.s.take k) HG.out;have h2:(x.s.take k).length<=k:=by rw[gh];omega
       rw[<-hS] at h1;omega
      clear hS;by_cases iw:k < xn
      ·obtain⟨t,ht⟩ : ∃ t,x.s[k]? = some t:=⟨_,g8 (by have:=HL.out.1;show k < x.cl.s.length;omega)⟩
       obtain⟨_,_,_,h5,h6⟩:=(xO.out.q8 cn).open;obtain⟨ad,bI⟩ : ∃ ad,x.a=some ad:=by
        cases ha:x.a with
        | none=>have:=h5 ha;omega
        | some ad=>exact⟨ad,rfl⟩
       obtain⟨e0,e1⟩:=zw x.s k t ht;have g0:wr.cell? (ad.add (k*2))=some (.int .i64 t.c):=h6 ad bI _ _ e0;have g1:wr.cell? ⟨(ad.add (k*2)).block,(ad.add (k*2)).off+1,none⟩=some (.int .i64 t.g):=by rw[qi _ _ _ (by omega)];exact h6 ad bI _ _ e1
       have Nq:=gd ht;have cZ:x.s.take (k+1)=x.s.take k++[t]:=by rw[gq,ht];rfl
       have dc:=lhd (aiq Nq cZ);have lZ:∀ g:Int,Below wo.heap.size wo (wr.alloc (.cells #[.int .i64 t.c,.int .i64 g] 108))/\Below w.heap.size w (wr.alloc (.cells #[.int .i64 t.c,.int .i64 g] 108)):=fun g=>⟨kP.alloc kP.size _,cn.alloc cn.size _⟩
       have xR:=lhd lZ;obtain⟨g,hg⟩ : ∃ g,g=t.g:=⟨_,rfl⟩
       rw[<-hg] at g1;have uC:=lhd hg;rw[bI];clear h5 h6 e0 e1 ht Nq cZ lZ hg cn bI;by_cases cA:g=1
       ·subst cA;go_wp2_with fail;go_roundw
        case measure=>simp[vI];omega
        case rel =>
         refine⟨k+1,qh (by omega),?_,by omega,(show Hid _ from fun s hs=>?_),(xR.out 1).1⟩
         ·rw[dc.out.2,bo,List.sum_append,<-EZ.out];show _=Value.int .i64 (S+(t.g+0));rw[<-uC.out];exact qh (by first | omega | (unfold wrap64;omega) | (rw[IntWalk.wrap64_in _ (by omega)];omega))
         ·rw[dc.out.2] at hs;rcases gF.1 hs with hs | hs
          ·exact HG.out s hs
          ·rw[List.mem_singleton.1 hs];exact .inl uC.out.symm
       ·by_cases dH:g = -1
        ·subst dH;go_wp2_with fail;go_roundw
         case measure=>simp[vI];omega
         case rel =>
          refine⟨k+1,qh (by omega),?_,by omega,(show Hid _ from fun s hs=>?_),(xR.out (-1)).1⟩
          ·rw[dc.out.2,bo,List.sum_append,<-EZ.out];show _=Value.int .i64 (S+(t.g+0));rw[<-uC.out];exact qh (by first | omega | (unfold wrap64;omega) | (rw[IntWalk.wrap64_in _ (by omega)];omega))
          ·rw[dc.out.2] at hs;rcases gF.1 hs with hs | hs
           ·exact HG.out s hs
           ·rw[List.mem_singleton.1 hs];exact .inr uC.out.symm
        ·have HE:=lhd (qcl lG.out iI.out (show t∈x.cl.s from dc.out.1) (by rw[<-uC.out];exact cA) (by rw[<-uC.out];exact dH));have AL:(g != 1)=true:=by simpa using cA
         have ir:(g != -1)=true:=by simpa using dH
         have sw:(g == 1)=false:=by simpa using cA
         have IC:(g == -1)=false:=by simpa using dH
         clear cA dH;go_wp2_with fail;go_ret;exact⟨by rw[HE.out];rfl,(xR.out g).2⟩
      ·have bJ:x.s.take k=x.s:=ge (by have:=HL.out.1;show x.cl.s.length<=k;omega);have xS:=lhd bJ;clear bJ;by_cases bZ:d=1
       ·subst bZ;by_cases dR:S=0
        ·subst dR;have HE:=lhd (qb0 lG.out iI.out (by have:=HG.out;rw[xS.out] at this;exact this) (fun h=>h.2 (by have:=EZ.out;rw[xS.out] at this;exact this.symm)));go_wp2_with fail;go_ret;exact⟨by rw[HE.out];rfl,xQ.out⟩
        ·have HE:=lhd (qfp lG.out iI.out (by have:=HG.out;rw[xS.out] at this;exact this) HL.out.2.1 (fun h=>dR (by have:=EZ.out;rw[xS.out] at this;exact this.trans h)));have AL:(S != 0)=true:=by simpa using dR
         have sw:(S == 0)=false:=by simpa using dR
         clear dR;go_wp2_with fail;go_ret;exact⟨by rw[HE.out];rfl,xQ.out⟩
       ·have HE:=lhd (qb0 lG.out iI.out (by have:=HG.out;rw[xS.out] at this;exact this) (fun h=>bZ (HL.out.2.1.symm.trans h.1)));have sw:(d == 1)=false:=by simpa using bZ
        clear bZ;go_wp2_with fail;go_ret;exact⟨by rw[HE.out];rfl,xQ.out⟩
end Go.Proofs.YtlhicnfeajejhaaGreatDoor
namespace Go.Cx
theorem ka.trans {R:Int->Int->Prop} {z:Int} {S0 S1 S2:Int->Prop} (h:ka R z S0 S1) (k:ka R z S1 S2):ka R z S0 S2:=by
 refine⟨fun b hb=>k.1 b (h.1 b hb),fun b hb hn=>?_⟩;by_cases h1:S1 b
 ·obtain⟨a1,a2⟩:=h.2 b h1 hn;exact⟨a1,fun c hc=>k.1 c (a2 c hc)⟩
 ·exact k.2 b hb h1
def sG (s:Int->Bool):Int->Option Value:=fun c=>if s c=true then some (.bool true) else none
def mrk (s:Int->Bool) (c:Int):Int->Bool:=fun d=>if d=c then true else s d
theorem qo4 (s:Int->Bool) (c:Int):zg (sG s) c (.bool true)=sG (mrk s c):=by
 funext d
 unfold zg sG mrk;by_cases h:d=c <;> simp[h]
theorem q98 (s:Int->Bool) (c d:Int):mrk s c d=true↔d=c\/s d=true:=by
 unfold mrk;by_cases h:d=c <;> simp[h]
end Go.Cx
namespace Go.Proofs.YtlhicnfeajejhaaGreatDoor
open Go.RowKit Go.Cx Go.Maps
attribute [local go_sem ↓] Go.wp_at_zero Go.wp_at_succ
structure Vj (w0 w:World) (JB SE p1 p2 p3:Nat):Prop where
 below:Below w0.heap.size w0 w
 se:w0.heap.size<=SE
 ne:p1≠SE/\p2≠SE/\p3≠SE
 c1:w.cell? ⟨p1,0,none⟩=some (.map (some SE))
 c2:w.cell? ⟨p2,0,none⟩=some (.map (some JB))
 c3:w.cell? ⟨p3,0,none⟩=some (.func (.func 197) #[] #[.pointer (some ⟨p1,0,none⟩),.pointer (some ⟨p2,0,none⟩),.pointer (some ⟨p3,0,none⟩)])
theorem Vj.gs {w0 w w':World} {JB SE p1 p2 p3:Nat} (h:Vj w0 w JB SE p1 p2 p3) (k:Gs (fun b=>b=SE) w w'):Vj w0 w' JB SE p1 p2 p3 where
 below:=⟨k.os.trans h.below.os,k.tape.trans h.below.tape,k.output.trans h.below.output,gn h.below.size k.size,fun b hb=>(k.blk b (gZ hb h.below.size) (by have:=h.se;omega)).trans (h.below.block b hb)⟩
 se:=h.se
 ne:=h.ne
 c1:=k.cell h.ne.1 h.c1
 c2:=k.cell h.ne.2.1 h.c2
 c3:=k.cell h.ne.2.2 h.c3
theorem q42 (w:World):(zeroValue 22).run Tryz.prog w = .ok (.slice none 0 0) w:=Tryz.zeroValue22 w
theorem qo5 {w:World} {b n:Nat} {s:Int->Bool} (h:Mp Tryz.prog 3 w b n (sG s)):∃ L:List Int,L.Nodup/\(∀ c,c∈L↔s c=true)/\∀ ty,(Builtin.len_ #[65] ty #[.map (some b)]).run Tryz.prog w = .ok (.int .i64 (L.length:Int)) w:=by
 obtain⟨D,h1,h2⟩:=h;obtain⟨k1,k2,_,_⟩:=Mp.keys h1 Tryz.underlying3 h2 (List.Perm.refl (intKeys D));refine⟨intKeys D,k1,fun c=>(k2 c).trans ?_,fun ty=>?_⟩
 ·unfold sG;cases s c <;> simp
 ·have:=h1.len (e:=4) Tryz.underlying65 ty;rw[this];have:Maps.size D=(intKeys D).length:=by
   obtain⟨es,rfl,_⟩:=h1.tidy (int_keyed Tryz.underlying3);simp[intKeys,Maps.size]
  rw[this]
theorem qld {w0:World} {JB nJ:Nat} {gJ:Int->Option Value} {vj:Int->Value} {jl:Int->List Int} (hJ:Mp Tryz.prog 3 w0 JB nJ gJ) (hv:∀ i,(gJ i).getD (.slice none 0 0)=vj i) (hs:∀ i,Sl w0 1 (vj i) (ints (jl i))) (dP:∀ i,(jl i).length<=1000000)
  (U:List Int) (hU:∀ i∈U,∀ k∈jl i,k∈U) (Fa:∀ i∈U,I64 i) (z:Int) (hz:z ∉ U) (SE p1 p2 p3:Nat):∀ (N:Nat) (i:Int) (k:Nat) (seen:Int->Bool) (w:World),mu U seen<=N->Vj w0 w JB SE p1 p2 p3->Mp Tryz.prog 3 w SE k (sG seen)->i∈U->k+mu U seen<=1000000000 →
  Calls Tryz.prog 197 #[.int .i64 i,.pointer (some ⟨p1,0,none⟩),.pointer (some ⟨p2,0,none⟩),.pointer (some ⟨p3,0,none⟩)] w fun e w'=>e = .returned (.tuple #[])/\Gs (fun b=>b=SE) w w' ∧
   ∃ k' cQ,Mp Tryz.prog 3 w' SE k' (sG cQ)/\ka (fun a b=>b∈jl a) z (fun d=>seen d=true) (fun d=>cQ d=true)/\cQ i=true/\k'+mu U cQ<=k+mu U seen/\(∀ d,cQ d=true->seen d=true\/d=i\/Relation.TransGen (fun a b=>b∈jl a) i d):=by
 intro N;induction N using Nat.strongRecOn with
 | _ N ih =>
 intro i k seen w hN hV hS hi hk;have Nr:=Fa i hi;have zO:=yx Nr;have pN:(Instr.lookup 65 (.map (some SE)) (.int .i64 i) false).run Tryz.prog w = .ok (.bool (seen i)) w:=by
  have:=hS.look Tryz.underlying3 Tryz.underlying65 (q21 w) zO;rw[this];unfold sG;cases seen i <;> rfl
 obtain⟨q1,q2,q3⟩:=aiq hV.c1 (aiq hV.c2 hV.c3);cases hsi:seen i with
 | true =>
  have HR:=lhd (aiq hS hsi);rw[hsi] at pN;clear hsi ih hV hS hN hk hJ hv hs dP hU Fa hz;go_enter Tryz.func197,Tryz.ntmps197;go_wp2_with fail
  go_end0
  exact⟨rfl,Gs.refl _ _,k,seen,HR.out.1,ka.refl _ _ _,HR.out.2,nlr _,fun d h=>.inl h⟩
 | false =>
  rw[hsi] at pN;have hmul:=qe7 hi hsi;have HR:=lhd (aiq hsi (aiq hmul (aiq hN (aiq hk (aiq hi hV)))));have rU:k < maxLen:=by unfold maxLen;omega
  have get:∀ u,Gs (fun b=>b=SE) w u->u.cell? ⟨p1,0,none⟩=some (.map (some SE))/\u.cell? ⟨p2,0,none⟩=some (.map (some JB)) ∧
    u.cell? ⟨p3,0,none⟩=some (.func (.func 197) #[] #[.pointer (some ⟨p1,0,none⟩),.pointer (some ⟨p2,0,none⟩),.pointer (some ⟨p3,0,none⟩)])/\(Instr.lookup 215 (.map (some JB)) (.int .i64 i) false).run Tryz.prog u = .ok (vj i) u/\Sl u 1 (vj i) (ints (jl i)):=fun u hu=>by
   have v:=hV.gs hu;refine⟨v.c1,v.c2,v.c3,?_,(hs i).q8 v.below⟩;have:=(hJ.q8 v.below).look Tryz.underlying3 Tryz.underlying215 (q42 u) zO;rw[this,hv]
  have Cv:=lhd get;have HI:=lhd ih;have ft:=lhd (aiq hU (aiq Fa hz));have lu:=dP i;obtain⟨ja,jn,jc,Je⟩:=qg (hs i);rw[Je] at get;have Ns:=lhd Je;clear ih hV hN hk hJ hv hs dP hU Fa hz hsi hmul hi Je get;go_enter Tryz.func197,Tryz.ntmps197;go_wp2_with (first
   |(at_mapUpdate;refine q1z rfl _ _ _ 65 rfl hS Tryz.underlying3 Tryz.underlying65 rU i _ rfl rfl rfl zO ?_)
   | fail)
  intro w1 cO cA;rw[qo4] at cO;have xF:Gs (fun b=>b=SE) w w1:=(Gs.refl _ _).grown cA (fun k e=>by cases e;exact .inr rfl);obtain⟨a1,a2,a3,a4,a5⟩:=Cv.out w1 xF;rw[Ns.out] at a4 a5;have uG:jn=(jl i).length:=by
   obtain⟨_,_,h3,_⟩:=a5.open;rw[xl] at h3;omega
  have Nt:=lhd uG;have tM:jn<=1000000:=by omega
  clear hS cA pN q1 q2 q3 uG a5 a1 a3;go_wp2_with fail;go_loopw [17] (fun x wr=>∃ (j kk:Nat) (sk:Int->Bool),x = .int .i64 j/\j<=jn/\Gs (fun b=>b=SE) w wr/\Hid (Mp Tryz.prog 3 wr SE kk (sG sk)/\ka (fun a b=>b∈jl a) z (fun d=>mrk seen i d=true) (fun d=>sk d=true)/\(∀ d∈(jl i).take j,sk d=true)/\kk+mu U sk<=k+1+mu U (mrk seen i)/\(∀ d,sk d=true->seen d=true\/d=i\/Relation.TransGen (fun a b=>b∈jl a) i d))) (fun x _=>jn - (vI x).toNat)
  case atStart=>exact⟨0,k+1,mrk seen i,rfl,gp _,xF,⟨cO,ka.refl _ _ _,(fun d hd=>by simp at hd),nlr _,fun d hd=>by
   rcases (q98 _ _ _).1 hd with rfl | h
   ·exact .inr (.inl rfl)
   ·exact .inl h⟩⟩
  case round =>
   clear cO xF a2 a4;obtain⟨j,kk,sk,rfl,hj,hG,HF⟩:=hrel;obtain⟨a1,a2,a3,a4,a5⟩:=Cv.out wr hG;rw[Ns.out] at a4 a5;by_cases hlt:j < jn
   ·obtain⟨x,hx⟩ : ∃ x,(jl i)[j]? = some x:=⟨_,g8 (by rw[<-Nt.out];exact hlt)⟩
    obtain⟨_,_,_,h5,h6⟩:=a5.open;obtain⟨ad,rfl⟩ : ∃ ad,ja=some ad:=by
     cases ja with
     | none=>have:=h5 rfl;omega
     | some ad=>exact⟨ad,rfl⟩
    have d0:wr.cell? (ad.add j)=some (.int .i64 x):=h6 ad rfl j _ (by simp[ints,hx]);have Jf:x∈U:=ft.out.1 i HR.out.2.2.2.2.1 x (gd hx);have cC:=qe8 (U:=U) HF.out.2.1.1;have iy:mu U (mrk seen i) < mu U seen:=HR.out.2.1;have ae:=HI.out (mu U sk) (by have:=HR.out.2.2.1;omega) x kk sk wr (nlr _) (HR.out.2.2.2.2.2.gs hG) HF.out.1 Jf (by have:=HF.out.2.2.2.1;have:=HR.out.2.2.2.1;omega);have HC:=lhd ae;have HX:=lhd (aiq hx Jf);clear ae h5 h6 hx Jf a5 cC iy a4 a2 a1;go_wp2_with fail;refine HC.out.mono ?_;rintro e w2 ⟨rfl,cJ,k2,s2,b1,b2,b3,b4,b5⟩;have H2:=lhd (aiq b1 (aiq b2 (aiq b3 (aiq b4 b5))));have pK:=hG.trans cJ;clear b1 b2 b3 b4 b5 cJ;go_wp2_with fail;go_roundw
    case measure=>simp[vI];omega
    case rel =>
     refine⟨j+1,k2,s2,qh (by omega),by omega,pK,⟨H2.out.1,HF.out.2.1.trans H2.out.2.1,fun d hd=>?_,?_,fun d hd=>?_⟩⟩
     ·rw[gq,HX.out.1] at hd;rcases gF.1 hd with hd | hd
      ·exact H2.out.2.1.1 d (HF.out.2.2.1 d hd)
      ·simp at hd;rw[hd];exact H2.out.2.2.1
     ·have:=H2.out.2.2.2.1;have:=HF.out.2.2.2.1;omega
     ·rcases H2.out.2.2.2.2 d hd with h | h
      ·exact HF.out.2.2.2.2 d h
      ·have hR:Relation.TransGen (fun a b=>b∈jl a) i x:=.single (gd HX.out.1);rcases h with rfl | h
       ·exact .inr (.inr hR)
       ·exact .inr (.inr (hR.trans h))
   ·have cX:(jl i).take j=jl i:=ge (by rw[<-Nt.out];omega);have Jg:=lhd cX;clear cX;go_wp2_with fail
    go_end0
    have h1:=HF.out.2.2.1;rw[Jg.out] at h1;refine⟨rfl,hG,kk,sk,HF.out.1,?_,HF.out.2.1.1 i ((q98 _ _ _).2 (.inl rfl)),?_,HF.out.2.2.2.2⟩
    ·exact ka.visit (ka.refl _ _ _) (q98 seen i) (fun e=>ft.out.2.2 (by rw[<-e];exact HR.out.2.2.2.2.1)) HF.out.2.1 (fun c hc=>h1 c hc)
    ·have:=HF.out.2.2.2.1;have h2:mu U (mrk seen i) < mu U seen:=HR.out.2.1;omega
def q1r (pl:Int->List Int) (c x:Int):Int->List Int:=fun d=>if d=c then pl c++[x] else pl d
def Rws (w:World) (base B:Nat) (Av:Nat->Prop) (n:Nat) (pl:Int->List Int):Prop:=∃ (g:Int->Option Value) (vm:Int->Value),Mp Tryz.prog 3 w B n g/\(∀ c,(g c).getD (.slice none 0 0)=vm c)/\(∀ c,(g c).isSome=true↔pl c≠[]) ∧
 (∀ c,w.ownsRow base 3 1 (vm c) (pl c).length (ints (pl c)))/\(∀ c c' b,c≠c'->(vm c).ownBlock=some b->(vm c').ownBlock≠some b)/\(∀ c b,(vm c).ownBlock=some b->b≠B/\¬ Av b)
theorem Rws.made (w:World) (base:Nat) (Av:Nat->Prop):Rws (w.alloc (.map #[] 0)) base w.heap.size Av 0 (fun _=>[]) :=
 ⟨_,fun _=>.slice none 0 0,Mp.made w _ _,fun _=>rfl,fun _=>⟨(fun h=>by cases h),fun h=>absurd rfl h⟩,fun _=>World.ownsRow_nil _ _ _ _,(fun _ _ _ _ h=>by cases h),(fun _ _ h=>by cases h)⟩
theorem Rws.q8 {w w':World} {base B n:Nat} {Av:Nat->Prop} {pl:Int->List Int} (h:Rws w base B Av n pl) (hb:Below w.heap.size w w'):Rws w' base B Av n pl:=by
 obtain⟨g,vm,h1,h2,h3,h4,h5,h6⟩:=h;exact⟨g,vm,h1.q8 hb,h2,h3,fun c=>qa (h4 c) hb,h5,h6⟩
theorem Rws.qb1 {w:World} {base B n:Nat} {Av Av':Nat->Prop} {pl:Int->List Int} (h:Rws w base B Av n pl) (hv:∀ b,Av' b->w.heap.size<=b\/Av b):Rws w base B Av' n pl:=by
 obtain⟨g,vm,h1,h2,h3,h4,h5,h6⟩:=h;refine⟨g,vm,h1,h2,h3,h4,h5,fun c b hb=>⟨(h6 c b hb).1,fun ha=>?_⟩⟩;rcases hv b ha with h | h
 ·have:=((h4 c).lt b hb).2;omega
 ·exact(h6 c b hb).2 h
theorem Rws.grown {w w':World} {base B n:Nat} {Av:Nat->Prop} {pl:Int->List Int} {k:Nat} (h:Rws w base B Av n pl) (hg:w.grownBy w' (some k)) (hB:B≠k) (hk:k < base):Rws w' base B Av n pl:=by
 obtain⟨g,vm,h1,h2,h3,h4,h5,h6⟩:=h;refine⟨g,vm,h1.kept hg (fun e=>hB (by injection e)),h2,h3,fun c=>(h4 c).kept hg ?_,h5,h6⟩;cases ho:(vm c).ownBlock with
 | none=>exact .inl rfl
 | some b =>
  refine .inr fun e=>?_
  have:=((h4 c).lt b ho).1;injection e with e;omega
theorem Rws.app {w w1 w2 w3:World} {base B n:Nat} {Av:Nat->Prop} {pl:Int->List Int} {g:Int->Option Value} {vm:Int->Value} (h1:Mp Tryz.prog 3 w B n g) (h2:∀ c,(g c).getD (.slice none 0 0)=vm c) (h3:∀ c,(g c).isSome=true↔pl c≠[])
  (h4:∀ c,w.ownsRow base 3 1 (vm c) (pl c).length (ints (pl c))) (h5:∀ c c' b,c≠c'->(vm c).ownBlock=some b->(vm c').ownBlock≠some b) (h6:∀ c b,(vm c).ownBlock=some b->b≠B/\¬ Av b) (Sz:∀ b,Av b->b < w.heap.size) (c x:Int)
  (k1:Below w.heap.size w w1) (gb cap m:Nat) (k2:w1.grownBy w2 (vm c).ownBlock) (k3:w2.ownsRow base 3 1 (.slice (some ⟨gb,0,none⟩) m cap) m (ints (pl c)++[.int .i64 x])) (k4:(vm c).ownBlock=some gb\/gb=w1.heap.size)
  (k5:Mp Tryz.prog 3 w3 B (n+1) (zg g c (.slice (some ⟨gb,0,none⟩) m cap))) (k6:w2.grownBy w3 (some B)):Rws w3 base B Av (n+1) (q1r pl c x):=by
 have LJ:=h1.lt;have Nu:gb≠B:=by
  rcases k4 with k4 | k4
  ·exact(h6 c gb k4).1
  ·have:=k1.size;omega
 refine⟨_,fun d=>if d=c then .slice (some ⟨gb,0,none⟩) m cap else vm d,k5,fun d=>?_,fun d=>?_,fun d=>?_,fun d d' b ak hb=>?_,fun d=>?_⟩
 ·unfold zg;by_cases hd:d=c
  ·simp[hd]
  ·simp[hd,h2 d]
 ·unfold zg q1r;by_cases hd:d=c
  ·simp[hd]
  ·simp only [hd,if_false];exact h3 d
 ·unfold q1r;by_cases hd:d=c
  ·subst hd;simp only [if_true];have:=k3.1;have hm:(pl d++[x]).length=m:=by
    simp[xl] at this ⊢;omega
   rw[hm,j3];exact k3.kept k6 (.inr (fun e=>Nu (by injection e)))
  ·simp only [hd,if_false];refine((qa (h4 d) k1).kept k2 ?_).kept k6 ?_
   ·cases ho:(vm d).ownBlock with
    | none=>exact .inl rfl
    | some b=>exact .inr fun e=>h5 d c b hd ho e.symm
   ·cases ho:(vm d).ownBlock with
    | none=>exact .inl rfl
    | some b=>exact .inr fun e=>(h6 d b ho).1 (by injection e)
 ·by_cases hd:d=c
  ·subst hd;simp only [if_true] at hb;have fY:gb=b:=by injection hb
   have tD:¬ d'=d:=fun e=>ak e.symm
   simp only [tD,if_false];rw[<-fY];rcases k4 with k4 | k4
   ·exact h5 d d' gb ak k4
   ·intro e;have:=((h4 d').lt gb e).2;have:=k1.size;omega
  ·simp only [hd,if_false] at hb;by_cases tD:d'=c
   ·subst tD;simp only [if_true];intro e;have fY:gb=b:=by injection e
    rcases k4 with k4 | k4
    ·exact h5 d d' b hd hb (by rw[k4,fY])
    ·have:=((h4 d).lt b hb).2;have:=k1.size;omega
   ·simp only [tD,if_false];exact h5 d d' b ak hb
 ·by_cases hd:d=c
  ·simp only [hd,if_true];intro b e;have fY:gb=b:=by injection e
   rw[<-fY];refine⟨Nu,fun ha=>?_⟩;rcases k4 with k4 | k4
   ·exact(h6 c gb k4).2 ha
   ·have:=Sz gb ha;have:=k1.size;omega
  ·simp only [hd,if_false];exact h6 d
end Go.Proofs.YtlhicnfeajejhaaGreatDoor
