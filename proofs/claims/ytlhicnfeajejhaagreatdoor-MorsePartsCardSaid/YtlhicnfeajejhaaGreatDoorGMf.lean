/- Steps towards MorseParts. Conditions: none. -/
import Derived.Test.YtlhicnfeajejhaaGreatDoorGMe
set_option maxRecDepth 1000000
set_option maxHeartbeats 16000000
namespace Go.Proofs.YtlhicnfeajejhaaGreatDoor
open Go.RowKit Go.Cx
attribute [local go_sem ↓] Go.wp_at_zero Go.wp_at_succ
theorem Bx.put {w:World} {b:Nat} {n:Bool} {s:ByteArray} (h:Bx w b n s) (n':Bool) (s':ByteArray):Bx ((w.setCell ⟨b,0,none⟩ (.bool n')).setCell ⟨b,1,none⟩ (.string s')) b n' s':=by
 obtain⟨h0,h1,h2,h3⟩:=h;refine⟨?_,?_,by simpa [World.frozen?_setCell] using h2,by simpa [World.frozen?_setCell] using h3⟩
 ·rw[World.cell?_setCell_other _ ⟨b,1,none⟩ ⟨b,0,none⟩ _ (by simp)];exact World.cell?_setCell_same' _ _ _ (by rw[h0];rfl)
 ·exact World.cell?_setCell_same' _ _ _ (by rw[World.cell?_setCell_other _ ⟨b,0,none⟩ ⟨b,1,none⟩ _ (by simp),h1];rfl)
theorem qh0 (v:Value) (l:List Tm) (c:Int) (S:Nat) (w:World) (h:Sl w 3 v (tv l)) (hS:TOk S l) (hb:S+l.length<=1099511627775) :
  Calls Tryz.prog 47 #[v,.int .i64 c] w fun e w'=>e = .returned (wv (co (prs l) c))/\BwQ w w':=by
 obtain⟨a,len,cap,rfl,h1,h2,h3,h4,h5⟩:=h;unfold maxLen at h2;rw[z6] at h3;have hl:l.length=len:=by omega
 clear h3;rw[hl] at hb;have Hl:=lhd hl;clear hl;have H4:=lhd h4;clear h4;have H5:=lhd h5;clear h5;have HS:=lhd hS;clear hS;go_enter Tryz.func47,Tryz.ntmps47;go_wp2;obtain⟨W,hW⟩ : ∃ W:World,W=(w.alloc (.cells #[.bool false,.string ⟨#[]⟩] 38)).alloc (.cells #[.bool false,.string ⟨#[]⟩] 38):=⟨_,rfl⟩
 rw[<-hW];have b0:Bx W w.heap.size false ⟨#[]⟩:=by rw[hW];exact(Bx.new w _ _ _).alloc (by simp) _
 have b1:Bx W (w.heap.size+1) false ⟨#[]⟩:=by rw[hW];have:=Bx.new (w.alloc (.cells #[.bool false,.string ⟨#[]⟩] 38)) false ⟨#[]⟩ 38;simpa using this
 have hw:BwQ w W:=by rw[hW];exact(bal _ _).alloc (by simp) _
 have hz:W.heap.size=w.heap.size+2:=by rw[hW];simp
 clear hW;go_loopw [6] (fun i wr=>∃ (k:Nat) (x:Int),i = .int .i64 k/\k<=len/\x=co (prs (l.take k)) c/\Bx wr (w.heap.size+1) (decide (x < 0)) (mg x)/\Below (w.heap.size+1) W wr) (fun i _=>len - (vI i).toNat)
 case atStart=>exact⟨0,0,rfl,go _,rfl,by rw[q8d];exact b1,Below.refl _ _⟩
 case round =>
  obtain⟨k,x,rfl,hk,hx,im,hB⟩:=hrel;have aP:BwQ w wr:=hw.trans (hB.mono (by omega));have Hx:=lhd hx;clear hx;obtain⟨p0,p1,p2,p3⟩:=im;by_cases hlt:k < len
  ·obtain⟨ad,rfl⟩:=sadq H4.out (by omega)
   obtain⟨⟨tc,tn,tm⟩,ht⟩ : ∃ t,l[k]? = some t:=⟨_,g8 (by rw[Hl.out];exact hlt)⟩
   obtain⟨e0,e1,e2⟩:=jd l k _ ht;have d0:wr.cell? (ad.add (k*3))=some (.int .i64 tc):=q8 aP (H5.out ad rfl _ _ e0);have d1:wr.cell? ⟨(ad.add (k*3)).block,(ad.add (k*3)).off+1,none⟩=some (.bool tn):=by rw[qi _ _ _ (by omega)];exact q8 aP (H5.out ad rfl _ _ e1)
   have d2:wr.cell? ⟨(ad.add (k*3)).block,(ad.add (k*3)).off+2,none⟩=some (.string tm):=by rw[qi _ _ _ (by omega)];exact q8 aP (H5.out ad rfl _ _ e2)
   clear e0 e1 e2;have hm:tm.size<=S:=(HS.out _ (gh ht)).2.2;have dT:nb x<=S+len:=by have:=q0y S (prs (l.take k)) (q19 (fun t ht=>HS.out t (gI ht))) c;rw[kq,gd,Hl.out] at this;rw[Hx.out];omega
   have l6:co (prs (l.take (k+1))) c=x+if tc=c then iv tn tm else 0:=by rw[gq,ht];show co (prs (l.take k++[_])) c=_;rw[q1x,Hx.out];rfl
   have xA:=lhd l6;clear l6;have Ht:=lhd ht;clear ht;by_cases hc:tc=c
   ·subst hc;go_wp2_with fail;have az:w.heap.size+2<=wr.heap.size:=by have:=hB.size;omega
    have lB:∀ {w':World},BwQ wr w'->w'.cell? ⟨(ad.add (k*3)).block,(ad.add (k*3)).off+1,none⟩=some (.bool tn)/\w'.cell? ⟨(ad.add (k*3)).block,(ad.add (k*3)).off+2,none⟩=some (.string tm):=fun hb=>⟨q8 hb d1,q8 hb d2⟩
    have c1:Bx wr (w.heap.size+1) (decide (x < 0)) (mg x):=⟨p0,p1,p2,p3⟩
    go_region_with (go_at_call 33;refine(q1v _ _ _ _ _ (by rw[j5];omega) (by omega)).mono ?_;rintro e w3 ⟨rfl,aQ⟩;rw[q0i];have ar:BwQ wr w3:=xt (aQ.mono (by simp));obtain⟨t0,t1,t2,t3⟩:=c1.q8 ar (by omega))
    all_goals
     go_wp2;go_roundw
     case measure=>simp[vI];omega
     case rel =>refine⟨k+1,x+iv tn tm,qh (by omega),by omega,by rw[xA.out];simp,Bx.put (n:=decide (x < 0)) (s:=mg x) ⟨t0,t1,t2,t3⟩ _ _,?_⟩;exact((hB.trans (ar.mono (by omega))).setCell (p:=⟨w.heap.size+1,0,none⟩) (nlr _) _).setCell (p:=⟨w.heap.size+1,1,none⟩) (nlr _) _
   ·have GU:(tc == c)=false:=by simpa using hc
    rw[if_neg hc,bD] at xA;go_wp2_with fail;go_roundw
    case measure=>simp[vI];omega
    case rel=>exact⟨k+1,x,qh (by omega),by omega,xA.out.symm,⟨p0,p1,p2,p3⟩,hB⟩
  ·have bE:k=len:=by omega
   have eZ:=lhd bE;clear bE;have az:w.heap.size+2<=wr.heap.size:=by have:=hB.size;omega
   obtain⟨r0,r1,r2,r3⟩:=b0.q8 hB (by omega);go_wp2_with fail;refine bodyPost_ret (v:=wv x) (by simp[results,Tryz.results47,go_sem,r0,r1]) rfl ⟨?_,?_⟩
   ·rw[Hx.out,eZ.out,gm (Nat.le_of_eq Hl.out)]
   ·exact(aP.setCell (p:=⟨w.heap.size,0,none⟩) (nlr _) _).setCell (p:=⟨w.heap.size,1,none⟩) (nlr _) _
theorem Tryz.xm:(Tryz.prog.info? 71).map (fun i=>(i.zero,i.size,i.bytes))=some (some (.agg #[.int .i64 0,.bool false,.string ⟨#[]⟩]),3,32):=by kernel_rfl
theorem zm {w:World} {base e st:Nat} {v:Value} {n m:Nat} {xs:List Value} (h:w.ownsRow base e st v n xs) (hm:n=m):w.ownsRow base e st v m xs:=hm ▸ h
theorem qdc {w:World} {base e st:Nat} {v:Value} {n:Nat} {xs:List Value} (h:w.ownsRow base e st v n xs) {a:Addr} (ha:a.block < base) (u:Value):(w.setCell a u).ownsRow base e st v n xs:=by
 refine⟨h.1,?_⟩;rcases h.2 with hn | ⟨g,cap,cur,rfl,jW,uf,rest⟩
 ·exact .inl hn
 ·refine .inr ⟨g,cap,cur,rfl,jW,?_,rest⟩;rw[Below.heap_setCell _ _ _ _ (by omega)];exact uf
theorem qmj (v:Value) (L:List (Int×Int)) (c:Int) (n:Bool) (s:ByteArray) (S:Nat) (w:World) (h:Sl w 3 v (tv (ctm L))) (hL:Cn L) (hS:∀ p∈L,nb p.2<=S) (hs:s.size<=S) (hb:S<=1099511627774) (hlen:L.length<=1099511627776) :
  Calls Tryz.prog 113 #[v,.int .i64 c,.agg #[.bool n,.string s]] w fun e w'=>∃ r,e = .returned r/\∃ L',Ins L L' c (iv n s)/\w'.ownsRow w.heap.size 71 3 r L'.length (tv (ctm L'))/\BwQ w w':=by
 obtain⟨a,len,cap,rfl,h1,h2,h3,h4,h5⟩:=h;have aK:Sl w 3 (.slice a len cap) (tv (ctm L)):=⟨a,len,cap,rfl,h1,h2,h3,h4,h5⟩
 unfold maxLen at h2;rw[z6,qz] at h3;have hl:L.length=len:=by omega
 clear h3;rw[hl] at hlen;have Hl:=lhd hl;clear hl;have H4:=lhd h4;clear h4;have H5:=lhd h5;clear h5;have HS:=lhd hS;clear hS;go_enter Tryz.func113,Tryz.ntmps113;go_wp2;obtain⟨W,hW⟩ : ∃ W:World,W=w.alloc (.cells #[.bool n,.string s] 38):=⟨_,rfl⟩
 rw[<-hW];have b0:Bx W w.heap.size n s:=by rw[hW];exact Bx.new w _ _ _
 have hw:BwQ w W:=by rw[hW];exact bal _ _
 have hz:W.heap.size=w.heap.size+1:=by rw[hW];simp
 clear hW;go_loopw [7] (fun i wr=>∃ k:Nat,i = .int .i64 k/\k<=len/\(∀ p∈L.take k,p.1 < c)/\wr=W) (fun i _=>len - (vI i).toNat)
 case atStart=>exact⟨0,rfl,go _,by simp,rfl⟩
 case round =>
  obtain⟨k,rfl,hk,bZ,rfl⟩:=hrel;have GV:=lhd bZ;clear bZ;by_cases hlt:k < len
  ·obtain⟨ad,rfl⟩:=sadq H4.out (by omega)
   obtain⟨⟨tc,tx⟩,ht⟩ : ∃ t,L[k]? = some t:=⟨_,g8 (by rw[Hl.out];exact hlt)⟩
   obtain⟨e0,e1,e2⟩:=jd (ctm L) k ⟨tc,decide (tx < 0),mg tx⟩ (by simp[ctm,ht]);have d0:wr.cell? (ad.add (k*3))=some (.int .i64 tc):=q8 hw (H5.out ad rfl _ _ e0);have d1:wr.cell? ⟨(ad.add (k*3)).block,(ad.add (k*3)).off+1,none⟩=some (.bool (decide (tx < 0))):=by rw[qi _ _ _ (by omega)];exact q8 hw (H5.out ad rfl _ _ e1)
   have d2:wr.cell? ⟨(ad.add (k*3)).block,(ad.add (k*3)).off+2,none⟩=some (.string (mg tx)):=by rw[qi _ _ _ (by omega)];exact q8 hw (H5.out ad rfl _ _ e2)
   clear e0 e1 e2;have Ht:=lhd ht;clear ht;by_cases hc:tc < c
   ·go_wp2_with fail;go_roundw
    case measure=>simp[vI];omega
    case rel =>
     refine⟨k+1,qh (by omega),by omega,fun p hp=>?_,trivial⟩;rw[gq,Ht.out] at hp;rcases gF.1 hp with hp | hp
     ·exact GV.out p hp
     ·simp at hp;subst hp;exact hc
   ·by_cases uQ:tc=c
    ·subst uQ;have dg:=(aK.q8 hw).take (k:=k) hk;rw[q3r] at dg;go_wp2_with (at_builtin;refine qm (W:=wr) rfl _ _ 32 rfl (w.heap.size+1) 71 Tryz.xm Tryz.underlying32 rfl (by decide) (by decide) _ _ _ rfl (World.ownsRow_nil _ _ _ _) _ k (tv ((ctm L).take k)) rfl dg ?ap1 (qnh _) ?ap2 (Below.refl _ _) ?ap3 ?_)
     case ap1=>rw[z6,gd,qz,Hl.out];omega
     case ap2=>omega
     intro v1 w1 cQ dt ak;rw[show (ctm L).take k=ctm (L.take k) by simp[ctm,List.map_take]] at cQ;have kO:BwQ w w1:=hw.trans (ak.mono (by omega));obtain⟨e0,e1,e2⟩:=jd (ctm L) k ⟨tc,decide (tx < 0),mg tx⟩ (by simp[ctm,Ht.out]);have d0:w1.cell? (ad.add (k*3))=some (.int .i64 tc):=q8 kO (H5.out ad rfl _ _ e0);have d1:w1.cell? ⟨(ad.add (k*3)).block,(ad.add (k*3)).off+1,none⟩=some (.bool (decide (tx < 0))):=by rw[qi _ _ _ (by omega)];exact q8 kO (H5.out ad rfl _ _ e1)
     have d2:w1.cell? ⟨(ad.add (k*3)).block,(ad.add (k*3)).off+2,none⟩=some (.string (mg tx)):=by rw[qi _ _ _ (by omega)];exact q8 kO (H5.out ad rfl _ _ e2)
     clear e0 e1 e2;have c0:=b0.q8 ak (by omega);have ⟨p0,p1,_,_⟩:=c0;go_wp2_with fail;have XU:nb tx<=S:=HS.out _ (gh Ht.out);have SY:=qbn tx (iv n s);have SZ:=qmd n s
     go_region_with (go_at_call 33;refine(q1v _ _ _ _ _ (by rw[j5];omega) (by omega)).mono ?_;rintro e w3 ⟨rfl,aQ⟩;rw[q0i];have ar:BwQ w1 w3:=xt (aQ.mono (by simp));obtain⟨t0,t1,t2,t3⟩:=c0.q8 ar (by have:=ak.size;omega))
     all_goals
      have XV:=ak.size;have cX:=Bx.put (n:=n) (s:=s) (w:=w3) (b:=w.heap.size) ⟨t0,t1,t2,t3⟩ (decide (tx+iv n s < 0)) (mg (tx+iv n s));have eF:=((kO.trans (ar.mono (by omega))).setCell (p:=⟨w.heap.size,0,none⟩) (nlr _) (.bool (decide (tx+iv n s < 0)))).setCell (p:=⟨w.heap.size,1,none⟩) (nlr _) (.string (mg (tx+iv n s)));have o5:w.heap.size+1<=((w3.setCell ⟨w.heap.size,0,none⟩ (.bool (decide (tx+iv n s < 0)))).setCell ⟨w.heap.size,1,none⟩ (.string (mg (tx+iv n s)))).heap.size:=by have:=ar.size;simp[World.setCell];omega
      have o6:=qdc (qdc (qa cQ ar) (a:=⟨w.heap.size,0,none⟩) (Nat.lt_succ_self _) (.bool (decide (tx+iv n s < 0)))) (a:=⟨w.heap.size,1,none⟩) (Nat.lt_succ_self _) (.string (mg (tx+iv n s)));obtain⟨wX,pC⟩ : ∃ wX:World,wX=(w3.setCell ⟨w.heap.size,0,none⟩ (.bool (decide (tx+iv n s < 0)))).setCell ⟨w.heap.size,1,none⟩ (.string (mg (tx+iv n s))):=⟨_,rfl⟩
      rw[<-pC] at cX eF o5 o6 ⊢;clear pC t0 t1 t2 t3 d0 d1 d2 dg p0 p1 c0;have cY:=qk3 hL k tc (iv n s) tx GV.out Ht.out;have hk:k<=len:=by omega
      have nR:(mg (tx+iv n s)).size<=1099511627776:=by rw[j5];omega
      have nS:=lhd (q0i (tx+iv n s));by_cases cw:cap - k=1
      ·have hd0:L.drop (k+1)=[]:=List.drop_eq_nil_of_le (by rw[Hl.out];omega);have mT:∀ {w':World},BwQ w w'->Sl w' 3 (.slice (some (ad.add (k*3))) (len - k - 1) 0) (tv (ctm (L.drop (k+1)))):=fun hb=>by rw[hd0];exact⟨_,_,_,rfl,by omega,by unfold maxLen;omega,by rw[show len - k - 1=0 by omega];rfl,fun _=>rfl,fun ad _ j u hj=>by simp[tv,ctm] at hj⟩
       clear hd0;have jC:=lhd (show iv false ⟨#[]⟩=0 by simp[iv,qy]);have ⟨y0,y1,_,_⟩:=cX;go_wp2_with fail;refine(q2j _ _ _ nR).mono ?_;rintro e w4 ⟨rfl,aM⟩;rw[nS.out];have aD:Below (w.heap.size+1) wX w4:=aM.mono o5;have cD:=qa o6 aM;have qD:=mT (eF.trans (aD.mono (by omega)));have c4:=cX.q8 aM (by omega);have ⟨z0,z1,_,_⟩:=c4;clear y0 y1;by_cases aF:(tx+iv n s)=0
       ·have bX:ve (tx+iv n s)=0:=by rw[aF];rfl
        have ho:one tc (tx+iv n s)=[]:=by unfold one;rw[if_pos aF]
        have Ho:=lhd ho;clear ho aF;go_wp2_with (at_builtin;refine qm (W:=wX) rfl _ _ 32 rfl (w.heap.size+1) 71 Tryz.xm Tryz.underlying32 rfl (by decide) (by decide) _ _ _ rfl cD _ (len - (k+1)) (tv (ctm (L.drop (k+1)))) rfl qD ?tq10a (qnh _) ?tq10b aD ?tq10c ?_)
        case tq10a=>rw[z6,qz,gv,Hl.out]
        case tq10b=>omega
        case tq10c=>have:=aD.size;omega
        intro v5 w5 aZ e6 aB;go_wp2;go_ret;refine⟨_,rfl,_,cY,?_,eF.trans (aB.mono (by omega))⟩;rw[Ho.out,gH,xj,xp,gc,gd,gv,Hl.out,gX hk];exact qf (zm aZ (by first | omega | (simp only [List.length_cons,List.length_nil] <;> omega))) (Nat.le_succ _)
       ·have bX:(ve (tx+iv n s) == 0)=false:=by unfold ve;rw[if_neg aF];split <;> rfl
        have ho:one tc (tx+iv n s)=[(tc,(tx+iv n s))]:=by unfold one;rw[if_neg aF]
        have Ho:=lhd ho;clear ho aF;go_wp2_with fail;refine(q1v _ _ _ _ _ nR (by decide)).mono ?_;rintro e w5 ⟨rfl,cU⟩;rw[nS.out,jC.out,bD];have aB:Below (w.heap.size+1) wX w5:=aD.trans (cU.mono (by have:=aD.size;omega));have aZ:=qa cD cU;go_wp2_with (at_builtin;refine qo (W:=wX) rfl _ _ 32 rfl (w.heap.size+1) 71 Tryz.xm Tryz.underlying32 rfl (by decide) (by decide) _ _ _ rfl aZ [.int .i64 tc,.bool (decide ((tx+iv n s) < 0)),.string (mg (tx+iv n s))] rfl rfl ?bp1_1 ?bp1_2 aB ?bp1_3 ?_)
        case bp1_1=>intro u hu;simp at hu;rcases hu with rfl | rfl | rfl <;> rfl
        case bp1_2=>omega
        case bp1_3=>have:=aB.size;omega
        intro v6 w6 dh pD dc;have sq:=mT (eF.trans (dc.mono (by omega)));go_wp2_with (at_builtin;refine qm (W:=wX) rfl _ _ 32 rfl (w.heap.size+1) 71 Tryz.xm Tryz.underlying32 rfl (by decide) (by decide) _ _ _ rfl dh _ (len - (k+1)) (tv (ctm (L.drop (k+1)))) rfl sq ?tq11a (qnh _) ?tq11b dc ?tq11c ?_)
        case tq11a=>rw[z6,qz,gv,Hl.out]
        case tq11b=>omega
        case tq11c=>have:=dc.size;omega
        intro v7 w7 iC dD fb;go_wp2;go_ret;refine⟨_,rfl,_,cY,?_,eF.trans (fb.mono (by omega))⟩;rw[Ho.out,xj,xj,xp,xp,gc,gc,gd,gv,Hl.out,gX hk,gC,show tv (ctm [(tc,(tx+iv n s))])++tv (ctm (L.drop (k+1))) = .int .i64 tc :: .bool (decide ((tx+iv n s) < 0)) :: .string (mg (tx+iv n s)) :: tv (ctm (L.drop (k+1))) from rfl];exact qf (zm iC (by first | omega | (simp only [List.length_cons,List.length_nil] <;> omega))) (Nat.le_succ _)
      ·have fH:¬(cap - k - 1=0):=by omega
       have mT:∀ {w':World},BwQ w w'->Sl w' 3 (.slice (some ((ad.add (k*3)).add 3)) (len - k - 1) (cap - k - 1)) (tv (ctm (L.drop (k+1)))):=fun hb=>by have:=((aK.q8 hb).drop hk).drop (k:=1) (by omega);rw[q8j,q8j,List.drop_drop,ctm,<-List.map_drop] at this;exact this
       have jC:=lhd (show iv false ⟨#[]⟩=0 by simp[iv,qy]);have ⟨y0,y1,_,_⟩:=cX;go_wp2_with fail;refine(q2j _ _ _ nR).mono ?_;rintro e w4 ⟨rfl,aM⟩;rw[nS.out];have aD:Below (w.heap.size+1) wX w4:=aM.mono o5;have cD:=qa o6 aM;have qD:=mT (eF.trans (aD.mono (by omega)));have c4:=cX.q8 aM (by omega);have ⟨z0,z1,_,_⟩:=c4;clear y0 y1;by_cases aF:(tx+iv n s)=0
       ·have bX:ve (tx+iv n s)=0:=by rw[aF];rfl
        have ho:one tc (tx+iv n s)=[]:=by unfold one;rw[if_pos aF]
        have Ho:=lhd ho;clear ho aF;go_wp2_with (at_builtin;refine qm (W:=wX) rfl _ _ 32 rfl (w.heap.size+1) 71 Tryz.xm Tryz.underlying32 rfl (by decide) (by decide) _ _ _ rfl cD _ (len - (k+1)) (tv (ctm (L.drop (k+1)))) rfl qD ?tq20a (qnh _) ?tq20b aD ?tq20c ?_)
        case tq20a=>rw[z6,qz,gv,Hl.out]
        case tq20b=>omega
        case tq20c=>have:=aD.size;omega
        intro v5 w5 aZ e6 aB;go_wp2;go_ret;refine⟨_,rfl,_,cY,?_,eF.trans (aB.mono (by omega))⟩;rw[Ho.out,gH,xj,xp,gc,gd,gv,Hl.out,gX hk];exact qf (zm aZ (by first | omega | (simp only [List.length_cons,List.length_nil] <;> omega))) (Nat.le_succ _)
       ·have bX:(ve (tx+iv n s) == 0)=false:=by unfold ve;rw[if_neg aF];split <;> rfl
        have ho:one tc (tx+iv n s)=[(tc,(tx+iv n s))]:=by unfold one;rw[if_neg aF]
        have Ho:=lhd ho;clear ho aF;go_wp2_with fail;refine(q1v _ _ _ _ _ nR (by decide)).mono ?_;rintro e w5 ⟨rfl,cU⟩;rw[nS.out,jC.out,bD];have aB:Below (w.heap.size+1) wX w5:=aD.trans (cU.mono (by have:=aD.size;omega));have aZ:=qa cD cU;go_wp2_with (at_builtin;refine qo (W:=wX) rfl _ _ 32 rfl (w.heap.size+1) 71 Tryz.xm Tryz.underlying32 rfl (by decide) (by decide) _ _ _ rfl aZ [.int .i64 tc,.bool (decide ((tx+iv n s) < 0)),.string (mg (tx+iv n s))] rfl rfl ?bp2_1 ?bp2_2 aB ?bp2_3 ?_)
        case bp2_1=>intro u hu;simp at hu;rcases hu with rfl | rfl | rfl <;> rfl
        case bp2_2=>omega
        case bp2_3=>have:=aB.size;omega
        intro v6 w6 dh pD dc;have sq:=mT (eF.trans (dc.mono (by omega)));go_wp2_with (at_builtin;refine qm (W:=wX) rfl _ _ 32 rfl (w.heap.size+1) 71 Tryz.xm Tryz.underlying32 rfl (by decide) (by decide) _ _ _ rfl dh _ (len - (k+1)) (tv (ctm (L.drop (k+1)))) rfl sq ?tq21a (qnh _) ?tq21b dc ?tq21c ?_)
        case tq21a=>rw[z6,qz,gv,Hl.out]
        case tq21b=>omega
        case tq21c=>have:=dc.size;omega
        intro v7 w7 iC dD fb;go_wp2;go_ret;refine⟨_,rfl,_,cY,?_,eF.trans (fb.mono (by omega))⟩;rw[Ho.out,xj,xj,xp,xp,gc,gc,gd,gv,Hl.out,gX hk,gC,show tv (ctm [(tc,(tx+iv n s))])++tv (ctm (L.drop (k+1))) = .int .i64 tc :: .bool (decide ((tx+iv n s) < 0)) :: .string (mg (tx+iv n s)) :: tv (ctm (L.drop (k+1))) from rfl];exact qf (zm iC (by first | omega | (simp only [List.length_cons,List.length_nil] <;> omega))) (Nat.le_succ _)
    ·have iD:¬ tc < c:=hc;have XW:(tc == c)=false:=by simpa using uQ
     have NY:c < tc:=by omega
     have dg:=(aK.q8 hw).take (k:=k) hk;rw[q3r] at dg;go_wp2_with (at_builtin;refine qm (W:=wr) rfl _ _ 32 rfl (w.heap.size+1) 71 Tryz.xm Tryz.underlying32 rfl (by decide) (by decide) _ _ _ rfl (World.ownsRow_nil _ _ _ _) _ k (tv ((ctm L).take k)) rfl dg ?bq1 (qnh _) ?bq2 (Below.refl _ _) ?bq3 ?_)
     case bq1=>rw[z6,gd,qz,Hl.out];omega
     case bq2=>omega
     intro v1 w1 cQ dt ak;rw[show (ctm L).take k=ctm (L.take k) by simp[ctm,List.map_take]] at cQ;have eF:BwQ w w1:=hw.trans (ak.mono (by omega));obtain⟨e0,e1,e2⟩:=jd (ctm L) k ⟨tc,decide (tx < 0),mg tx⟩ (by simp[ctm,Ht.out]);have d0:w1.cell? (ad.add (k*3))=some (.int .i64 tc):=q8 eF (H5.out ad rfl _ _ e0);clear e0 e1 e2 uQ;have cX:=b0.q8 ak (by omega);have ⟨p0,p1,_,_⟩:=cX;have o5:w.heap.size+1<=w1.heap.size:=by have:=ak.size;omega
     have o6:=cQ;have nR:s.size<=1099511627776:=by omega
     obtain⟨z,hz⟩ : ∃ z,iv n s=z:=⟨_,rfl⟩
     have Hz:=lhd hz;have mU:=qdb hL k c (iv n s) GV.out (fun p hp=>by
      have h1:(L.drop k).Pairwise (fun p q=>p.1 < q.1):=hL.1.sublist (List.drop_sublist _ _);have hd:L.drop k=(tc,tx) :: L.drop (k+1):=by rw[bf (ge.1 Ht.out).1,(ge.1 Ht.out).2]
      rw[hd] at hp h1;rw[gE] at h1;rcases gx.1 hp with rfl | hp
      ·exact NY
      ·have:=h1.1 p hp;omega)
     have cY:Ins L (L.take k++one c z++L.drop k) c (iv n s):=by rw[<-hz];exact mU
     clear hz mU;have nS:=Hz;have mT:∀ {w':World},BwQ w w'->Sl w' 3 (.slice (some (ad.add (k*3))) (len - k) (cap - k)) (tv (ctm (L.drop k))):=fun hb=>by have:=(aK.q8 hb).drop hk;rw[q8j,ctm,<-List.map_drop] at this;exact this
     obtain⟨wX,pC⟩ : ∃ wX:World,wX=w1:=⟨_,rfl⟩
     rw[<-pC] at cX eF o5 o6 p0 p1 d0 ⊢;clear pC;have jC:=lhd (show iv false ⟨#[]⟩=0 by simp[iv,qy]);have ⟨y0,y1,_,_⟩:=cX;go_wp2_with fail;refine(q2j _ _ _ nR).mono ?_;rintro e w4 ⟨rfl,aM⟩;rw[nS.out];have aD:Below (w.heap.size+1) wX w4:=aM.mono o5;have cD:=qa o6 aM;have qD:=mT (eF.trans (aD.mono (by omega)));have c4:=cX.q8 aM (by omega);have ⟨z0,z1,_,_⟩:=c4;clear y0 y1;by_cases aF:z=0
     ·have bX:ve z=0:=by rw[aF];rfl
      have ho:one c z=[]:=by unfold one;rw[if_pos aF]
      have Ho:=lhd ho;clear ho aF;go_wp2_with (at_builtin;refine qm (W:=wX) rfl _ _ 32 rfl (w.heap.size+1) 71 Tryz.xm Tryz.underlying32 rfl (by decide) (by decide) _ _ _ rfl cD _ (len - k) (tv (ctm (L.drop k))) rfl qD ?tq30a (qnh _) ?tq30b aD ?tq30c ?_)
      case tq30a=>rw[z6,qz,gv,Hl.out]
      case tq30b=>omega
      case tq30c=>have:=aD.size;omega
      intro v5 w5 aZ e6 aB;go_wp2;go_ret;refine⟨_,rfl,_,cY,?_,eF.trans (aB.mono (by omega))⟩;rw[Ho.out,gH,xj,xp,gc,gd,gv,Hl.out,gX hk];exact qf (zm aZ (by first | omega | (simp only [List.length_cons,List.length_nil] <;> omega))) (Nat.le_succ _)
     ·have bX:(ve z == 0)=false:=by unfold ve;rw[if_neg aF];split <;> rfl
      have ho:one c z=[(c,z)]:=by unfold one;rw[if_neg aF]
      have Ho:=lhd ho;clear ho aF;go_wp2_with fail;refine(q1v _ _ _ _ _ nR (by decide)).mono ?_;rintro e w5 ⟨rfl,cU⟩;rw[nS.out,jC.out,bD];have aB:Below (w.heap.size+1) wX w5:=aD.trans (cU.mono (by have:=aD.size;omega));have aZ:=qa cD cU;go_wp2_with (at_builtin;refine qo (W:=wX) rfl _ _ 32 rfl (w.heap.size+1) 71 Tryz.xm Tryz.underlying32 rfl (by decide) (by decide) _ _ _ rfl aZ [.int .i64 c,.bool (decide (z < 0)),.string (mg z)] rfl rfl ?bp3_1 ?bp3_2 aB ?bp3_3 ?_)
      case bp3_1=>intro u hu;simp at hu;rcases hu with rfl | rfl | rfl <;> rfl
      case bp3_2=>omega
      case bp3_3=>have:=aB.size;omega
      intro v6 w6 dh pD dc;have sq:=mT (eF.trans (dc.mono (by omega)));go_wp2_with (at_builtin;refine qm (W:=wX) rfl _ _ 32 rfl (w.heap.size+1) 71 Tryz.xm Tryz.underlying32 rfl (by decide) (by decide) _ _ _ rfl dh _ (len - k) (tv (ctm (L.drop k))) rfl sq ?tq31a (qnh _) ?tq31b dc ?tq31c ?_)
      case tq31a=>rw[z6,qz,gv,Hl.out]
      case tq31b=>omega
      case tq31c=>have:=dc.size;omega
      intro v7 w7 iC dD fb;go_wp2;go_ret;refine⟨_,rfl,_,cY,?_,eF.trans (fb.mono (by omega))⟩;rw[Ho.out,xj,xj,xp,xp,gc,gc,gd,gv,Hl.out,gX hk,gC,show tv (ctm [(c,z)])++tv (ctm (L.drop k)) = .int .i64 c :: .bool (decide (z < 0)) :: .string (mg z) :: tv (ctm (L.drop k)) from rfl];exact qf (zm iC (by first | omega | (simp only [List.length_cons,List.length_nil] <;> omega))) (Nat.le_succ _)
  ·have bE:k=len:=by omega
   have eZ:=lhd bE;clear bE;obtain⟨z,hz⟩ : ∃ z,iv n s=z:=⟨_,rfl⟩
   have Hz:=lhd hz;have mU:=qdb hL k c (iv n s) GV.out (fun p hp=>by rw[List.drop_eq_nil_of_le (by rw[Hl.out];exact Nat.le_of_eq eZ.out.symm)] at hp;simp at hp);have cY:Ins L (L.take k++one c z++L.drop k) c (iv n s):=by rw[<-hz];exact mU
   clear hz mU;have bF:k=len:=eZ.out;subst bF;have hd0:L.drop k=[]:=List.drop_eq_nil_of_le (by rw[Hl.out];exact nlr _);have J4:=lhd hd0;clear hd0;cases a with
   | none =>
    have cw:=H4.out rfl;have dH:k=0:=by omega
    subst cw;have dg:=(aK.q8 hw).take (k:=k) (nlr _);rw[q3r] at dg;have J5:Sl wr 3 (.slice none 0 0) (tv ((ctm L).take k)):=by rw[dH] at dg ⊢;exact dg
    have NZ:=lhd dH;subst dH;go_wp2_with (at_builtin;refine qm (W:=wr) rfl _ _ 32 rfl (w.heap.size+1) 71 Tryz.xm Tryz.underlying32 rfl (by decide) (by decide) _ _ _ rfl (World.ownsRow_nil _ _ _ _) _ 0 (tv ((ctm L).take 0)) rfl J5 ?bs1 (qnh _) ?bs2 (Below.refl _ _) ?bs3 ?_)
    case bs1=>rfl
    intro v1 w1 cQ dt ak;have cQ:w1.ownsRow (w.heap.size+1) 71 3 v1 0 (tv (ctm (L.take 0))):=cQ;have eF:BwQ w w1:=hw.trans (ak.mono (by omega));have cX:=b0.q8 ak (by omega);have o5:w.heap.size+1<=w1.heap.size:=by have:=ak.size;omega
    have o6:=cQ;have nR:s.size<=1099511627776:=by omega
    have nS:=Hz;have mT:∀ {w':World},BwQ w w'->Sl w' 3 (.slice none 0 0) (tv (ctm (L.drop 0))):=fun hb=>by rw[J4.out];exact⟨_,_,_,rfl,by omega,by unfold maxLen;omega,rfl,fun _=>rfl,fun ad _ j u hj=>by simp[tv,ctm] at hj⟩
    obtain⟨wX,pC⟩ : ∃ wX:World,wX=w1:=⟨_,rfl⟩
    rw[<-pC] at cX eF o5 o6 ⊢;clear pC;have hk:0<=0:=nlr _;have jC:=lhd (show iv false ⟨#[]⟩=0 by simp[iv,qy]);have ⟨y0,y1,_,_⟩:=cX;go_wp2_with fail;refine(q2j _ _ _ nR).mono ?_;rintro e w4 ⟨rfl,aM⟩;rw[nS.out];have aD:Below (w.heap.size+1) wX w4:=aM.mono o5;have cD:=qa o6 aM;have qD:=mT (eF.trans (aD.mono (by omega)));have c4:=cX.q8 aM (by omega);have ⟨z0,z1,_,_⟩:=c4;clear y0 y1;by_cases aF:z=0
    ·have bX:ve z=0:=by rw[aF];rfl
     have ho:one c z=[]:=by unfold one;rw[if_pos aF]
     have Ho:=lhd ho;clear ho aF;go_wp2_with (at_builtin;refine qm (W:=wX) rfl _ _ 32 rfl (w.heap.size+1) 71 Tryz.xm Tryz.underlying32 rfl (by decide) (by decide) _ _ _ rfl cD _ (0 - 0) (tv (ctm (L.drop 0))) rfl qD ?tq40a (qnh _) ?tq40b aD ?tq40c ?_)
     case tq40a=>rw[z6,qz,gv,Hl.out]
     case tq40b=>omega
     case tq40c=>have:=aD.size;omega
     intro v5 w5 aZ e6 aB;go_wp2;go_ret;refine⟨_,rfl,_,cY,?_,eF.trans (aB.mono (by omega))⟩;rw[Ho.out,gH,xj,xp,gc,gd,gv,Hl.out,gX hk];exact qf (zm aZ (by first | omega | (simp only [List.length_cons,List.length_nil] <;> omega))) (Nat.le_succ _)
    ·have bX:(ve z == 0)=false:=by unfold ve;rw[if_neg aF];split <;> rfl
     have ho:one c z=[(c,z)]:=by unfold one;rw[if_neg aF]
     have Ho:=lhd ho;clear ho aF;go_wp2_with fail;refine(q1v _ _ _ _ _ nR (by decide)).mono ?_;rintro e w5 ⟨rfl,cU⟩;rw[nS.out,jC.out,bD];have aB:Below (w.heap.size+1) wX w5:=aD.trans (cU.mono (by have:=aD.size;omega));have aZ:=qa cD cU;go_wp2_with (at_builtin;refine qo (W:=wX) rfl _ _ 32 rfl (w.heap.size+1) 71 Tryz.xm Tryz.underlying32 rfl (by decide) (by decide) _ _ _ rfl aZ [.int .i64 c,.bool (decide (z < 0)),.string (mg z)] rfl rfl ?bp4_1 ?bp4_2 aB ?bp4_3 ?_)
     case bp4_1=>intro u hu;simp at hu;rcases hu with rfl | rfl | rfl <;> rfl
     case bp4_2=>omega
     case bp4_3=>have:=aB.size;omega
     intro v6 w6 dh pD dc;have sq:=mT (eF.trans (dc.mono (by omega)));go_wp2_with (at_builtin;refine qm (W:=wX) rfl _ _ 32 rfl (w.heap.size+1) 71 Tryz.xm Tryz.underlying32 rfl (by decide) (by decide) _ _ _ rfl dh _ (0 - 0) (tv (ctm (L.drop 0))) rfl sq ?tq41a (qnh _) ?tq41b dc ?tq41c ?_)
     case tq41a=>rw[z6,qz,gv,Hl.out]
     case tq41b=>omega
     case tq41c=>have:=dc.size;omega
     intro v7 w7 iC dD fb;go_wp2;go_ret;refine⟨_,rfl,_,cY,?_,eF.trans (fb.mono (by omega))⟩;rw[Ho.out,xj,xj,xp,xp,gc,gc,gd,gv,Hl.out,gX hk,gC,show tv (ctm [(c,z)])++tv (ctm (L.drop 0)) = .int .i64 c :: .bool (decide (z < 0)) :: .string (mg z) :: tv (ctm (L.drop 0)) from rfl];exact qf (zm iC (by first | omega | (simp only [List.length_cons,List.length_nil] <;> omega))) (Nat.le_succ _)
   | some ad =>
    have dg:=(aK.q8 hw).take (k:=k) (nlr _);rw[q3r] at dg;by_cases cw:cap - k=0
    ·go_wp2_with (at_builtin;refine qm (W:=wr) rfl _ _ 32 rfl (w.heap.size+1) 71 Tryz.xm Tryz.underlying32 rfl (by decide) (by decide) _ _ _ rfl (World.ownsRow_nil _ _ _ _) _ k (tv ((ctm L).take k)) rfl dg ?br1 (qnh _) ?br2 (Below.refl _ _) ?br3 ?_)
     case br1=>rw[z6,gd,qz,Hl.out];omega
     case br2=>omega
     intro v1 w1 cQ dt ak;rw[show (ctm L).take k=ctm (L.take k) by simp[ctm,List.map_take]] at cQ;have eF:BwQ w w1:=hw.trans (ak.mono (by omega));have cX:=b0.q8 ak (by omega);have o5:w.heap.size+1<=w1.heap.size:=by have:=ak.size;omega
     have o6:=cQ;have nR:s.size<=1099511627776:=by omega
     have nS:=Hz;have mT:∀ {w':World},BwQ w w'->Sl w' 3 (.slice (some ad) 0 0) (tv (ctm (L.drop k))):=fun hb=>by rw[J4.out];exact⟨_,_,_,rfl,by omega,by unfold maxLen;omega,rfl,(fun e=>by cases e),fun ad _ j u hj=>by simp[tv,ctm] at hj⟩
     obtain⟨wX,pC⟩ : ∃ wX:World,wX=w1:=⟨_,rfl⟩
     rw[<-pC] at cX eF o5 o6 ⊢;clear pC;have hk:k<=k:=nlr _;have jC:=lhd (show iv false ⟨#[]⟩=0 by simp[iv,qy]);have ⟨y0,y1,_,_⟩:=cX;go_wp2_with fail;refine(q2j _ _ _ nR).mono ?_;rintro e w4 ⟨rfl,aM⟩;rw[nS.out];have aD:Below (w.heap.size+1) wX w4:=aM.mono o5;have cD:=qa o6 aM;have qD:=mT (eF.trans (aD.mono (by omega)));have c4:=cX.q8 aM (by omega);have ⟨z0,z1,_,_⟩:=c4;clear y0 y1;by_cases aF:z=0
     ·have bX:ve z=0:=by rw[aF];rfl
      have ho:one c z=[]:=by unfold one;rw[if_pos aF]
      have Ho:=lhd ho;clear ho aF;go_wp2_with (at_builtin;refine qm (W:=wX) rfl _ _ 32 rfl (w.heap.size+1) 71 Tryz.xm Tryz.underlying32 rfl (by decide) (by decide) _ _ _ rfl cD _ (k - k) (tv (ctm (L.drop k))) rfl qD ?tq50a (qnh _) ?tq50b aD ?tq50c ?_)
      case tq50a=>rw[z6,qz,gv,Hl.out]
      case tq50b=>omega
      case tq50c=>have:=aD.size;omega
      intro v5 w5 aZ e6 aB;go_wp2;go_ret;refine⟨_,rfl,_,cY,?_,eF.trans (aB.mono (by omega))⟩;rw[Ho.out,gH,xj,xp,gc,gd,gv,Hl.out,gX hk];exact qf (zm aZ (by first | omega | (simp only [List.length_cons,List.length_nil] <;> omega))) (Nat.le_succ _)
     ·have bX:(ve z == 0)=false:=by unfold ve;rw[if_neg aF];split <;> rfl
      have ho:one c z=[(c,z)]:=by unfold one;rw[if_neg aF]
      have Ho:=lhd ho;clear ho aF;go_wp2_with fail;refine(q1v _ _ _ _ _ nR (by decide)).mono ?_;rintro e w5 ⟨rfl,cU⟩;rw[nS.out,jC.out,bD];have aB:Below (w.heap.size+1) wX w5:=aD.trans (cU.mono (by have:=aD.size;omega));have aZ:=qa cD cU;go_wp2_with (at_builtin;refine qo (W:=wX) rfl _ _ 32 rfl (w.heap.size+1) 71 Tryz.xm Tryz.underlying32 rfl (by decide) (by decide) _ _ _ rfl aZ [.int .i64 c,.bool (decide (z < 0)),.string (mg z)] rfl rfl ?bp5_1 ?bp5_2 aB ?bp5_3 ?_)
      case bp5_1=>intro u hu;simp at hu;rcases hu with rfl | rfl | rfl <;> rfl
      case bp5_2=>omega
      case bp5_3=>have:=aB.size;omega
      intro v6 w6 dh pD dc;have sq:=mT (eF.trans (dc.mono (by omega)));go_wp2_with (at_builtin;refine qm (W:=wX) rfl _ _ 32 rfl (w.heap.size+1) 71 Tryz.xm Tryz.underlying32 rfl (by decide) (by decide) _ _ _ rfl dh _ (k - k) (tv (ctm (L.drop k))) rfl sq ?tq51a (qnh _) ?tq51b dc ?tq51c ?_)
      case tq51a=>rw[z6,qz,gv,Hl.out]
      case tq51b=>omega
      case tq51c=>have:=dc.size;omega
      intro v7 w7 iC dD fb;go_wp2;go_ret;refine⟨_,rfl,_,cY,?_,eF.trans (fb.mono (by omega))⟩;rw[Ho.out,xj,xj,xp,xp,gc,gc,gd,gv,Hl.out,gX hk,gC,show tv (ctm [(c,z)])++tv (ctm (L.drop k)) = .int .i64 c :: .bool (decide (z < 0)) :: .string (mg z) :: tv (ctm (L.drop k)) from rfl];exact qf (zm iC (by first | omega | (simp only [List.length_cons,List.length_nil] <;> omega))) (Nat.le_succ _)
    ·go_wp2_with (at_builtin;refine qm (W:=wr) rfl _ _ 32 rfl (w.heap.size+1) 71 Tryz.xm Tryz.underlying32 rfl (by decide) (by decide) _ _ _ rfl (World.ownsRow_nil _ _ _ _) _ k (tv ((ctm L).take k)) rfl dg ?bt1 (qnh _) ?bt2 (Below.refl _ _) ?bt3 ?_)
     case bt1=>rw[z6,gd,qz,Hl.out];omega
     case bt2=>omega
     intro v1 w1 cQ dt ak;rw[show (ctm L).take k=ctm (L.take k) by simp[ctm,List.map_take]] at cQ;have eF:BwQ w w1:=hw.trans (ak.mono (by omega));have cX:=b0.q8 ak (by omega);have o5:w.heap.size+1<=w1.heap.size:=by have:=ak.size;omega
     have o6:=cQ;have nR:s.size<=1099511627776:=by omega
     have nS:=Hz;have mT:∀ {w':World},BwQ w w'->Sl w' 3 (.slice (some (ad.add (k*3))) 0 (cap - k)) (tv (ctm (L.drop k))):=fun hb=>by rw[J4.out];exact⟨_,_,_,rfl,by omega,by unfold maxLen;omega,rfl,(fun e=>by cases e),fun ad _ j u hj=>by simp[tv,ctm] at hj⟩
     obtain⟨wX,pC⟩ : ∃ wX:World,wX=w1:=⟨_,rfl⟩
     rw[<-pC] at cX eF o5 o6 ⊢;clear pC;have hk:k<=k:=nlr _;have jC:=lhd (show iv false ⟨#[]⟩=0 by simp[iv,qy]);have ⟨y0,y1,_,_⟩:=cX;go_wp2_with fail;refine(q2j _ _ _ nR).mono ?_;rintro e w4 ⟨rfl,aM⟩;rw[nS.out];have aD:Below (w.heap.size+1) wX w4:=aM.mono o5;have cD:=qa o6 aM;have qD:=mT (eF.trans (aD.mono (by omega)));have c4:=cX.q8 aM (by omega);have ⟨z0,z1,_,_⟩:=c4;clear y0 y1;by_cases aF:z=0
     ·have bX:ve z=0:=by rw[aF];rfl
      have ho:one c z=[]:=by unfold one;rw[if_pos aF]
      have Ho:=lhd ho;clear ho aF;go_wp2_with (at_builtin;refine qm (W:=wX) rfl _ _ 32 rfl (w.heap.size+1) 71 Tryz.xm Tryz.underlying32 rfl (by decide) (by decide) _ _ _ rfl cD _ (k - k) (tv (ctm (L.drop k))) rfl qD ?tq60a (qnh _) ?tq60b aD ?tq60c ?_)
      case tq60a=>rw[z6,qz,gv,Hl.out]
      case tq60b=>omega
      case tq60c=>have:=aD.size;omega
      intro v5 w5 aZ e6 aB;go_wp2;go_ret;refine⟨_,rfl,_,cY,?_,eF.trans (aB.mono (by omega))⟩;rw[Ho.out,gH,xj,xp,gc,gd,gv,Hl.out,gX hk];exact qf (zm aZ (by first | omega | (simp only [List.length_cons,List.length_nil] <;> omega))) (Nat.le_succ _)
     ·have bX:(ve z == 0)=false:=by unfold ve;rw[if_neg aF];split <;> rfl
      have ho:one c z=[(c,z)]:=by unfold one;rw[if_neg aF]
      have Ho:=lhd ho;clear ho aF;go_wp2_with fail;refine(q1v _ _ _ _ _ nR (by decide)).mono ?_;rintro e w5 ⟨rfl,cU⟩;rw[nS.out,jC.out,bD];have aB:Below (w.heap.size+1) wX w5:=aD.trans (cU.mono (by have:=aD.size;omega));have aZ:=qa cD cU;go_wp2_with (at_builtin;refine qo (W:=wX) rfl _ _ 32 rfl (w.heap.size+1) 71 Tryz.xm Tryz.underlying32 rfl (by decide) (by decide) _ _ _ rfl aZ [.int .i64 c,.bool (decide (z < 0)),.string (mg z)] rfl rfl ?bp6_1 ?bp6_2 aB ?bp6_3 ?_)
      case bp6_1=>intro u hu;simp at hu;rcases hu with rfl | rfl | rfl <;> rfl
      case bp6_2=>omega
      case bp6_3=>have:=aB.size;omega
      intro v6 w6 dh pD dc;have sq:=mT (eF.trans (dc.mono (by omega)));go_wp2_with (at_builtin;refine qm (W:=wX) rfl _ _ 32 rfl (w.heap.size+1) 71 Tryz.xm Tryz.underlying32 rfl (by decide) (by decide) _ _ _ rfl dh _ (k - k) (tv (ctm (L.drop k))) rfl sq ?tq61a (qnh _) ?tq61b dc ?tq61c ?_)
      case tq61a=>rw[z6,qz,gv,Hl.out]
      case tq61b=>omega
      case tq61c=>have:=dc.size;omega
      intro v7 w7 iC dD fb;go_wp2;go_ret;refine⟨_,rfl,_,cY,?_,eF.trans (fb.mono (by omega))⟩;rw[Ho.out,xj,xj,xp,xp,gc,gc,gd,gv,Hl.out,gX hk,gC,show tv (ctm [(c,z)])++tv (ctm (L.drop k)) = .int .i64 c :: .bool (decide (z < 0)) :: .string (mg z) :: tv (ctm (L.drop k)) from rfl];exact qf (zm iC (by first | omega | (simp only [List.length_cons,List.length_nil] <;> omega))) (Nat.le_succ _)
end Go.Proofs.YtlhicnfeajejhaaGreatDoor
