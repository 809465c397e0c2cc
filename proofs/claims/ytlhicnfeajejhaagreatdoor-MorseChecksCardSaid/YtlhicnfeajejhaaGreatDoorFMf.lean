/- Steps towards MorseChecks. Conditions: none. -/
import Derived.Test.YtlhicnfeajejhaaGreatDoorFMe
set_option maxRecDepth 1000000
set_option maxHeartbeats 16000000
namespace Go.Proofs.YtlhicnfeajejhaaGreatDoor
open Go.RowKit Go.Cx
attribute [local go_sem ↓] Go.wp_at_zero Go.wp_at_succ
theorem Bx.put {w:World} {b:Nat} {n:Bool} {s:ByteArray} (h:Bx w b n s) (n':Bool) (s':ByteArray):Bx ((w.setCell ⟨b,0,none⟩ (.bool n')).setCell ⟨b,1,none⟩ (.string s')) b n' s':=by
 obtain⟨h0,h1,h2,h3⟩:=h;refine⟨?_,?_,by simpa [World.frozen?_setCell] using h2,by simpa [World.frozen?_setCell] using h3⟩
 ·rw[World.cell?_setCell_other _ ⟨b,1,none⟩ ⟨b,0,none⟩ _ (by simp)];exact World.cell?_setCell_same' _ _ _ (by rw[h0];rfl)
 ·exact World.cell?_setCell_same' _ _ _ (by rw[World.cell?_setCell_other _ ⟨b,0,none⟩ ⟨b,1,none⟩ _ (by simp),h1];rfl)
theorem Tryz.xm:(Tryz.prog.info? 71).map (fun i=>(i.zero,i.size,i.bytes))=some (some (.agg #[.int .i64 0,.bool false,.string ⟨#[]⟩]),3,32):=by kernel_rfl
theorem zm {w:World} {base e st:Nat} {v:Value} {n m:Nat} {xs:List Value} (h:w.ownsRow base e st v n xs) (hm:n=m):w.ownsRow base e st v m xs:=hm ▸ h
end Go.Proofs.YtlhicnfeajejhaaGreatDoor
