/- cocycleref13.Match. Conditions: none. cocyclelaw13.MorseMatch. Conditions: none. -/
import Derived.Test.YtlhicnfeajejhaaGreatDoorJQs
set_option maxRecDepth 1000000
set_option maxHeartbeats 16000000
namespace Go.Cx
open Go.Proofs.YtlhicnfeajejhaaGreatDoor
section
variable {K:List Cl}
end
section
open Go.RowKit
variable {P:Program} {Q:Exit->Act->World->Prop} {o:Oper} {a:Act}
end
end Go.Cx
namespace Go.Proofs.YtlhicnfeajejhaaGreatDoor
open Go.RowKit Go.Cx
attribute [local go_sem ↓] Go.wp_at_zero Go.wp_at_succ
theorem qjn {w w':World} {st g n c:Nat} {xs:List Value} {row:Option Nat} (h:Sl w st (.slice (some ⟨g,0,none⟩) n c) xs) (hg:w.grownBy w' row) (hne:row≠some g):Sl w' st (.slice (some ⟨g,0,none⟩) n c) xs:=by
 obtain⟨h1,h2,h3,h4,h5⟩:=h.open;refine⟨_,n,c,rfl,h1,h2,h3,(fun e=>by cases e),fun ad ha j u hj=>?_⟩;obtain rfl:=osi ha;have:=h5 ⟨g,0,none⟩ rfl j u hj;rw[Addr.add_lit] at this ⊢;exact ql hg this fun k hk e=>hne (by rw[hk];exact congrArg some e.symm)
end Go.Proofs.YtlhicnfeajejhaaGreatDoor
namespace Go.Cx
open Go.Proofs.YtlhicnfeajejhaaGreatDoor
end Go.Cx
namespace Go.Proofs.YtlhicnfeajejhaaGreatDoor
open Go.RowKit Go.Cx
attribute [local go_sem ↓] Go.wp_at_zero Go.wp_at_succ
end Go.Proofs.YtlhicnfeajejhaaGreatDoor
