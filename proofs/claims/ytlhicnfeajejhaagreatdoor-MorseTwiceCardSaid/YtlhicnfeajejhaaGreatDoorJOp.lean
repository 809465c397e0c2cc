/- Calls by kinds: Made; pairs of chains; len. cocyclelaw07.ChainsTwice. Written by gen_twi.py out of LaT.src. -/
import Derived.Test.YtlhicnfeajejhaaGreatDoorJOn
import Derived.Test.YtlhicnfeajejhaaGreatDoorJOo
set_option maxRecDepth 1000000
set_option maxHeartbeats 16000000
namespace Go.Proofs.YtlhicnfeajejhaaGreatDoor
open Go.RowKit Go.Cx
end Go.Proofs.YtlhicnfeajejhaaGreatDoor
namespace Go.Proofs.YtlhicnfeajejhaaGreatDoor
open Go.RowKit Go.Cx
attribute [local go_sem ↓] Go.wp_at_zero Go.wp_at_succ
theorem qrt (l:List Int):∀ s∈(l.take 12).map q11,s.length<=4:=fun s hs=>by
 obtain⟨n,_,rfl⟩:=List.mem_map.1 hs;exact(q5d n).1
end Go.Proofs.YtlhicnfeajejhaaGreatDoor
