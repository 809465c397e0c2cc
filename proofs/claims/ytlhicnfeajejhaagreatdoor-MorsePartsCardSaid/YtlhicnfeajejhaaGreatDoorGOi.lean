/- Steps towards MorseParts. Conditions: none. -/
import Derived.Test.YtlhicnfeajejhaaGreatDoorGOh
set_option maxRecDepth 1000000
set_option maxHeartbeats 16000000
namespace Go.Proofs.YtlhicnfeajejhaaGreatDoor
open Go.RowKit Go.Cx
theorem qko {f g:Int->Int} {N S N' S':Nat} {v:Value} {w:World} (h:(Fk.cf f N S).holds v w) (he:∀ c,f c=g c) (hN:N<=N') (hS:S<=S'):(Fk.cf g N' S').holds v w:=by obtain⟨L,h1,h2,h3,h4,h5⟩:=h;exact⟨L,h1,fun c=>(h2 c).trans (he c),gl h3 hN,h4.mono hS,h5⟩
end Go.Proofs.YtlhicnfeajejhaaGreatDoor
