import Derived.Test.YteakajbedjdggaaGreatDoorGaDC
/-
  Calls on the examples of the law, found once: each is run by the kernel on a small memory of its own.
-/
set_option maxRecDepth 1000000
noncomputable section
namespace Go.Proofs.YteakajbedjdggaaGreatDoor
open Go Go.RowKit Go.Sx
theorem t3 : andB [Pk.all l81_19 P0 H_167 4000 81] = true := by kernel_rfl
theorem s81_19 (h : HO P0 H_167) : Snd P0 81 (Pk.any l81_19) := Pk.allSnd h (andB_ok t3 0 _ rfl)
theorem t28 : andB [Pk.all l97_26 P0 H_125 4000 97] = true := by kernel_rfl
theorem s97_26 (h : HO P0 H_125) : Snd P0 97 (Pk.any l97_26) := Pk.allSnd h (andB_ok t28 0 _ rfl)
theorem t44 : andB [Pk.all l97_17 P0 H_125 4000 97] = true := by kernel_rfl
theorem s97_17 (h : HO P0 H_125) : Snd P0 97 (Pk.any l97_17) := Pk.allSnd h (andB_ok t44 0 _ rfl)
theorem t60 : andB [Pc.all l166_49 P0 H_286 4000 166, Pc.all l166_50 P0 H_286 4000 166] = true := by kernel_rfl
theorem s166_49 (h : HO P0 H_286) : Snd P0 166 (Pc.any l166_49) := Pc.allSnd h (andB_ok t60 0 _ rfl)
theorem s166_50 (h : HO P0 H_286) : Snd P0 166 (Pc.any l166_50) := Pc.allSnd h (andB_ok t60 1 _ rfl)
theorem t76 : andB [Pk.all l167_7 P0 H_166 4000 167, Pk.all l167_8 P0 H_166 4000 167] = true := by kernel_rfl
theorem s167_7 (h : HO P0 H_166) : Snd P0 167 (Pk.any l167_7) := Pk.allSnd h (andB_ok t76 0 _ rfl)
theorem s167_8 (h : HO P0 H_166) : Snd P0 167 (Pk.any l167_8) := Pk.allSnd h (andB_ok t76 1 _ rfl)
theorem t92 : andB [Pk.all l97_6 P0 H_125 4000 97] = true := by kernel_rfl
theorem s97_6 (h : HO P0 H_125) : Snd P0 97 (Pk.any l97_6) := Pk.allSnd h (andB_ok t92 0 _ rfl)
theorem t108 : andB [Pc.all l166_116 P0 H_286 4000 166, Pc.all l166_117 P0 H_286 4000 166] = true := by kernel_rfl
theorem s166_116 (h : HO P0 H_286) : Snd P0 166 (Pc.any l166_116) := Pc.allSnd h (andB_ok t108 0 _ rfl)
theorem s166_117 (h : HO P0 H_286) : Snd P0 166 (Pc.any l166_117) := Pc.allSnd h (andB_ok t108 1 _ rfl)
theorem t124 : andB [Pk.all l125_9 P0 H_124 4000 125, Pk.all l125_10 P0 H_124 4000 125] = true := by kernel_rfl
theorem s125_9 (h : HO P0 H_124) : Snd P0 125 (Pk.any l125_9) := Pk.allSnd h (andB_ok t124 0 _ rfl)
theorem s125_10 (h : HO P0 H_124) : Snd P0 125 (Pk.any l125_10) := Pk.allSnd h (andB_ok t124 1 _ rfl)
theorem t140 : andB [Pc.all l166_51 P0 H_286 4000 166, Pc.all l166_52 P0 H_286 4000 166] = true := by kernel_rfl
theorem s166_51 (h : HO P0 H_286) : Snd P0 166 (Pc.any l166_51) := Pc.allSnd h (andB_ok t140 0 _ rfl)
theorem s166_52 (h : HO P0 H_286) : Snd P0 166 (Pc.any l166_52) := Pc.allSnd h (andB_ok t140 1 _ rfl)
theorem t156 : andB [Pk.all l167_3 P0 H_166 4000 167, Pk.all l167_4 P0 H_166 4000 167] = true := by kernel_rfl
theorem s167_3 (h : HO P0 H_166) : Snd P0 167 (Pk.any l167_3) := Pk.allSnd h (andB_ok t156 0 _ rfl)
theorem s167_4 (h : HO P0 H_166) : Snd P0 167 (Pk.any l167_4) := Pk.allSnd h (andB_ok t156 1 _ rfl)
theorem t172 : andB [Pk.all l66_12 P0 H_217 4000 66, Pk.all l66_13 P0 H_217 4000 66] = true := by kernel_rfl
theorem s66_12 (h : HO P0 H_217) : Snd P0 66 (Pk.any l66_12) := Pk.allSnd h (andB_ok t172 0 _ rfl)
theorem s66_13 (h : HO P0 H_217) : Snd P0 66 (Pk.any l66_13) := Pk.allSnd h (andB_ok t172 1 _ rfl)
theorem t188 : andB [Pc.allN l161_7 P0 H_54 4000 161] = true := by kernel_rfl
theorem s161_7 (h : HO P0 H_54) : Snd P0 161 (Pc.any l161_7) := Pc.allSndN h (andB_ok t188 0 _ rfl)
theorem t204 : andB [Pc.all l166_4 P0 H_286 4000 166, Pk.all l166_5 P0 H_286 4000 166, Pc.all l166_6 P0 H_286 4000 166] = true := by kernel_rfl
theorem s166_4 (h : HO P0 H_286) : Snd P0 166 (Pc.any l166_4) := Pc.allSnd h (andB_ok t204 0 _ rfl)
theorem s166_5 (h : HO P0 H_286) : Snd P0 166 (Pk.any l166_5) := Pk.allSnd h (andB_ok t204 1 _ rfl)
theorem s166_6 (h : HO P0 H_286) : Snd P0 166 (Pc.any l166_6) := Pc.allSnd h (andB_ok t204 2 _ rfl)
theorem t220 : andB [Pc.all l166_46 P0 H_286 4000 166] = true := by kernel_rfl
theorem s166_46 (h : HO P0 H_286) : Snd P0 166 (Pc.any l166_46) := Pc.allSnd h (andB_ok t220 0 _ rfl)
theorem t224 : andB [Pk.all l26_2 P0 H_156 4000 26] = true := by kernel_rfl
theorem s26_2 (h : HO P0 H_156) : Snd P0 26 (Pk.any l26_2) := Pk.allSnd h (andB_ok t224 0 _ rfl)
end Go.Proofs.YteakajbedjdggaaGreatDoor
