import Derived.Test.YteakajbedjdggaaGreatDoorGaDC
/-
  Calls on the examples of the law, found once: each is run by the kernel on a small memory of its own.
-/
set_option maxRecDepth 1000000
noncomputable section
namespace Go.Proofs.YteakajbedjdggaaGreatDoor
open Go Go.RowKit Go.Sx
theorem t11 : andB [Pk.all l81_10 P0 H_167 4000 81] = true := by kernel_rfl
theorem s81_10 (h : HO P0 H_167) : Snd P0 81 (Pk.any l81_10) := Pk.allSnd h (andB_ok t11 0 _ rfl)
theorem t20 : andB [Pk.all l125_20 P0 H_124 4000 125, Pk.all l125_21 P0 H_124 4000 125, Pk.all l125_22 P0 H_124 4000 125] = true := by kernel_rfl
theorem s125_20 (h : HO P0 H_124) : Snd P0 125 (Pk.any l125_20) := Pk.allSnd h (andB_ok t20 0 _ rfl)
theorem s125_21 (h : HO P0 H_124) : Snd P0 125 (Pk.any l125_21) := Pk.allSnd h (andB_ok t20 1 _ rfl)
theorem s125_22 (h : HO P0 H_124) : Snd P0 125 (Pk.any l125_22) := Pk.allSnd h (andB_ok t20 2 _ rfl)
theorem t36 : andB [Pk.all l121_11 P0 H_202 4000 121, Pk.all l121_12 P0 H_202 4000 121] = true := by kernel_rfl
theorem s121_11 (h : HO P0 H_202) : Snd P0 121 (Pk.any l121_11) := Pk.allSnd h (andB_ok t36 0 _ rfl)
theorem s121_12 (h : HO P0 H_202) : Snd P0 121 (Pk.any l121_12) := Pk.allSnd h (andB_ok t36 1 _ rfl)
theorem t52 : andB [Pk.all l99_0 P0 H_97 4000 99, Pk.all l99_1 P0 H_97 4000 99] = true := by kernel_rfl
theorem s99_0 (h : HO P0 H_97) : Snd P0 99 (Pk.any l99_0) := Pk.allSnd h (andB_ok t52 0 _ rfl)
theorem s99_1 (h : HO P0 H_97) : Snd P0 99 (Pk.any l99_1) := Pk.allSnd h (andB_ok t52 1 _ rfl)
theorem t68 : andB [Pk.all l66_23 P0 H_217 4000 66, Pk.all l66_24 P0 H_217 4000 66] = true := by kernel_rfl
theorem s66_23 (h : HO P0 H_217) : Snd P0 66 (Pk.any l66_23) := Pk.allSnd h (andB_ok t68 0 _ rfl)
theorem s66_24 (h : HO P0 H_217) : Snd P0 66 (Pk.any l66_24) := Pk.allSnd h (andB_ok t68 1 _ rfl)
theorem t84 : andB [Pc.all l124_33 P0 H_205 4000 124, Pc.all l124_34 P0 H_205 4000 124] = true := by kernel_rfl
theorem s124_33 (h : HO P0 H_205) : Snd P0 124 (Pc.any l124_33) := Pc.allSnd h (andB_ok t84 0 _ rfl)
theorem s124_34 (h : HO P0 H_205) : Snd P0 124 (Pc.any l124_34) := Pc.allSnd h (andB_ok t84 1 _ rfl)
theorem t100 : andB [Pk.all l81_28 P0 H_167 4000 81, Pk.all l81_29 P0 H_167 4000 81, Pk.all l84_0 P0 H_81 4000 84, Pk.all l217_0 P0 H_84 4000 217] = true := by kernel_rfl
theorem s81_28 (h : HO P0 H_167) : Snd P0 81 (Pk.any l81_28) := Pk.allSnd h (andB_ok t100 0 _ rfl)
theorem s81_29 (h : HO P0 H_167) : Snd P0 81 (Pk.any l81_29) := Pk.allSnd h (andB_ok t100 1 _ rfl)
theorem s84_0 (h : HO P0 H_81) : Snd P0 84 (Pk.any l84_0) := Pk.allSnd h (andB_ok t100 2 _ rfl)
theorem s217_0 (h : HO P0 H_84) : Snd P0 217 (Pk.any l217_0) := Pk.allSnd h (andB_ok t100 3 _ rfl)
theorem t114 : andB [Pc.all l166_64 P0 H_286 4000 166, Pc.all l166_65 P0 H_286 4000 166] = true := by kernel_rfl
theorem s166_64 (h : HO P0 H_286) : Snd P0 166 (Pc.any l166_64) := Pc.allSnd h (andB_ok t114 0 _ rfl)
theorem s166_65 (h : HO P0 H_286) : Snd P0 166 (Pc.any l166_65) := Pc.allSnd h (andB_ok t114 1 _ rfl)
theorem t132 : andB [Pc.all l166_93 P0 H_286 4000 166, Pc.all l166_94 P0 H_286 4000 166, Pk.all l166_95 P0 H_286 4000 166] = true := by kernel_rfl
theorem s166_93 (h : HO P0 H_286) : Snd P0 166 (Pc.any l166_93) := Pc.allSnd h (andB_ok t132 0 _ rfl)
theorem s166_94 (h : HO P0 H_286) : Snd P0 166 (Pc.any l166_94) := Pc.allSnd h (andB_ok t132 1 _ rfl)
theorem s166_95 (h : HO P0 H_286) : Snd P0 166 (Pk.any l166_95) := Pk.allSnd h (andB_ok t132 2 _ rfl)
theorem t144 : andB [Pk.all l81_23 P0 H_167 4000 81, Pk.all l81_24 P0 H_167 4000 81, Pk.all l81_25 P0 H_167 4000 81] = true := by kernel_rfl
theorem s81_23 (h : HO P0 H_167) : Snd P0 81 (Pk.any l81_23) := Pk.allSnd h (andB_ok t144 0 _ rfl)
theorem s81_24 (h : HO P0 H_167) : Snd P0 81 (Pk.any l81_24) := Pk.allSnd h (andB_ok t144 1 _ rfl)
theorem s81_25 (h : HO P0 H_167) : Snd P0 81 (Pk.any l81_25) := Pk.allSnd h (andB_ok t144 2 _ rfl)
theorem t167 : andB [Pk.all l286_0 P0 H_285 4000 286, Pk.all l286_1 P0 H_285 4000 286, Pc.all l166_0 P0 H_286 4000 166, Pk.all l166_1 P0 H_286 4000 166] = true := by kernel_rfl
theorem s286_0 (h : HO P0 H_285) : Snd P0 286 (Pk.any l286_0) := Pk.allSnd h (andB_ok t167 0 _ rfl)
theorem s286_1 (h : HO P0 H_285) : Snd P0 286 (Pk.any l286_1) := Pk.allSnd h (andB_ok t167 1 _ rfl)
theorem s166_0 (h : HO P0 H_286) : Snd P0 166 (Pc.any l166_0) := Pc.allSnd h (andB_ok t167 2 _ rfl)
theorem s166_1 (h : HO P0 H_286) : Snd P0 166 (Pk.any l166_1) := Pk.allSnd h (andB_ok t167 3 _ rfl)
theorem t179 : andB [Pc.all l166_17 P0 H_286 4000 166] = true := by kernel_rfl
theorem s166_17 (h : HO P0 H_286) : Snd P0 166 (Pc.any l166_17) := Pc.allSnd h (andB_ok t179 0 _ rfl)
theorem t195 : andB [Pc.all l166_21 P0 H_286 4000 166] = true := by kernel_rfl
theorem s166_21 (h : HO P0 H_286) : Snd P0 166 (Pc.any l166_21) := Pc.allSnd h (andB_ok t195 0 _ rfl)
theorem t215 : andB [Pk.all l97_16 P0 H_125 4000 97] = true := by kernel_rfl
theorem s97_16 (h : HO P0 H_125) : Snd P0 97 (Pk.any l97_16) := Pk.allSnd h (andB_ok t215 0 _ rfl)
end Go.Proofs.YteakajbedjdggaaGreatDoor
