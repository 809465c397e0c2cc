import Derived.Test.YteakajbedjdggaaGreatDoorWhDB
/-
  Calls on the examples of the law, found once: each is run by the kernel on a small memory of its own.
-/
set_option maxRecDepth 1000000
noncomputable section
namespace Go.Proofs.YteakajbedjdggaaGreatDoor
open Go Go.RowKit Go.Sx
theorem t8 : andB [Pc.all l166_125 P0 H_286 4000 166] = true := by kernel_rfl
theorem s166_125 (h : HO P0 H_286) : Snd P0 166 (Pc.any l166_125) := Pc.allSnd h (andB_ok t8 0 _ rfl)
theorem t15 : andB [Pc.allN l161_0 P0 H_88 4000 161, Pc.allN l161_1 P0 H_88 4000 161] = true := by kernel_rfl
theorem s161_0 (h : HO P0 H_88) : Snd P0 161 (Pc.any l161_0) := Pc.allSndN h (andB_ok t15 0 _ rfl)
theorem s161_1 (h : HO P0 H_88) : Snd P0 161 (Pc.any l161_1) := Pc.allSndN h (andB_ok t15 1 _ rfl)
theorem t27 : andB [Pc.all l124_4 P0 H_205 4000 124, Pc.all l124_5 P0 H_205 4000 124] = true := by kernel_rfl
theorem s124_4 (h : HO P0 H_205) : Snd P0 124 (Pc.any l124_4) := Pc.allSnd h (andB_ok t27 0 _ rfl)
theorem s124_5 (h : HO P0 H_205) : Snd P0 124 (Pc.any l124_5) := Pc.allSnd h (andB_ok t27 1 _ rfl)
theorem t39 : andB [Pk.all l311_0 P0 H_0 4000 311, Pc.all l311_1 P0 H_0 4000 311, Pk.all l311_2 P0 H_0 4000 311, Pc.all l311_3 P0 H_0 4000 311, Pk.all l311_4 P0 H_0 4000 311, Pc.all l311_5 P0 H_0 4000 311, Pk.all l311_6 P0 H_0 4000 311, Pc.all l311_7 P0 H_0 4000 311, Pk.all l110_0 P0 H_311 4000 110, Pk.all l110_1 P0 H_311 4000 110, Pk.all l88_0 P0 H_110 4000 88] = true := by kernel_rfl
theorem s311_0 (h : HO P0 H_0) : Snd P0 311 (Pk.any l311_0) := Pk.allSnd h (andB_ok t39 0 _ rfl)
theorem s311_1 (h : HO P0 H_0) : Snd P0 311 (Pc.any l311_1) := Pc.allSnd h (andB_ok t39 1 _ rfl)
theorem s311_2 (h : HO P0 H_0) : Snd P0 311 (Pk.any l311_2) := Pk.allSnd h (andB_ok t39 2 _ rfl)
theorem s311_3 (h : HO P0 H_0) : Snd P0 311 (Pc.any l311_3) := Pc.allSnd h (andB_ok t39 3 _ rfl)
theorem s311_4 (h : HO P0 H_0) : Snd P0 311 (Pk.any l311_4) := Pk.allSnd h (andB_ok t39 4 _ rfl)
theorem s311_5 (h : HO P0 H_0) : Snd P0 311 (Pc.any l311_5) := Pc.allSnd h (andB_ok t39 5 _ rfl)
theorem s311_6 (h : HO P0 H_0) : Snd P0 311 (Pk.any l311_6) := Pk.allSnd h (andB_ok t39 6 _ rfl)
theorem s311_7 (h : HO P0 H_0) : Snd P0 311 (Pc.any l311_7) := Pc.allSnd h (andB_ok t39 7 _ rfl)
theorem s110_0 (h : HO P0 H_311) : Snd P0 110 (Pk.any l110_0) := Pk.allSnd h (andB_ok t39 8 _ rfl)
theorem s110_1 (h : HO P0 H_311) : Snd P0 110 (Pk.any l110_1) := Pk.allSnd h (andB_ok t39 9 _ rfl)
theorem s88_0 (h : HO P0 H_110) : Snd P0 88 (Pk.any l88_0) := Pk.allSnd h (andB_ok t39 10 _ rfl)
theorem t51 : andB [Pk.all l66_10 P0 H_217 4000 66, Pk.all l66_11 P0 H_217 4000 66, Pk.all l66_12 P0 H_217 4000 66] = true := by kernel_rfl
theorem s66_10 (h : HO P0 H_217) : Snd P0 66 (Pk.any l66_10) := Pk.allSnd h (andB_ok t51 0 _ rfl)
theorem s66_11 (h : HO P0 H_217) : Snd P0 66 (Pk.any l66_11) := Pk.allSnd h (andB_ok t51 1 _ rfl)
theorem s66_12 (h : HO P0 H_217) : Snd P0 66 (Pk.any l66_12) := Pk.allSnd h (andB_ok t51 2 _ rfl)
theorem t63 : andB [Pk.all l66_25 P0 H_217 4000 66, Pk.all l66_26 P0 H_217 4000 66] = true := by kernel_rfl
theorem s66_25 (h : HO P0 H_217) : Snd P0 66 (Pk.any l66_25) := Pk.allSnd h (andB_ok t63 0 _ rfl)
theorem s66_26 (h : HO P0 H_217) : Snd P0 66 (Pk.any l66_26) := Pk.allSnd h (andB_ok t63 1 _ rfl)
theorem t75 : andB [Pc.all l166_80 P0 H_286 4000 166] = true := by kernel_rfl
theorem s166_80 (h : HO P0 H_286) : Snd P0 166 (Pc.any l166_80) := Pc.allSnd h (andB_ok t75 0 _ rfl)
theorem t85 : andB [Pk.all l81_0 P0 H_167 4000 81] = true := by kernel_rfl
theorem s81_0 (h : HO P0 H_167) : Snd P0 81 (Pk.any l81_0) := Pk.allSnd h (andB_ok t85 0 _ rfl)
theorem t99 : andB [Pc.all l166_96 P0 H_286 4000 166, Pc.all l166_97 P0 H_286 4000 166] = true := by kernel_rfl
theorem s166_96 (h : HO P0 H_286) : Snd P0 166 (Pc.any l166_96) := Pc.allSnd h (andB_ok t99 0 _ rfl)
theorem s166_97 (h : HO P0 H_286) : Snd P0 166 (Pc.any l166_97) := Pc.allSnd h (andB_ok t99 1 _ rfl)
theorem t109 : andB [Pc.all l166_7 P0 H_286 4000 166, Pc.all l166_8 P0 H_286 4000 166, Pk.all l166_9 P0 H_286 4000 166] = true := by kernel_rfl
theorem s166_7 (h : HO P0 H_286) : Snd P0 166 (Pc.any l166_7) := Pc.allSnd h (andB_ok t109 0 _ rfl)
theorem s166_8 (h : HO P0 H_286) : Snd P0 166 (Pc.any l166_8) := Pc.allSnd h (andB_ok t109 1 _ rfl)
theorem s166_9 (h : HO P0 H_286) : Snd P0 166 (Pk.any l166_9) := Pk.allSnd h (andB_ok t109 2 _ rfl)
theorem t120 : andB [Pk.all l51_0 P0 H_132 4000 51, Pk.all l51_1 P0 H_132 4000 51] = true := by kernel_rfl
theorem s51_0 (h : HO P0 H_132) : Snd P0 51 (Pk.any l51_0) := Pk.allSnd h (andB_ok t120 0 _ rfl)
theorem s51_1 (h : HO P0 H_132) : Snd P0 51 (Pk.any l51_1) := Pk.allSnd h (andB_ok t120 1 _ rfl)
theorem t135 : andB [Pc.all l166_19 P0 H_286 4000 166, Pc.all l166_20 P0 H_286 4000 166] = true := by kernel_rfl
theorem s166_19 (h : HO P0 H_286) : Snd P0 166 (Pc.any l166_19) := Pc.allSnd h (andB_ok t135 0 _ rfl)
theorem s166_20 (h : HO P0 H_286) : Snd P0 166 (Pc.any l166_20) := Pc.allSnd h (andB_ok t135 1 _ rfl)
theorem t145 : andB [Pc.all l166_75 P0 H_286 4000 166, Pc.all l166_76 P0 H_286 4000 166] = true := by kernel_rfl
theorem s166_75 (h : HO P0 H_286) : Snd P0 166 (Pc.any l166_75) := Pc.allSnd h (andB_ok t145 0 _ rfl)
theorem s166_76 (h : HO P0 H_286) : Snd P0 166 (Pc.any l166_76) := Pc.allSnd h (andB_ok t145 1 _ rfl)
theorem t160 : andB [Pc.allN l161_8 P0 H_88 4000 161] = true := by kernel_rfl
theorem s161_8 (h : HO P0 H_88) : Snd P0 161 (Pc.any l161_8) := Pc.allSndN h (andB_ok t160 0 _ rfl)
theorem t172 : andB [Pk.all l132_2 P0 H_130 4000 132] = true := by kernel_rfl
theorem s132_2 (h : HO P0 H_130) : Snd P0 132 (Pk.any l132_2) := Pk.allSnd h (andB_ok t172 0 _ rfl)
theorem t182 : andB [Pc.all l166_34 P0 H_286 4000 166] = true := by kernel_rfl
theorem s166_34 (h : HO P0 H_286) : Snd P0 166 (Pc.any l166_34) := Pc.allSnd h (andB_ok t182 0 _ rfl)
end Go.Proofs.YteakajbedjdggaaGreatDoor
