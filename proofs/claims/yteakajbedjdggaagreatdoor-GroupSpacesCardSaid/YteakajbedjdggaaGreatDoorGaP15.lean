import Derived.Test.YteakajbedjdggaaGreatDoorGaDC
/-
  Calls on the examples of the law, found once: each is run by the kernel on a small memory of its own.
-/
set_option maxRecDepth 1000000
noncomputable section
namespace Go.Proofs.YteakajbedjdggaaGreatDoor
open Go Go.RowKit Go.Sx
theorem t15 : andB [Pc.all l166_7 P0 H_286 4000 166, Pc.all l166_8 P0 H_286 4000 166, Pc.all l166_9 P0 H_286 4000 166, Pk.all l166_10 P0 H_286 4000 166] = true := by kernel_rfl
theorem s166_7 (h : HO P0 H_286) : Snd P0 166 (Pc.any l166_7) := Pc.allSnd h (andB_ok t15 0 _ rfl)
theorem s166_8 (h : HO P0 H_286) : Snd P0 166 (Pc.any l166_8) := Pc.allSnd h (andB_ok t15 1 _ rfl)
theorem s166_9 (h : HO P0 H_286) : Snd P0 166 (Pc.any l166_9) := Pc.allSnd h (andB_ok t15 2 _ rfl)
theorem s166_10 (h : HO P0 H_286) : Snd P0 166 (Pk.any l166_10) := Pk.allSnd h (andB_ok t15 3 _ rfl)
theorem t16 : andB [Pk.all l125_7 P0 H_124 4000 125, Pk.all l125_8 P0 H_124 4000 125] = true := by kernel_rfl
theorem s125_7 (h : HO P0 H_124) : Snd P0 125 (Pk.any l125_7) := Pk.allSnd h (andB_ok t16 0 _ rfl)
theorem s125_8 (h : HO P0 H_124) : Snd P0 125 (Pk.any l125_8) := Pk.allSnd h (andB_ok t16 1 _ rfl)
theorem t33 : andB [Pk.all l97_11 P0 H_125 4000 97, Pk.all l97_12 P0 H_125 4000 97, Pk.all l97_13 P0 H_125 4000 97] = true := by kernel_rfl
theorem s97_11 (h : HO P0 H_125) : Snd P0 97 (Pk.any l97_11) := Pk.allSnd h (andB_ok t33 0 _ rfl)
theorem s97_12 (h : HO P0 H_125) : Snd P0 97 (Pk.any l97_12) := Pk.allSnd h (andB_ok t33 1 _ rfl)
theorem s97_13 (h : HO P0 H_125) : Snd P0 97 (Pk.any l97_13) := Pk.allSnd h (andB_ok t33 2 _ rfl)
theorem t48 : andB [Pk.all l62_2 P0 H_37 4000 62, Pk.all l62_3 P0 H_37 4000 62] = true := by kernel_rfl
theorem s62_2 (h : HO P0 H_37) : Snd P0 62 (Pk.any l62_2) := Pk.allSnd h (andB_ok t48 0 _ rfl)
theorem s62_3 (h : HO P0 H_37) : Snd P0 62 (Pk.any l62_3) := Pk.allSnd h (andB_ok t48 1 _ rfl)
theorem t67 : andB [Pk.all l265_0 P0 H_121 4000 265, Pk.all l205_0 P0 H_265 4000 205, Pc.all l124_0 P0 H_205 4000 124] = true := by kernel_rfl
theorem s265_0 (h : HO P0 H_121) : Snd P0 265 (Pk.any l265_0) := Pk.allSnd h (andB_ok t67 0 _ rfl)
theorem s205_0 (h : HO P0 H_265) : Snd P0 205 (Pk.any l205_0) := Pk.allSnd h (andB_ok t67 1 _ rfl)
theorem s124_0 (h : HO P0 H_205) : Snd P0 124 (Pc.any l124_0) := Pc.allSnd h (andB_ok t67 2 _ rfl)
theorem t82 : andB [Pc.all l166_36 P0 H_286 4000 166, Pc.all l166_37 P0 H_286 4000 166] = true := by kernel_rfl
theorem s166_36 (h : HO P0 H_286) : Snd P0 166 (Pc.any l166_36) := Pc.allSnd h (andB_ok t82 0 _ rfl)
theorem s166_37 (h : HO P0 H_286) : Snd P0 166 (Pc.any l166_37) := Pc.allSnd h (andB_ok t82 1 _ rfl)
theorem t97 : andB [Pc.all l166_2 P0 H_286 4000 166, Pc.all l166_3 P0 H_286 4000 166] = true := by kernel_rfl
theorem s166_2 (h : HO P0 H_286) : Snd P0 166 (Pc.any l166_2) := Pc.allSnd h (andB_ok t97 0 _ rfl)
theorem s166_3 (h : HO P0 H_286) : Snd P0 166 (Pc.any l166_3) := Pc.allSnd h (andB_ok t97 1 _ rfl)
theorem t116 : andB [Pc.all l124_12 P0 H_205 4000 124, Pc.all l124_13 P0 H_205 4000 124, Pc.all l124_14 P0 H_205 4000 124] = true := by kernel_rfl
theorem s124_12 (h : HO P0 H_205) : Snd P0 124 (Pc.any l124_12) := Pc.allSnd h (andB_ok t116 0 _ rfl)
theorem s124_13 (h : HO P0 H_205) : Snd P0 124 (Pc.any l124_13) := Pc.allSnd h (andB_ok t116 1 _ rfl)
theorem s124_14 (h : HO P0 H_205) : Snd P0 124 (Pc.any l124_14) := Pc.allSnd h (andB_ok t116 2 _ rfl)
theorem t130 : andB [Pc.all l166_90 P0 H_286 4000 166, Pc.all l166_91 P0 H_286 4000 166, Pc.all l166_92 P0 H_286 4000 166] = true := by kernel_rfl
theorem s166_90 (h : HO P0 H_286) : Snd P0 166 (Pc.any l166_90) := Pc.allSnd h (andB_ok t130 0 _ rfl)
theorem s166_91 (h : HO P0 H_286) : Snd P0 166 (Pc.any l166_91) := Pc.allSnd h (andB_ok t130 1 _ rfl)
theorem s166_92 (h : HO P0 H_286) : Snd P0 166 (Pc.any l166_92) := Pc.allSnd h (andB_ok t130 2 _ rfl)
theorem t146 : andB [Pc.all l166_99 P0 H_286 4000 166] = true := by kernel_rfl
theorem s166_99 (h : HO P0 H_286) : Snd P0 166 (Pc.any l166_99) := Pc.allSnd h (andB_ok t146 0 _ rfl)
theorem t160 : andB [Pk.all l125_18 P0 H_124 4000 125, Pk.all l125_19 P0 H_124 4000 125] = true := by kernel_rfl
theorem s125_18 (h : HO P0 H_124) : Snd P0 125 (Pk.any l125_18) := Pk.allSnd h (andB_ok t160 0 _ rfl)
theorem s125_19 (h : HO P0 H_124) : Snd P0 125 (Pk.any l125_19) := Pk.allSnd h (andB_ok t160 1 _ rfl)
theorem t186 : andB [Pc.allN l161_5 P0 H_54 4000 161] = true := by kernel_rfl
theorem s161_5 (h : HO P0 H_54) : Snd P0 161 (Pc.any l161_5) := Pc.allSndN h (andB_ok t186 0 _ rfl)
theorem t202 : andB [Pk.all l5_0 P0 H_159 4000 5, Pk.all l109_0 P0 H_5 4000 109] = true := by kernel_rfl
theorem s5_0 (h : HO P0 H_159) : Snd P0 5 (Pk.any l5_0) := Pk.allSnd h (andB_ok t202 0 _ rfl)
theorem s109_0 (h : HO P0 H_5) : Snd P0 109 (Pk.any l109_0) := Pk.allSnd h (andB_ok t202 1 _ rfl)
theorem t209 : andB [Pc.all l166_114 P0 H_286 4000 166] = true := by kernel_rfl
theorem s166_114 (h : HO P0 H_286) : Snd P0 166 (Pc.any l166_114) := Pc.allSnd h (andB_ok t209 0 _ rfl)
end Go.Proofs.YteakajbedjdggaaGreatDoor
