import Derived.Test.YteakajbedjdggaaGreatDoorGaDC
/-
  Calls on the examples of the law, found once: each is run by the kernel on a small memory of its own.
-/
set_option maxRecDepth 1000000
noncomputable section
namespace Go.Proofs.YteakajbedjdggaaGreatDoor
open Go Go.RowKit Go.Sx
theorem t0 : andB [Pk.all l97_3 P0 H_125 4000 97] = true := by kernel_rfl
theorem s97_3 (h : HO P0 H_125) : Snd P0 97 (Pk.any l97_3) := Pk.allSnd h (andB_ok t0 0 _ rfl)
theorem t31 : andB [Pk.all l81_20 P0 H_167 4000 81, Pk.all l81_21 P0 H_167 4000 81, Pk.all l81_22 P0 H_167 4000 81] = true := by kernel_rfl
theorem s81_20 (h : HO P0 H_167) : Snd P0 81 (Pk.any l81_20) := Pk.allSnd h (andB_ok t31 0 _ rfl)
theorem s81_21 (h : HO P0 H_167) : Snd P0 81 (Pk.any l81_21) := Pk.allSnd h (andB_ok t31 1 _ rfl)
theorem s81_22 (h : HO P0 H_167) : Snd P0 81 (Pk.any l81_22) := Pk.allSnd h (andB_ok t31 2 _ rfl)
theorem t47 : andB [Pk.all l66_6 P0 H_217 4000 66, Pk.all l66_7 P0 H_217 4000 66, Pk.all l66_8 P0 H_217 4000 66] = true := by kernel_rfl
theorem s66_6 (h : HO P0 H_217) : Snd P0 66 (Pk.any l66_6) := Pk.allSnd h (andB_ok t47 0 _ rfl)
theorem s66_7 (h : HO P0 H_217) : Snd P0 66 (Pk.any l66_7) := Pk.allSnd h (andB_ok t47 1 _ rfl)
theorem s66_8 (h : HO P0 H_217) : Snd P0 66 (Pk.any l66_8) := Pk.allSnd h (andB_ok t47 2 _ rfl)
theorem t63 : andB [Pc.all l166_59 P0 H_286 4000 166, Pc.all l166_60 P0 H_286 4000 166, Pc.all l166_61 P0 H_286 4000 166] = true := by kernel_rfl
theorem s166_59 (h : HO P0 H_286) : Snd P0 166 (Pc.any l166_59) := Pc.allSnd h (andB_ok t63 0 _ rfl)
theorem s166_60 (h : HO P0 H_286) : Snd P0 166 (Pc.any l166_60) := Pc.allSnd h (andB_ok t63 1 _ rfl)
theorem s166_61 (h : HO P0 H_286) : Snd P0 166 (Pc.any l166_61) := Pc.allSnd h (andB_ok t63 2 _ rfl)
theorem t79 : andB [Pc.all l166_24 P0 H_286 4000 166, Pc.all l166_25 P0 H_286 4000 166] = true := by kernel_rfl
theorem s166_24 (h : HO P0 H_286) : Snd P0 166 (Pc.any l166_24) := Pc.allSnd h (andB_ok t79 0 _ rfl)
theorem s166_25 (h : HO P0 H_286) : Snd P0 166 (Pc.any l166_25) := Pc.allSnd h (andB_ok t79 1 _ rfl)
theorem t95 : andB [Pk.all l32_1 P0 H_138 4000 32, Pk.all l32_2 P0 H_138 4000 32] = true := by kernel_rfl
theorem s32_1 (h : HO P0 H_138) : Snd P0 32 (Pk.any l32_1) := Pk.allSnd h (andB_ok t95 0 _ rfl)
theorem s32_2 (h : HO P0 H_138) : Snd P0 32 (Pk.any l32_2) := Pk.allSnd h (andB_ok t95 1 _ rfl)
theorem t111 : andB [Pc.allN l161_2 P0 H_54 4000 161, Pc.allN l161_3 P0 H_54 4000 161] = true := by kernel_rfl
theorem s161_2 (h : HO P0 H_54) : Snd P0 161 (Pc.any l161_2) := Pc.allSndN h (andB_ok t111 0 _ rfl)
theorem s161_3 (h : HO P0 H_54) : Snd P0 161 (Pc.any l161_3) := Pc.allSndN h (andB_ok t111 1 _ rfl)
theorem t127 : andB [Pc.all l124_3 P0 H_205 4000 124, Pc.all l124_4 P0 H_205 4000 124] = true := by kernel_rfl
theorem s124_3 (h : HO P0 H_205) : Snd P0 124 (Pc.any l124_3) := Pc.allSnd h (andB_ok t127 0 _ rfl)
theorem s124_4 (h : HO P0 H_205) : Snd P0 124 (Pc.any l124_4) := Pc.allSnd h (andB_ok t127 1 _ rfl)
theorem t143 : andB [Pc.all l166_77 P0 H_286 4000 166] = true := by kernel_rfl
theorem s166_77 (h : HO P0 H_286) : Snd P0 166 (Pc.any l166_77) := Pc.allSnd h (andB_ok t143 0 _ rfl)
theorem t159 : andB [Pk.all l97_19 P0 H_125 4000 97] = true := by kernel_rfl
theorem s97_19 (h : HO P0 H_125) : Snd P0 97 (Pk.any l97_19) := Pk.allSnd h (andB_ok t159 0 _ rfl)
theorem t175 : andB [Pk.all l167_14 P0 H_166 4000 167, Pk.all l167_15 P0 H_166 4000 167] = true := by kernel_rfl
theorem s167_14 (h : HO P0 H_166) : Snd P0 167 (Pk.any l167_14) := Pk.allSnd h (andB_ok t175 0 _ rfl)
theorem s167_15 (h : HO P0 H_166) : Snd P0 167 (Pk.any l167_15) := Pk.allSnd h (andB_ok t175 1 _ rfl)
theorem t191 : andB [Pc.allN l161_10 P0 H_54 4000 161] = true := by kernel_rfl
theorem s161_10 (h : HO P0 H_54) : Snd P0 161 (Pc.any l161_10) := Pc.allSndN h (andB_ok t191 0 _ rfl)
theorem t207 : andB [Pk.all l8_2 P0 H_28 4000 8, Pk.all l9_0 P0 H_8 4000 9, Pk.all l16_0 P0 H_9 4000 16, Pk.all l22_0 P0 H_16 4000 22, Pk.all l145_0 P0 H_22 4000 145, Pk.all l213_0 P0 H_145 4000 213, Pk.all l246_0 P0 H_213 4000 246] = true := by kernel_rfl
theorem s8_2 (h : HO P0 H_28) : Snd P0 8 (Pk.any l8_2) := Pk.allSnd h (andB_ok t207 0 _ rfl)
theorem s9_0 (h : HO P0 H_8) : Snd P0 9 (Pk.any l9_0) := Pk.allSnd h (andB_ok t207 1 _ rfl)
theorem s16_0 (h : HO P0 H_9) : Snd P0 16 (Pk.any l16_0) := Pk.allSnd h (andB_ok t207 2 _ rfl)
theorem s22_0 (h : HO P0 H_16) : Snd P0 22 (Pk.any l22_0) := Pk.allSnd h (andB_ok t207 3 _ rfl)
theorem s145_0 (h : HO P0 H_22) : Snd P0 145 (Pk.any l145_0) := Pk.allSnd h (andB_ok t207 4 _ rfl)
theorem s213_0 (h : HO P0 H_145) : Snd P0 213 (Pk.any l213_0) := Pk.allSnd h (andB_ok t207 5 _ rfl)
theorem s246_0 (h : HO P0 H_213) : Snd P0 246 (Pk.any l246_0) := Pk.allSnd h (andB_ok t207 6 _ rfl)
theorem t223 : andB [Pk.all l97_7 P0 H_125 4000 97] = true := by kernel_rfl
theorem s97_7 (h : HO P0 H_125) : Snd P0 97 (Pk.any l97_7) := Pk.allSnd h (andB_ok t223 0 _ rfl)
end Go.Proofs.YteakajbedjdggaaGreatDoor
