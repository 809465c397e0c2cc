import Derived.Test.YteakajbedjdggaaGreatDoorGaDC
/-
  Calls on the examples of the law, found once: each is run by the kernel on a small memory of its own.
-/
set_option maxRecDepth 1000000
noncomputable section
namespace Go.Proofs.YteakajbedjdggaaGreatDoor
open Go Go.RowKit Go.Sx
theorem t14 : andB [Pk.all l12_5 P0 H_99 4000 12, Pk.all l12_6 P0 H_99 4000 12, Pk.all l12_7 P0 H_99 4000 12] = true := by kernel_rfl
theorem s12_5 (h : HO P0 H_99) : Snd P0 12 (Pk.any l12_5) := Pk.allSnd h (andB_ok t14 0 _ rfl)
theorem s12_6 (h : HO P0 H_99) : Snd P0 12 (Pk.any l12_6) := Pk.allSnd h (andB_ok t14 1 _ rfl)
theorem s12_7 (h : HO P0 H_99) : Snd P0 12 (Pk.any l12_7) := Pk.allSnd h (andB_ok t14 2 _ rfl)
theorem t17 : andB [Pc.all l166_81 P0 H_286 4000 166, Pc.all l166_82 P0 H_286 4000 166, Pc.all l166_83 P0 H_286 4000 166] = true := by kernel_rfl
theorem s166_81 (h : HO P0 H_286) : Snd P0 166 (Pc.any l166_81) := Pc.allSnd h (andB_ok t17 0 _ rfl)
theorem s166_82 (h : HO P0 H_286) : Snd P0 166 (Pc.any l166_82) := Pc.allSnd h (andB_ok t17 1 _ rfl)
theorem s166_83 (h : HO P0 H_286) : Snd P0 166 (Pc.any l166_83) := Pc.allSnd h (andB_ok t17 2 _ rfl)
theorem t32 : andB [Pk.all l66_16 P0 H_217 4000 66, Pk.all l66_17 P0 H_217 4000 66, Pk.all l66_18 P0 H_217 4000 66] = true := by kernel_rfl
theorem s66_16 (h : HO P0 H_217) : Snd P0 66 (Pk.any l66_16) := Pk.allSnd h (andB_ok t32 0 _ rfl)
theorem s66_17 (h : HO P0 H_217) : Snd P0 66 (Pk.any l66_17) := Pk.allSnd h (andB_ok t32 1 _ rfl)
theorem s66_18 (h : HO P0 H_217) : Snd P0 66 (Pk.any l66_18) := Pk.allSnd h (andB_ok t32 2 _ rfl)
theorem t50 : andB [Pc.all l166_118 P0 H_286 4000 166, Pc.all l166_119 P0 H_286 4000 166, Pk.all l167_0 P0 H_166 4000 167] = true := by kernel_rfl
theorem s166_118 (h : HO P0 H_286) : Snd P0 166 (Pc.any l166_118) := Pc.allSnd h (andB_ok t50 0 _ rfl)
theorem s166_119 (h : HO P0 H_286) : Snd P0 166 (Pc.any l166_119) := Pc.allSnd h (andB_ok t50 1 _ rfl)
theorem s167_0 (h : HO P0 H_166) : Snd P0 167 (Pk.any l167_0) := Pk.allSnd h (andB_ok t50 2 _ rfl)
theorem t65 : andB [Pk.all l121_3 P0 H_202 4000 121, Pk.all l121_4 P0 H_202 4000 121] = true := by kernel_rfl
theorem s121_3 (h : HO P0 H_202) : Snd P0 121 (Pk.any l121_3) := Pk.allSnd h (andB_ok t65 0 _ rfl)
theorem s121_4 (h : HO P0 H_202) : Snd P0 121 (Pk.any l121_4) := Pk.allSnd h (andB_ok t65 1 _ rfl)
theorem t83 : andB [Pk.all l66_14 P0 H_217 4000 66, Pk.all l66_15 P0 H_217 4000 66] = true := by kernel_rfl
theorem s66_14 (h : HO P0 H_217) : Snd P0 66 (Pk.any l66_14) := Pk.allSnd h (andB_ok t83 0 _ rfl)
theorem s66_15 (h : HO P0 H_217) : Snd P0 66 (Pk.any l66_15) := Pk.allSnd h (andB_ok t83 1 _ rfl)
theorem t96 : andB [Pk.all l66_4 P0 H_217 4000 66, Pk.all l66_5 P0 H_217 4000 66] = true := by kernel_rfl
theorem s66_4 (h : HO P0 H_217) : Snd P0 66 (Pk.any l66_4) := Pk.allSnd h (andB_ok t96 0 _ rfl)
theorem s66_5 (h : HO P0 H_217) : Snd P0 66 (Pk.any l66_5) := Pk.allSnd h (andB_ok t96 1 _ rfl)
theorem t115 : andB [Pc.all l124_5 P0 H_205 4000 124, Pc.all l124_6 P0 H_205 4000 124] = true := by kernel_rfl
theorem s124_5 (h : HO P0 H_205) : Snd P0 124 (Pc.any l124_5) := Pc.allSnd h (andB_ok t115 0 _ rfl)
theorem s124_6 (h : HO P0 H_205) : Snd P0 124 (Pc.any l124_6) := Pc.allSnd h (andB_ok t115 1 _ rfl)
theorem t131 : andB [Pk.all l81_13 P0 H_167 4000 81] = true := by kernel_rfl
theorem s81_13 (h : HO P0 H_167) : Snd P0 81 (Pk.any l81_13) := Pk.allSnd h (andB_ok t131 0 _ rfl)
theorem t145 : andB [Pk.all l32_3 P0 H_138 4000 32, Pk.all l32_4 P0 H_138 4000 32] = true := by kernel_rfl
theorem s32_3 (h : HO P0 H_138) : Snd P0 32 (Pk.any l32_3) := Pk.allSnd h (andB_ok t145 0 _ rfl)
theorem s32_4 (h : HO P0 H_138) : Snd P0 32 (Pk.any l32_4) := Pk.allSnd h (andB_ok t145 1 _ rfl)
theorem t166 : andB [Pc.all l166_62 P0 H_286 4000 166, Pc.all l166_63 P0 H_286 4000 166] = true := by kernel_rfl
theorem s166_62 (h : HO P0 H_286) : Snd P0 166 (Pc.any l166_62) := Pc.allSnd h (andB_ok t166 0 _ rfl)
theorem s166_63 (h : HO P0 H_286) : Snd P0 166 (Pc.any l166_63) := Pc.allSnd h (andB_ok t166 1 _ rfl)
theorem t180 : andB [Pc.all l166_98 P0 H_286 4000 166] = true := by kernel_rfl
theorem s166_98 (h : HO P0 H_286) : Snd P0 166 (Pc.any l166_98) := Pc.allSnd h (andB_ok t180 0 _ rfl)
theorem t196 : andB [Pc.all l166_73 P0 H_286 4000 166] = true := by kernel_rfl
theorem s166_73 (h : HO P0 H_286) : Snd P0 166 (Pc.any l166_73) := Pc.allSnd h (andB_ok t196 0 _ rfl)
theorem t214 : andB [Pk.all l97_18 P0 H_125 4000 97] = true := by kernel_rfl
theorem s97_18 (h : HO P0 H_125) : Snd P0 97 (Pk.any l97_18) := Pk.allSnd h (andB_ok t214 0 _ rfl)
end Go.Proofs.YteakajbedjdggaaGreatDoor
