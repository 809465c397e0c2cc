import Derived.Test.YteakajbedjdggaaGreatDoorGaDC
/-
  Calls on the examples of the law, found once: each is run by the kernel on a small memory of its own.
-/
set_option maxRecDepth 1000000
noncomputable section
namespace Go.Proofs.YteakajbedjdggaaGreatDoor
open Go Go.RowKit Go.Sx
theorem t9 : andB [Pk.all l97_10 P0 H_125 4000 97] = true := by kernel_rfl
theorem s97_10 (h : HO P0 H_125) : Snd P0 97 (Pk.any l97_10) := Pk.allSnd h (andB_ok t9 0 _ rfl)
theorem t22 : andB [Pk.all l66_29 P0 H_217 4000 66, Pk.all l66_30 P0 H_217 4000 66, Pk.all l85_0 P0 H_66 4000 85] = true := by kernel_rfl
theorem s66_29 (h : HO P0 H_217) : Snd P0 66 (Pk.any l66_29) := Pk.allSnd h (andB_ok t22 0 _ rfl)
theorem s66_30 (h : HO P0 H_217) : Snd P0 66 (Pk.any l66_30) := Pk.allSnd h (andB_ok t22 1 _ rfl)
theorem s85_0 (h : HO P0 H_66) : Snd P0 85 (Pk.any l85_0) := Pk.allSnd h (andB_ok t22 2 _ rfl)
theorem t37 : andB [Pc.all l166_53 P0 H_286 4000 166, Pc.all l166_54 P0 H_286 4000 166] = true := by kernel_rfl
theorem s166_53 (h : HO P0 H_286) : Snd P0 166 (Pc.any l166_53) := Pc.allSnd h (andB_ok t37 0 _ rfl)
theorem s166_54 (h : HO P0 H_286) : Snd P0 166 (Pc.any l166_54) := Pc.allSnd h (andB_ok t37 1 _ rfl)
theorem t53 : andB [Pk.all l66_27 P0 H_217 4000 66, Pk.all l66_28 P0 H_217 4000 66] = true := by kernel_rfl
theorem s66_27 (h : HO P0 H_217) : Snd P0 66 (Pk.any l66_27) := Pk.allSnd h (andB_ok t53 0 _ rfl)
theorem s66_28 (h : HO P0 H_217) : Snd P0 66 (Pk.any l66_28) := Pk.allSnd h (andB_ok t53 1 _ rfl)
theorem t70 : andB [Pc.all l166_47 P0 H_286 4000 166, Pc.all l166_48 P0 H_286 4000 166] = true := by kernel_rfl
theorem s166_47 (h : HO P0 H_286) : Snd P0 166 (Pc.any l166_47) := Pc.allSnd h (andB_ok t70 0 _ rfl)
theorem s166_48 (h : HO P0 H_286) : Snd P0 166 (Pc.any l166_48) := Pc.allSnd h (andB_ok t70 1 _ rfl)
theorem t86 : andB [Pc.all l166_38 P0 H_286 4000 166, Pc.all l166_39 P0 H_286 4000 166] = true := by kernel_rfl
theorem s166_38 (h : HO P0 H_286) : Snd P0 166 (Pc.any l166_38) := Pc.allSnd h (andB_ok t86 0 _ rfl)
theorem s166_39 (h : HO P0 H_286) : Snd P0 166 (Pc.any l166_39) := Pc.allSnd h (andB_ok t86 1 _ rfl)
theorem t101 : andB [Pk.all l26_3 P0 H_156 4000 26] = true := by kernel_rfl
theorem s26_3 (h : HO P0 H_156) : Snd P0 26 (Pk.any l26_3) := Pk.allSnd h (andB_ok t101 0 _ rfl)
theorem t118 : andB [Pc.all l124_1 P0 H_205 4000 124, Pc.all l124_2 P0 H_205 4000 124] = true := by kernel_rfl
theorem s124_1 (h : HO P0 H_205) : Snd P0 124 (Pc.any l124_1) := Pc.allSnd h (andB_ok t118 0 _ rfl)
theorem s124_2 (h : HO P0 H_205) : Snd P0 124 (Pc.any l124_2) := Pc.allSnd h (andB_ok t118 1 _ rfl)
theorem t134 : andB [Pk.all l167_1 P0 H_166 4000 167, Pk.all l167_2 P0 H_166 4000 167] = true := by kernel_rfl
theorem s167_1 (h : HO P0 H_166) : Snd P0 167 (Pk.any l167_1) := Pk.allSnd h (andB_ok t134 0 _ rfl)
theorem s167_2 (h : HO P0 H_166) : Snd P0 167 (Pk.any l167_2) := Pk.allSnd h (andB_ok t134 1 _ rfl)
theorem t149 : andB [Pk.all l81_8 P0 H_167 4000 81, Pk.all l81_9 P0 H_167 4000 81] = true := by kernel_rfl
theorem s81_8 (h : HO P0 H_167) : Snd P0 81 (Pk.any l81_8) := Pk.allSnd h (andB_ok t149 0 _ rfl)
theorem s81_9 (h : HO P0 H_167) : Snd P0 81 (Pk.any l81_9) := Pk.allSnd h (andB_ok t149 1 _ rfl)
theorem t165 : andB [Pk.all l26_8 P0 H_156 4000 26, Pk.all l89_0 P0 H_26 4000 89, Pk.all l28_0 P0 H_89 4000 28] = true := by kernel_rfl
theorem s26_8 (h : HO P0 H_156) : Snd P0 26 (Pk.any l26_8) := Pk.allSnd h (andB_ok t165 0 _ rfl)
theorem s89_0 (h : HO P0 H_26) : Snd P0 89 (Pk.any l89_0) := Pk.allSnd h (andB_ok t165 1 _ rfl)
theorem s28_0 (h : HO P0 H_89) : Snd P0 28 (Pk.any l28_0) := Pk.allSnd h (andB_ok t165 2 _ rfl)
theorem t181 : andB [Pc.all l166_78 P0 H_286 4000 166] = true := by kernel_rfl
theorem s166_78 (h : HO P0 H_286) : Snd P0 166 (Pc.any l166_78) := Pc.allSnd h (andB_ok t181 0 _ rfl)
theorem t197 : andB [Pk.all l97_4 P0 H_125 4000 97, Pk.all l97_5 P0 H_125 4000 97] = true := by kernel_rfl
theorem s97_4 (h : HO P0 H_125) : Snd P0 97 (Pk.any l97_4) := Pk.allSnd h (andB_ok t197 0 _ rfl)
theorem s97_5 (h : HO P0 H_125) : Snd P0 97 (Pk.any l97_5) := Pk.allSnd h (andB_ok t197 1 _ rfl)
theorem t210 : andB [Pk.all l54_0 P0 H_88 4000 54, Pk.all l54_1 P0 H_88 4000 54] = true := by kernel_rfl
theorem s54_0 (h : HO P0 H_88) : Snd P0 54 (Pk.any l54_0) := Pk.allSnd h (andB_ok t210 0 _ rfl)
theorem s54_1 (h : HO P0 H_88) : Snd P0 54 (Pk.any l54_1) := Pk.allSnd h (andB_ok t210 1 _ rfl)
end Go.Proofs.YteakajbedjdggaaGreatDoor
