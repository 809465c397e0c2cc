import Derived.Test.YteakajbedjdggaaGreatDoorGaDC
/-
  Calls on the examples of the law, found once: each is run by the kernel on a small memory of its own.
-/
set_option maxRecDepth 1000000
noncomputable section
namespace Go.Proofs.YteakajbedjdggaaGreatDoor
open Go Go.RowKit Go.Sx
theorem t2 : andB [Pk.all l26_7 P0 H_156 4000 26] = true := by kernel_rfl
theorem s26_7 (h : HO P0 H_156) : Snd P0 26 (Pk.any l26_7) := Pk.allSnd h (andB_ok t2 0 _ rfl)
theorem t29 : andB [Pk.all l118_1 P0 H_104 4000 118, Pk.all l118_2 P0 H_104 4000 118] = true := by kernel_rfl
theorem s118_1 (h : HO P0 H_104) : Snd P0 118 (Pk.any l118_1) := Pk.allSnd h (andB_ok t29 0 _ rfl)
theorem s118_2 (h : HO P0 H_104) : Snd P0 118 (Pk.any l118_2) := Pk.allSnd h (andB_ok t29 1 _ rfl)
theorem t45 : andB [Pk.all l125_5 P0 H_124 4000 125, Pk.all l125_6 P0 H_124 4000 125] = true := by kernel_rfl
theorem s125_5 (h : HO P0 H_124) : Snd P0 125 (Pk.any l125_5) := Pk.allSnd h (andB_ok t45 0 _ rfl)
theorem s125_6 (h : HO P0 H_124) : Snd P0 125 (Pk.any l125_6) := Pk.allSnd h (andB_ok t45 1 _ rfl)
theorem t61 : andB [Pk.all l25_0 P0 H_161 4000 25, Pk.all l25_1 P0 H_161 4000 25, Pk.all l151_0 P0 H_25 4000 151, Pk.all l152_0 P0 H_151 4000 152, Pk.all l155_0 P0 H_152 4000 155, Pk.all l69_0 P0 H_155 4000 69, Pk.all l86_0 P0 H_69 4000 86] = true := by kernel_rfl
theorem s25_0 (h : HO P0 H_161) : Snd P0 25 (Pk.any l25_0) := Pk.allSnd h (andB_ok t61 0 _ rfl)
theorem s25_1 (h : HO P0 H_161) : Snd P0 25 (Pk.any l25_1) := Pk.allSnd h (andB_ok t61 1 _ rfl)
theorem s151_0 (h : HO P0 H_25) : Snd P0 151 (Pk.any l151_0) := Pk.allSnd h (andB_ok t61 2 _ rfl)
theorem s152_0 (h : HO P0 H_151) : Snd P0 152 (Pk.any l152_0) := Pk.allSnd h (andB_ok t61 3 _ rfl)
theorem s155_0 (h : HO P0 H_152) : Snd P0 155 (Pk.any l155_0) := Pk.allSnd h (andB_ok t61 4 _ rfl)
theorem s69_0 (h : HO P0 H_155) : Snd P0 69 (Pk.any l69_0) := Pk.allSnd h (andB_ok t61 5 _ rfl)
theorem s86_0 (h : HO P0 H_69) : Snd P0 86 (Pk.any l86_0) := Pk.allSnd h (andB_ok t61 6 _ rfl)
theorem t77 : andB [Pk.all l121_9 P0 H_202 4000 121, Pk.all l121_10 P0 H_202 4000 121] = true := by kernel_rfl
theorem s121_9 (h : HO P0 H_202) : Snd P0 121 (Pk.any l121_9) := Pk.allSnd h (andB_ok t77 0 _ rfl)
theorem s121_10 (h : HO P0 H_202) : Snd P0 121 (Pk.any l121_10) := Pk.allSnd h (andB_ok t77 1 _ rfl)
theorem t93 : andB [Pk.all l66_2 P0 H_217 4000 66, Pk.all l66_3 P0 H_217 4000 66] = true := by kernel_rfl
theorem s66_2 (h : HO P0 H_217) : Snd P0 66 (Pk.any l66_2) := Pk.allSnd h (andB_ok t93 0 _ rfl)
theorem s66_3 (h : HO P0 H_217) : Snd P0 66 (Pk.any l66_3) := Pk.allSnd h (andB_ok t93 1 _ rfl)
theorem t109 : andB [Pc.all l166_79 P0 H_286 4000 166, Pc.all l166_80 P0 H_286 4000 166] = true := by kernel_rfl
theorem s166_79 (h : HO P0 H_286) : Snd P0 166 (Pc.any l166_79) := Pc.allSnd h (andB_ok t109 0 _ rfl)
theorem s166_80 (h : HO P0 H_286) : Snd P0 166 (Pc.any l166_80) := Pc.allSnd h (andB_ok t109 1 _ rfl)
theorem t125 : andB [Pc.all l124_9 P0 H_205 4000 124, Pc.all l124_10 P0 H_205 4000 124, Pc.all l124_11 P0 H_205 4000 124] = true := by kernel_rfl
theorem s124_9 (h : HO P0 H_205) : Snd P0 124 (Pc.any l124_9) := Pc.allSnd h (andB_ok t125 0 _ rfl)
theorem s124_10 (h : HO P0 H_205) : Snd P0 124 (Pc.any l124_10) := Pc.allSnd h (andB_ok t125 1 _ rfl)
theorem s124_11 (h : HO P0 H_205) : Snd P0 124 (Pc.any l124_11) := Pc.allSnd h (andB_ok t125 2 _ rfl)
theorem t141 : andB [Pc.all l166_55 P0 H_286 4000 166, Pc.all l166_56 P0 H_286 4000 166] = true := by kernel_rfl
theorem s166_55 (h : HO P0 H_286) : Snd P0 166 (Pc.any l166_55) := Pc.allSnd h (andB_ok t141 0 _ rfl)
theorem s166_56 (h : HO P0 H_286) : Snd P0 166 (Pc.any l166_56) := Pc.allSnd h (andB_ok t141 1 _ rfl)
theorem t157 : andB [Pc.all l124_26 P0 H_205 4000 124, Pc.all l124_27 P0 H_205 4000 124] = true := by kernel_rfl
theorem s124_26 (h : HO P0 H_205) : Snd P0 124 (Pc.any l124_26) := Pc.allSnd h (andB_ok t157 0 _ rfl)
theorem s124_27 (h : HO P0 H_205) : Snd P0 124 (Pc.any l124_27) := Pc.allSnd h (andB_ok t157 1 _ rfl)
theorem t173 : andB [Pk.all l28_1 P0 H_89 4000 28, Pk.all l28_2 P0 H_89 4000 28] = true := by kernel_rfl
theorem s28_1 (h : HO P0 H_89) : Snd P0 28 (Pk.any l28_1) := Pk.allSnd h (andB_ok t173 0 _ rfl)
theorem s28_2 (h : HO P0 H_89) : Snd P0 28 (Pk.any l28_2) := Pk.allSnd h (andB_ok t173 1 _ rfl)
theorem t189 : andB [Pc.allN l161_8 P0 H_54 4000 161] = true := by kernel_rfl
theorem s161_8 (h : HO P0 H_54) : Snd P0 161 (Pc.any l161_8) := Pc.allSndN h (andB_ok t189 0 _ rfl)
theorem t205 : andB [Pk.all l99_2 P0 H_97 4000 99, Pk.all l12_0 P0 H_99 4000 12] = true := by kernel_rfl
theorem s99_2 (h : HO P0 H_97) : Snd P0 99 (Pk.any l99_2) := Pk.allSnd h (andB_ok t205 0 _ rfl)
theorem s12_0 (h : HO P0 H_99) : Snd P0 12 (Pk.any l12_0) := Pk.allSnd h (andB_ok t205 1 _ rfl)
theorem t221 : andB [Pc.all l166_16 P0 H_286 4000 166] = true := by kernel_rfl
theorem s166_16 (h : HO P0 H_286) : Snd P0 166 (Pc.any l166_16) := Pc.allSnd h (andB_ok t221 0 _ rfl)
end Go.Proofs.YteakajbedjdggaaGreatDoor
