import Derived.Test.YteakajbedjdggaaGreatDoorWhDB
/-
  Calls on the examples of the law, found once: each is run by the kernel on a small memory of its own.
-/
set_option maxRecDepth 1000000
noncomputable section
namespace Go.Proofs.YteakajbedjdggaaGreatDoor
open Go Go.RowKit Go.Sx
theorem t4 : andB [Pc.all l166_103 P0 H_286 4000 166] = true := by kernel_rfl
theorem s166_103 (h : HO P0 H_286) : Snd P0 166 (Pc.any l166_103) := Pc.allSnd h (andB_ok t4 0 _ rfl)
theorem t19 : andB [Pk.all l81_28 P0 H_167 4000 81, Pk.all l84_0 P0 H_81 4000 84, Pk.all l217_0 P0 H_84 4000 217, Pk.all l66_0 P0 H_217 4000 66, Pk.all l66_1 P0 H_217 4000 66] = true := by kernel_rfl
theorem s81_28 (h : HO P0 H_167) : Snd P0 81 (Pk.any l81_28) := Pk.allSnd h (andB_ok t19 0 _ rfl)
theorem s84_0 (h : HO P0 H_81) : Snd P0 84 (Pk.any l84_0) := Pk.allSnd h (andB_ok t19 1 _ rfl)
theorem s217_0 (h : HO P0 H_84) : Snd P0 217 (Pk.any l217_0) := Pk.allSnd h (andB_ok t19 2 _ rfl)
theorem s66_0 (h : HO P0 H_217) : Snd P0 66 (Pk.any l66_0) := Pk.allSnd h (andB_ok t19 3 _ rfl)
theorem s66_1 (h : HO P0 H_217) : Snd P0 66 (Pk.any l66_1) := Pk.allSnd h (andB_ok t19 4 _ rfl)
theorem t30 : andB [Pk.all l163_2 P0 H_232 4000 163, Pk.all l163_3 P0 H_232 4000 163] = true := by kernel_rfl
theorem s163_2 (h : HO P0 H_232) : Snd P0 163 (Pk.any l163_2) := Pk.allSnd h (andB_ok t30 0 _ rfl)
theorem s163_3 (h : HO P0 H_232) : Snd P0 163 (Pk.any l163_3) := Pk.allSnd h (andB_ok t30 1 _ rfl)
theorem t41 : andB [Pk.all l66_7 P0 H_217 4000 66, Pk.all l66_8 P0 H_217 4000 66, Pk.all l66_9 P0 H_217 4000 66] = true := by kernel_rfl
theorem s66_7 (h : HO P0 H_217) : Snd P0 66 (Pk.any l66_7) := Pk.allSnd h (andB_ok t41 0 _ rfl)
theorem s66_8 (h : HO P0 H_217) : Snd P0 66 (Pk.any l66_8) := Pk.allSnd h (andB_ok t41 1 _ rfl)
theorem s66_9 (h : HO P0 H_217) : Snd P0 66 (Pk.any l66_9) := Pk.allSnd h (andB_ok t41 2 _ rfl)
theorem t54 : andB [Pk.all l163_8 P0 H_232 4000 163, Pk.all l163_9 P0 H_232 4000 163, Pk.all l238_0 P0 H_163 4000 238, Pk.all l236_0 P0 H_238 4000 236, Pk.all l173_0 P0 H_236 4000 173, Pk.all l172_0 P0 H_173 4000 172, Pk.all l175_0 P0 H_172 4000 175, Pk.all l285_0 P0 H_175 4000 285] = true := by kernel_rfl
theorem s163_8 (h : HO P0 H_232) : Snd P0 163 (Pk.any l163_8) := Pk.allSnd h (andB_ok t54 0 _ rfl)
theorem s163_9 (h : HO P0 H_232) : Snd P0 163 (Pk.any l163_9) := Pk.allSnd h (andB_ok t54 1 _ rfl)
theorem s238_0 (h : HO P0 H_163) : Snd P0 238 (Pk.any l238_0) := Pk.allSnd h (andB_ok t54 2 _ rfl)
theorem s236_0 (h : HO P0 H_238) : Snd P0 236 (Pk.any l236_0) := Pk.allSnd h (andB_ok t54 3 _ rfl)
theorem s173_0 (h : HO P0 H_236) : Snd P0 173 (Pk.any l173_0) := Pk.allSnd h (andB_ok t54 4 _ rfl)
theorem s172_0 (h : HO P0 H_173) : Snd P0 172 (Pk.any l172_0) := Pk.allSnd h (andB_ok t54 5 _ rfl)
theorem s175_0 (h : HO P0 H_172) : Snd P0 175 (Pk.any l175_0) := Pk.allSnd h (andB_ok t54 6 _ rfl)
theorem s285_0 (h : HO P0 H_175) : Snd P0 285 (Pk.any l285_0) := Pk.allSnd h (andB_ok t54 7 _ rfl)
theorem t67 : andB [Pc.all l166_68 P0 H_286 4000 166, Pc.all l166_69 P0 H_286 4000 166] = true := by kernel_rfl
theorem s166_68 (h : HO P0 H_286) : Snd P0 166 (Pc.any l166_68) := Pc.allSnd h (andB_ok t67 0 _ rfl)
theorem s166_69 (h : HO P0 H_286) : Snd P0 166 (Pc.any l166_69) := Pc.allSnd h (andB_ok t67 1 _ rfl)
theorem t79 : andB [Pc.all l166_56 P0 H_286 4000 166, Pc.all l166_57 P0 H_286 4000 166] = true := by kernel_rfl
theorem s166_56 (h : HO P0 H_286) : Snd P0 166 (Pc.any l166_56) := Pc.allSnd h (andB_ok t79 0 _ rfl)
theorem s166_57 (h : HO P0 H_286) : Snd P0 166 (Pc.any l166_57) := Pc.allSnd h (andB_ok t79 1 _ rfl)
theorem t91 : andB [Pk.all l14_8 P0 H_253 4000 14, Pk.all l16_0 P0 H_14 4000 16, Pk.all l193_0 P0 H_16 4000 193, Pk.all l104_0 P0 H_193 4000 104, Pk.all l118_0 P0 H_104 4000 118, Pk.all l119_0 P0 H_118 4000 119, Pk.all l126_0 P0 H_119 4000 126, Pk.all l190_0 P0 H_126 4000 190, Pk.all l206_0 P0 H_190 4000 206, Pk.all l202_0 P0 H_206 4000 202] = true := by kernel_rfl
theorem s14_8 (h : HO P0 H_253) : Snd P0 14 (Pk.any l14_8) := Pk.allSnd h (andB_ok t91 0 _ rfl)
theorem s16_0 (h : HO P0 H_14) : Snd P0 16 (Pk.any l16_0) := Pk.allSnd h (andB_ok t91 1 _ rfl)
theorem s193_0 (h : HO P0 H_16) : Snd P0 193 (Pk.any l193_0) := Pk.allSnd h (andB_ok t91 2 _ rfl)
theorem s104_0 (h : HO P0 H_193) : Snd P0 104 (Pk.any l104_0) := Pk.allSnd h (andB_ok t91 3 _ rfl)
theorem s118_0 (h : HO P0 H_104) : Snd P0 118 (Pk.any l118_0) := Pk.allSnd h (andB_ok t91 4 _ rfl)
theorem s119_0 (h : HO P0 H_118) : Snd P0 119 (Pk.any l119_0) := Pk.allSnd h (andB_ok t91 5 _ rfl)
theorem s126_0 (h : HO P0 H_119) : Snd P0 126 (Pk.any l126_0) := Pk.allSnd h (andB_ok t91 6 _ rfl)
theorem s190_0 (h : HO P0 H_126) : Snd P0 190 (Pk.any l190_0) := Pk.allSnd h (andB_ok t91 7 _ rfl)
theorem s206_0 (h : HO P0 H_190) : Snd P0 206 (Pk.any l206_0) := Pk.allSnd h (andB_ok t91 8 _ rfl)
theorem s202_0 (h : HO P0 H_206) : Snd P0 202 (Pk.any l202_0) := Pk.allSnd h (andB_ok t91 9 _ rfl)
theorem t103 : andB [Pk.all l125_7 P0 H_124 4000 125, Pk.all l125_8 P0 H_124 4000 125, Pk.all l48_0 P0 H_125 4000 48] = true := by kernel_rfl
theorem s125_7 (h : HO P0 H_124) : Snd P0 125 (Pk.any l125_7) := Pk.allSnd h (andB_ok t103 0 _ rfl)
theorem s125_8 (h : HO P0 H_124) : Snd P0 125 (Pk.any l125_8) := Pk.allSnd h (andB_ok t103 1 _ rfl)
theorem s48_0 (h : HO P0 H_125) : Snd P0 48 (Pk.any l48_0) := Pk.allSnd h (andB_ok t103 2 _ rfl)
theorem t115 : andB [Pc.allN l161_11 P0 H_88 4000 161, Pc.allN l161_12 P0 H_88 4000 161] = true := by kernel_rfl
theorem s161_11 (h : HO P0 H_88) : Snd P0 161 (Pc.any l161_11) := Pc.allSndN h (andB_ok t115 0 _ rfl)
theorem s161_12 (h : HO P0 H_88) : Snd P0 161 (Pc.any l161_12) := Pc.allSndN h (andB_ok t115 1 _ rfl)
theorem t126 : andB [Pk.all l121_10 P0 H_202 4000 121, Pk.all l121_11 P0 H_202 4000 121] = true := by kernel_rfl
theorem s121_10 (h : HO P0 H_202) : Snd P0 121 (Pk.any l121_10) := Pk.allSnd h (andB_ok t126 0 _ rfl)
theorem s121_11 (h : HO P0 H_202) : Snd P0 121 (Pk.any l121_11) := Pk.allSnd h (andB_ok t126 1 _ rfl)
theorem t137 : andB [Pk.all l167_12 P0 H_166 4000 167, Pk.all l167_13 P0 H_166 4000 167] = true := by kernel_rfl
theorem s167_12 (h : HO P0 H_166) : Snd P0 167 (Pk.any l167_12) := Pk.allSnd h (andB_ok t137 0 _ rfl)
theorem s167_13 (h : HO P0 H_166) : Snd P0 167 (Pk.any l167_13) := Pk.allSnd h (andB_ok t137 1 _ rfl)
theorem t150 : andB [Pk.all l15_0 P0 H_138 4000 15, Pk.all l15_1 P0 H_138 4000 15] = true := by kernel_rfl
theorem s15_0 (h : HO P0 H_138) : Snd P0 15 (Pk.any l15_0) := Pk.allSnd h (andB_ok t150 0 _ rfl)
theorem s15_1 (h : HO P0 H_138) : Snd P0 15 (Pk.any l15_1) := Pk.allSnd h (andB_ok t150 1 _ rfl)
theorem t164 : andB [Pc.all l166_61 P0 H_286 4000 166, Pc.all l166_62 P0 H_286 4000 166] = true := by kernel_rfl
theorem s166_61 (h : HO P0 H_286) : Snd P0 166 (Pc.any l166_61) := Pc.allSnd h (andB_ok t164 0 _ rfl)
theorem s166_62 (h : HO P0 H_286) : Snd P0 166 (Pc.any l166_62) := Pc.allSnd h (andB_ok t164 1 _ rfl)
theorem t174 : andB [Pc.all l166_41 P0 H_286 4000 166] = true := by kernel_rfl
theorem s166_41 (h : HO P0 H_286) : Snd P0 166 (Pc.any l166_41) := Pc.allSnd h (andB_ok t174 0 _ rfl)
theorem t187 : andB [Pk.all l48_3 P0 H_125 4000 48] = true := by kernel_rfl
theorem s48_3 (h : HO P0 H_125) : Snd P0 48 (Pk.any l48_3) := Pk.allSnd h (andB_ok t187 0 _ rfl)
end Go.Proofs.YteakajbedjdggaaGreatDoor
