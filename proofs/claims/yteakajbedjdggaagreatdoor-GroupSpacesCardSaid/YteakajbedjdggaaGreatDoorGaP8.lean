import Derived.Test.YteakajbedjdggaaGreatDoorGaDC
/-
  Calls on the examples of the law, found once: each is run by the kernel on a small memory of its own.
-/
set_option maxRecDepth 1000000
noncomputable section
namespace Go.Proofs.YteakajbedjdggaaGreatDoor
open Go Go.RowKit Go.Sx
theorem t8 : andB [Pc.all l166_109 P0 H_286 4000 166] = true := by kernel_rfl
theorem s166_109 (h : HO P0 H_286) : Snd P0 166 (Pc.any l166_109) := Pc.allSnd h (andB_ok t8 0 _ rfl)
theorem t23 : andB [Pk.all l163_5 P0 H_232 4000 163, Pk.all l163_6 P0 H_232 4000 163, Pk.all l238_0 P0 H_163 4000 238, Pk.all l236_0 P0 H_238 4000 236, Pk.all l172_0 P0 H_236 4000 172, Pk.all l173_0 P0 H_172 4000 173, Pk.all l285_0 P0 H_173 4000 285] = true := by kernel_rfl
theorem s163_5 (h : HO P0 H_232) : Snd P0 163 (Pk.any l163_5) := Pk.allSnd h (andB_ok t23 0 _ rfl)
theorem s163_6 (h : HO P0 H_232) : Snd P0 163 (Pk.any l163_6) := Pk.allSnd h (andB_ok t23 1 _ rfl)
theorem s238_0 (h : HO P0 H_163) : Snd P0 238 (Pk.any l238_0) := Pk.allSnd h (andB_ok t23 2 _ rfl)
theorem s236_0 (h : HO P0 H_238) : Snd P0 236 (Pk.any l236_0) := Pk.allSnd h (andB_ok t23 3 _ rfl)
theorem s172_0 (h : HO P0 H_236) : Snd P0 172 (Pk.any l172_0) := Pk.allSnd h (andB_ok t23 4 _ rfl)
theorem s173_0 (h : HO P0 H_172) : Snd P0 173 (Pk.any l173_0) := Pk.allSnd h (andB_ok t23 5 _ rfl)
theorem s285_0 (h : HO P0 H_173) : Snd P0 285 (Pk.any l285_0) := Pk.allSnd h (andB_ok t23 6 _ rfl)
theorem t39 : andB [Pk.all l66_9 P0 H_217 4000 66, Pk.all l66_10 P0 H_217 4000 66, Pk.all l66_11 P0 H_217 4000 66] = true := by kernel_rfl
theorem s66_9 (h : HO P0 H_217) : Snd P0 66 (Pk.any l66_9) := Pk.allSnd h (andB_ok t39 0 _ rfl)
theorem s66_10 (h : HO P0 H_217) : Snd P0 66 (Pk.any l66_10) := Pk.allSnd h (andB_ok t39 1 _ rfl)
theorem s66_11 (h : HO P0 H_217) : Snd P0 66 (Pk.any l66_11) := Pk.allSnd h (andB_ok t39 2 _ rfl)
theorem t55 : andB [Pk.all l31_0 P0 H_253 4000 31, Pk.all l31_1 P0 H_253 4000 31] = true := by kernel_rfl
theorem s31_0 (h : HO P0 H_253) : Snd P0 31 (Pk.any l31_0) := Pk.allSnd h (andB_ok t55 0 _ rfl)
theorem s31_1 (h : HO P0 H_253) : Snd P0 31 (Pk.any l31_1) := Pk.allSnd h (andB_ok t55 1 _ rfl)
theorem t71 : andB [Pc.all l166_28 P0 H_286 4000 166, Pc.all l166_29 P0 H_286 4000 166, Pc.all l166_30 P0 H_286 4000 166] = true := by kernel_rfl
theorem s166_28 (h : HO P0 H_286) : Snd P0 166 (Pc.any l166_28) := Pc.allSnd h (andB_ok t71 0 _ rfl)
theorem s166_29 (h : HO P0 H_286) : Snd P0 166 (Pc.any l166_29) := Pc.allSnd h (andB_ok t71 1 _ rfl)
theorem s166_30 (h : HO P0 H_286) : Snd P0 166 (Pc.any l166_30) := Pc.allSnd h (andB_ok t71 2 _ rfl)
theorem t87 : andB [Pk.all l31_2 P0 H_253 4000 31, Pk.all l31_3 P0 H_253 4000 31] = true := by kernel_rfl
theorem s31_2 (h : HO P0 H_253) : Snd P0 31 (Pk.any l31_2) := Pk.allSnd h (andB_ok t87 0 _ rfl)
theorem s31_3 (h : HO P0 H_253) : Snd P0 31 (Pk.any l31_3) := Pk.allSnd h (andB_ok t87 1 _ rfl)
theorem t103 : andB [Pk.all l121_23 P0 H_202 4000 121, Pk.all l121_24 P0 H_202 4000 121] = true := by kernel_rfl
theorem s121_23 (h : HO P0 H_202) : Snd P0 121 (Pk.any l121_23) := Pk.allSnd h (andB_ok t103 0 _ rfl)
theorem s121_24 (h : HO P0 H_202) : Snd P0 121 (Pk.any l121_24) := Pk.allSnd h (andB_ok t103 1 _ rfl)
theorem t119 : andB [Pk.all l138_0 P0 H_109 4000 138, Pk.all l32_0 P0 H_138 4000 32] = true := by kernel_rfl
theorem s138_0 (h : HO P0 H_109) : Snd P0 138 (Pk.any l138_0) := Pk.allSnd h (andB_ok t119 0 _ rfl)
theorem s32_0 (h : HO P0 H_138) : Snd P0 32 (Pk.any l32_0) := Pk.allSnd h (andB_ok t119 1 _ rfl)
theorem t135 : andB [Pc.all l124_7 P0 H_205 4000 124, Pc.all l124_8 P0 H_205 4000 124] = true := by kernel_rfl
theorem s124_7 (h : HO P0 H_205) : Snd P0 124 (Pc.any l124_7) := Pc.allSnd h (andB_ok t135 0 _ rfl)
theorem s124_8 (h : HO P0 H_205) : Snd P0 124 (Pc.any l124_8) := Pc.allSnd h (andB_ok t135 1 _ rfl)
theorem t151 : andB [Pk.all l121_31 P0 H_202 4000 121, Pk.all l121_32 P0 H_202 4000 121] = true := by kernel_rfl
theorem s121_31 (h : HO P0 H_202) : Snd P0 121 (Pk.any l121_31) := Pk.allSnd h (andB_ok t151 0 _ rfl)
theorem s121_32 (h : HO P0 H_202) : Snd P0 121 (Pk.any l121_32) := Pk.allSnd h (andB_ok t151 1 _ rfl)
theorem t161 : andB [Pc.all l166_22 P0 H_286 4000 166] = true := by kernel_rfl
theorem s166_22 (h : HO P0 H_286) : Snd P0 166 (Pc.any l166_22) := Pc.allSnd h (andB_ok t161 0 _ rfl)
theorem t185 : andB [Pc.allN l161_4 P0 H_54 4000 161] = true := by kernel_rfl
theorem s161_4 (h : HO P0 H_54) : Snd P0 161 (Pc.any l161_4) := Pc.allSndN h (andB_ok t185 0 _ rfl)
theorem t201 : andB [Pk.all l12_3 P0 H_99 4000 12, Pk.all l12_4 P0 H_99 4000 12] = true := by kernel_rfl
theorem s12_3 (h : HO P0 H_99) : Snd P0 12 (Pk.any l12_3) := Pk.allSnd h (andB_ok t201 0 _ rfl)
theorem s12_4 (h : HO P0 H_99) : Snd P0 12 (Pk.any l12_4) := Pk.allSnd h (andB_ok t201 1 _ rfl)
theorem t211 : andB [Pc.all l166_115 P0 H_286 4000 166] = true := by kernel_rfl
theorem s166_115 (h : HO P0 H_286) : Snd P0 166 (Pc.any l166_115) := Pc.allSnd h (andB_ok t211 0 _ rfl)
end Go.Proofs.YteakajbedjdggaaGreatDoor
