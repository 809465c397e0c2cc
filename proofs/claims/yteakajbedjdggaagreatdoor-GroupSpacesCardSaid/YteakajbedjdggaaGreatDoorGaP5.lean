import Derived.Test.YteakajbedjdggaaGreatDoorGaDC
/-
  Calls on the examples of the law, found once: each is run by the kernel on a small memory of its own.
-/
set_option maxRecDepth 1000000
noncomputable section
namespace Go.Proofs.YteakajbedjdggaaGreatDoor
open Go Go.RowKit Go.Sx
theorem t5 : andB [Pc.all l166_76 P0 H_286 4000 166] = true := by kernel_rfl
theorem s166_76 (h : HO P0 H_286) : Snd P0 166 (Pc.any l166_76) := Pc.allSnd h (andB_ok t5 0 _ rfl)
theorem t26 : andB [Pc.all l166_112 P0 H_286 4000 166] = true := by kernel_rfl
theorem s166_112 (h : HO P0 H_286) : Snd P0 166 (Pc.any l166_112) := Pc.allSnd h (andB_ok t26 0 _ rfl)
theorem t42 : andB [Pc.all l124_15 P0 H_205 4000 124, Pc.all l124_16 P0 H_205 4000 124] = true := by kernel_rfl
theorem s124_15 (h : HO P0 H_205) : Snd P0 124 (Pc.any l124_15) := Pc.allSnd h (andB_ok t42 0 _ rfl)
theorem s124_16 (h : HO P0 H_205) : Snd P0 124 (Pc.any l124_16) := Pc.allSnd h (andB_ok t42 1 _ rfl)
theorem t58 : andB [Pk.all l32_5 P0 H_138 4000 32, Pk.all l193_0 P0 H_32 4000 193, Pk.all l126_0 P0 H_193 4000 126, Pk.all l190_0 P0 H_126 4000 190] = true := by kernel_rfl
theorem s32_5 (h : HO P0 H_138) : Snd P0 32 (Pk.any l32_5) := Pk.allSnd h (andB_ok t58 0 _ rfl)
theorem s193_0 (h : HO P0 H_32) : Snd P0 193 (Pk.any l193_0) := Pk.allSnd h (andB_ok t58 1 _ rfl)
theorem s126_0 (h : HO P0 H_193) : Snd P0 126 (Pk.any l126_0) := Pk.allSnd h (andB_ok t58 2 _ rfl)
theorem s190_0 (h : HO P0 H_126) : Snd P0 190 (Pk.any l190_0) := Pk.allSnd h (andB_ok t58 3 _ rfl)
theorem t74 : andB [Pk.all l121_1 P0 H_202 4000 121, Pk.all l121_2 P0 H_202 4000 121] = true := by kernel_rfl
theorem s121_1 (h : HO P0 H_202) : Snd P0 121 (Pk.any l121_1) := Pk.allSnd h (andB_ok t74 0 _ rfl)
theorem s121_2 (h : HO P0 H_202) : Snd P0 121 (Pk.any l121_2) := Pk.allSnd h (andB_ok t74 1 _ rfl)
theorem t90 : andB [Pc.all l124_23 P0 H_205 4000 124, Pc.all l124_24 P0 H_205 4000 124, Pc.all l124_25 P0 H_205 4000 124] = true := by kernel_rfl
theorem s124_23 (h : HO P0 H_205) : Snd P0 124 (Pc.any l124_23) := Pc.allSnd h (andB_ok t90 0 _ rfl)
theorem s124_24 (h : HO P0 H_205) : Snd P0 124 (Pc.any l124_24) := Pc.allSnd h (andB_ok t90 1 _ rfl)
theorem s124_25 (h : HO P0 H_205) : Snd P0 124 (Pc.any l124_25) := Pc.allSnd h (andB_ok t90 2 _ rfl)
theorem t106 : andB [Pc.all l166_57 P0 H_286 4000 166, Pc.all l166_58 P0 H_286 4000 166] = true := by kernel_rfl
theorem s166_57 (h : HO P0 H_286) : Snd P0 166 (Pc.any l166_57) := Pc.allSnd h (andB_ok t106 0 _ rfl)
theorem s166_58 (h : HO P0 H_286) : Snd P0 166 (Pc.any l166_58) := Pc.allSnd h (andB_ok t106 1 _ rfl)
theorem t122 : andB [Pk.all l156_0 P0 H_85 4000 156, Pk.all l156_1 P0 H_85 4000 156] = true := by kernel_rfl
theorem s156_0 (h : HO P0 H_85) : Snd P0 156 (Pk.any l156_0) := Pk.allSnd h (andB_ok t122 0 _ rfl)
theorem s156_1 (h : HO P0 H_85) : Snd P0 156 (Pk.any l156_1) := Pk.allSnd h (andB_ok t122 1 _ rfl)
theorem t138 : andB [Pc.all l124_31 P0 H_205 4000 124, Pc.all l124_32 P0 H_205 4000 124] = true := by kernel_rfl
theorem s124_31 (h : HO P0 H_205) : Snd P0 124 (Pc.any l124_31) := Pc.allSnd h (andB_ok t138 0 _ rfl)
theorem s124_32 (h : HO P0 H_205) : Snd P0 124 (Pc.any l124_32) := Pc.allSnd h (andB_ok t138 1 _ rfl)
theorem t154 : andB [Pk.all l26_4 P0 H_156 4000 26, Pk.all l26_5 P0 H_156 4000 26] = true := by kernel_rfl
theorem s26_4 (h : HO P0 H_156) : Snd P0 26 (Pk.any l26_4) := Pk.allSnd h (andB_ok t154 0 _ rfl)
theorem s26_5 (h : HO P0 H_156) : Snd P0 26 (Pk.any l26_5) := Pk.allSnd h (andB_ok t154 1 _ rfl)
theorem t170 : andB [Pc.all l166_72 P0 H_286 4000 166] = true := by kernel_rfl
theorem s166_72 (h : HO P0 H_286) : Snd P0 166 (Pc.any l166_72) := Pc.allSnd h (andB_ok t170 0 _ rfl)
theorem t176 : andB [Pc.all l166_13 P0 H_286 4000 166, Pc.all l166_14 P0 H_286 4000 166, Pk.all l166_15 P0 H_286 4000 166] = true := by kernel_rfl
theorem s166_13 (h : HO P0 H_286) : Snd P0 166 (Pc.any l166_13) := Pc.allSnd h (andB_ok t176 0 _ rfl)
theorem s166_14 (h : HO P0 H_286) : Snd P0 166 (Pc.any l166_14) := Pc.allSnd h (andB_ok t176 1 _ rfl)
theorem s166_15 (h : HO P0 H_286) : Snd P0 166 (Pk.any l166_15) := Pk.allSnd h (andB_ok t176 2 _ rfl)
theorem t192 : andB [Pc.all l166_102 P0 H_286 4000 166] = true := by kernel_rfl
theorem s166_102 (h : HO P0 H_286) : Snd P0 166 (Pc.any l166_102) := Pc.allSnd h (andB_ok t192 0 _ rfl)
theorem t208 : andB [Pc.all l166_113 P0 H_286 4000 166] = true := by kernel_rfl
theorem s166_113 (h : HO P0 H_286) : Snd P0 166 (Pc.any l166_113) := Pc.allSnd h (andB_ok t208 0 _ rfl)
end Go.Proofs.YteakajbedjdggaaGreatDoor
