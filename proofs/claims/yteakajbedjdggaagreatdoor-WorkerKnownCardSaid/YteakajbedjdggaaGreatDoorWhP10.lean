import Derived.Test.YteakajbedjdggaaGreatDoorWhDB
/-
  Calls on the examples of the law, found once: each is run by the kernel on a small memory of its own.
-/
set_option maxRecDepth 1000000
noncomputable section
namespace Go.Proofs.YteakajbedjdggaaGreatDoor
open Go Go.RowKit Go.Sx
theorem t10 : andB [Pc.all l166_106 P0 H_286 4000 166] = true := by kernel_rfl
theorem s166_106 (h : HO P0 H_286) : Snd P0 166 (Pc.any l166_106) := Pc.allSnd h (andB_ok t10 0 _ rfl)
theorem t13 : andB [Pk.all l48_8 P0 H_125 4000 48] = true := by kernel_rfl
theorem s48_8 (h : HO P0 H_125) : Snd P0 48 (Pk.any l48_8) := Pk.allSnd h (andB_ok t13 0 _ rfl)
theorem t24 : andB [Pk.all l265_0 P0 H_121 4000 265, Pk.all l205_0 P0 H_265 4000 205, Pc.all l124_0 P0 H_205 4000 124] = true := by kernel_rfl
theorem s265_0 (h : HO P0 H_121) : Snd P0 265 (Pk.any l265_0) := Pk.allSnd h (andB_ok t24 0 _ rfl)
theorem s205_0 (h : HO P0 H_265) : Snd P0 205 (Pk.any l205_0) := Pk.allSnd h (andB_ok t24 1 _ rfl)
theorem s124_0 (h : HO P0 H_205) : Snd P0 124 (Pc.any l124_0) := Pc.allSnd h (andB_ok t24 2 _ rfl)
theorem t36 : andB [Pc.all l166_49 P0 H_286 4000 166, Pc.all l166_50 P0 H_286 4000 166] = true := by kernel_rfl
theorem s166_49 (h : HO P0 H_286) : Snd P0 166 (Pc.any l166_49) := Pc.allSnd h (andB_ok t36 0 _ rfl)
theorem s166_50 (h : HO P0 H_286) : Snd P0 166 (Pc.any l166_50) := Pc.allSnd h (andB_ok t36 1 _ rfl)
theorem t48 : andB [Pk.all l66_17 P0 H_217 4000 66, Pk.all l66_18 P0 H_217 4000 66] = true := by kernel_rfl
theorem s66_17 (h : HO P0 H_217) : Snd P0 66 (Pk.any l66_17) := Pk.allSnd h (andB_ok t48 0 _ rfl)
theorem s66_18 (h : HO P0 H_217) : Snd P0 66 (Pk.any l66_18) := Pk.allSnd h (andB_ok t48 1 _ rfl)
theorem t60 : andB [Pk.all l145_0 P0 H_51 4000 145, Pk.all l213_0 P0 H_145 4000 213, Pk.all l246_0 P0 H_213 4000 246, Pc.allN l252_0 P0 H_246 4000 252, Pk.all l253_0 P0 H_252 4000 253, Pk.all l14_0 P0 H_253 4000 14] = true := by kernel_rfl
theorem s145_0 (h : HO P0 H_51) : Snd P0 145 (Pk.any l145_0) := Pk.allSnd h (andB_ok t60 0 _ rfl)
theorem s213_0 (h : HO P0 H_145) : Snd P0 213 (Pk.any l213_0) := Pk.allSnd h (andB_ok t60 1 _ rfl)
theorem s246_0 (h : HO P0 H_213) : Snd P0 246 (Pk.any l246_0) := Pk.allSnd h (andB_ok t60 2 _ rfl)
theorem s252_0 (h : HO P0 H_246) : Snd P0 252 (Pc.any l252_0) := Pc.allSndN h (andB_ok t60 3 _ rfl)
theorem s253_0 (h : HO P0 H_252) : Snd P0 253 (Pk.any l253_0) := Pk.allSnd h (andB_ok t60 4 _ rfl)
theorem s14_0 (h : HO P0 H_253) : Snd P0 14 (Pk.any l14_0) := Pk.allSnd h (andB_ok t60 5 _ rfl)
theorem t72 : andB [Pk.all l121_0 P0 H_202 4000 121, Pk.all l121_1 P0 H_202 4000 121] = true := by kernel_rfl
theorem s121_0 (h : HO P0 H_202) : Snd P0 121 (Pk.any l121_0) := Pk.allSnd h (andB_ok t72 0 _ rfl)
theorem s121_1 (h : HO P0 H_202) : Snd P0 121 (Pk.any l121_1) := Pk.allSnd h (andB_ok t72 1 _ rfl)
theorem t87 : andB [Pc.allN l161_2 P0 H_88 4000 161, Pc.allN l161_3 P0 H_88 4000 161] = true := by kernel_rfl
theorem s161_2 (h : HO P0 H_88) : Snd P0 161 (Pc.any l161_2) := Pc.allSndN h (andB_ok t87 0 _ rfl)
theorem s161_3 (h : HO P0 H_88) : Snd P0 161 (Pc.any l161_3) := Pc.allSndN h (andB_ok t87 1 _ rfl)
theorem t96 : andB [Pc.all l166_12 P0 H_286 4000 166, Pc.all l166_13 P0 H_286 4000 166] = true := by kernel_rfl
theorem s166_12 (h : HO P0 H_286) : Snd P0 166 (Pc.any l166_12) := Pc.allSnd h (andB_ok t96 0 _ rfl)
theorem s166_13 (h : HO P0 H_286) : Snd P0 166 (Pc.any l166_13) := Pc.allSnd h (andB_ok t96 1 _ rfl)
theorem t108 : andB [Pk.all l48_4 P0 H_125 4000 48] = true := by kernel_rfl
theorem s48_4 (h : HO P0 H_125) : Snd P0 48 (Pk.any l48_4) := Pk.allSnd h (andB_ok t108 0 _ rfl)
theorem t123 : andB [Pc.all l166_126 P0 H_286 4000 166] = true := by kernel_rfl
theorem s166_126 (h : HO P0 H_286) : Snd P0 166 (Pc.any l166_126) := Pc.allSnd h (andB_ok t123 0 _ rfl)
theorem t136 : andB [Pc.all l166_115 P0 H_286 4000 166] = true := by kernel_rfl
theorem s166_115 (h : HO P0 H_286) : Snd P0 166 (Pc.any l166_115) := Pc.allSnd h (andB_ok t136 0 _ rfl)
theorem t144 : andB [Pk.all l131_0 P0 H_28 4000 131, Pk.all l131_1 P0 H_28 4000 131] = true := by kernel_rfl
theorem s131_0 (h : HO P0 H_28) : Snd P0 131 (Pk.any l131_0) := Pk.allSnd h (andB_ok t144 0 _ rfl)
theorem s131_1 (h : HO P0 H_28) : Snd P0 131 (Pk.any l131_1) := Pk.allSnd h (andB_ok t144 1 _ rfl)
theorem t158 : andB [Pc.allN l161_6 P0 H_88 4000 161] = true := by kernel_rfl
theorem s161_6 (h : HO P0 H_88) : Snd P0 161 (Pc.any l161_6) := Pc.allSndN h (andB_ok t158 0 _ rfl)
theorem t170 : andB [Pc.all l166_117 P0 H_286 4000 166] = true := by kernel_rfl
theorem s166_117 (h : HO P0 H_286) : Snd P0 166 (Pc.any l166_117) := Pc.allSnd h (andB_ok t170 0 _ rfl)
theorem t184 : andB [Pk.all l14_3 P0 H_253 4000 14] = true := by kernel_rfl
theorem s14_3 (h : HO P0 H_253) : Snd P0 14 (Pk.any l14_3) := Pk.allSnd h (andB_ok t184 0 _ rfl)
end Go.Proofs.YteakajbedjdggaaGreatDoor
