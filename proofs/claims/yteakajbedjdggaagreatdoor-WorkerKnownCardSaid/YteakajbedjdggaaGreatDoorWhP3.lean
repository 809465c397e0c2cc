import Derived.Test.YteakajbedjdggaaGreatDoorWhDB
/-
  Calls on the examples of the law, found once: each is run by the kernel on a small memory of its own.
-/
set_option maxRecDepth 1000000
noncomputable section
namespace Go.Proofs.YteakajbedjdggaaGreatDoor
open Go Go.RowKit Go.Sx
theorem t3 : andB [Pk.all l81_27 P0 H_167 4000 81] = true := by kernel_rfl
theorem s81_27 (h : HO P0 H_167) : Snd P0 81 (Pk.any l81_27) := Pk.allSnd h (andB_ok t3 0 _ rfl)
theorem t20 : andB [Pc.all l166_120 P0 H_286 4000 166, Pc.all l166_121 P0 H_286 4000 166] = true := by kernel_rfl
theorem s166_120 (h : HO P0 H_286) : Snd P0 166 (Pc.any l166_120) := Pc.allSnd h (andB_ok t20 0 _ rfl)
theorem s166_121 (h : HO P0 H_286) : Snd P0 166 (Pc.any l166_121) := Pc.allSnd h (andB_ok t20 1 _ rfl)
theorem t32 : andB [Pk.all l66_27 P0 H_217 4000 66, Pk.all l85_0 P0 H_66 4000 85, Pk.all l156_0 P0 H_85 4000 156] = true := by kernel_rfl
theorem s66_27 (h : HO P0 H_217) : Snd P0 66 (Pk.any l66_27) := Pk.allSnd h (andB_ok t32 0 _ rfl)
theorem s85_0 (h : HO P0 H_66) : Snd P0 85 (Pk.any l85_0) := Pk.allSnd h (andB_ok t32 1 _ rfl)
theorem s156_0 (h : HO P0 H_85) : Snd P0 156 (Pk.any l156_0) := Pk.allSnd h (andB_ok t32 2 _ rfl)
theorem t44 : andB [Pc.all l166_70 P0 H_286 4000 166, Pc.all l166_71 P0 H_286 4000 166] = true := by kernel_rfl
theorem s166_70 (h : HO P0 H_286) : Snd P0 166 (Pc.any l166_70) := Pc.allSnd h (andB_ok t44 0 _ rfl)
theorem s166_71 (h : HO P0 H_286) : Snd P0 166 (Pc.any l166_71) := Pc.allSnd h (andB_ok t44 1 _ rfl)
theorem t56 : andB [Pk.all l66_21 P0 H_217 4000 66, Pk.all l66_22 P0 H_217 4000 66] = true := by kernel_rfl
theorem s66_21 (h : HO P0 H_217) : Snd P0 66 (Pk.any l66_21) := Pk.allSnd h (andB_ok t56 0 _ rfl)
theorem s66_22 (h : HO P0 H_217) : Snd P0 66 (Pk.any l66_22) := Pk.allSnd h (andB_ok t56 1 _ rfl)
theorem t68 : andB [Pk.all l130_2 P0 H_131 4000 130, Pk.all l130_3 P0 H_131 4000 130] = true := by kernel_rfl
theorem s130_2 (h : HO P0 H_131) : Snd P0 130 (Pk.any l130_2) := Pk.allSnd h (andB_ok t68 0 _ rfl)
theorem s130_3 (h : HO P0 H_131) : Snd P0 130 (Pk.any l130_3) := Pk.allSnd h (andB_ok t68 1 _ rfl)
theorem t80 : andB [Pc.all l166_112 P0 H_286 4000 166] = true := by kernel_rfl
theorem s166_112 (h : HO P0 H_286) : Snd P0 166 (Pc.any l166_112) := Pc.allSnd h (andB_ok t80 0 _ rfl)
theorem t92 : andB [Pc.all l166_32 P0 H_286 4000 166] = true := by kernel_rfl
theorem s166_32 (h : HO P0 H_286) : Snd P0 166 (Pc.any l166_32) := Pc.allSnd h (andB_ok t92 0 _ rfl)
theorem t104 : andB [Pk.all l14_1 P0 H_253 4000 14, Pk.all l14_2 P0 H_253 4000 14] = true := by kernel_rfl
theorem s14_1 (h : HO P0 H_253) : Snd P0 14 (Pk.any l14_1) := Pk.allSnd h (andB_ok t104 0 _ rfl)
theorem s14_2 (h : HO P0 H_253) : Snd P0 14 (Pk.any l14_2) := Pk.allSnd h (andB_ok t104 1 _ rfl)
theorem t116 : andB [Pc.all l166_63 P0 H_286 4000 166, Pc.all l166_64 P0 H_286 4000 166] = true := by kernel_rfl
theorem s166_63 (h : HO P0 H_286) : Snd P0 166 (Pc.any l166_63) := Pc.allSnd h (andB_ok t116 0 _ rfl)
theorem s166_64 (h : HO P0 H_286) : Snd P0 166 (Pc.any l166_64) := Pc.allSnd h (andB_ok t116 1 _ rfl)
theorem t128 : andB [Pc.all l166_108 P0 H_286 4000 166] = true := by kernel_rfl
theorem s166_108 (h : HO P0 H_286) : Snd P0 166 (Pc.any l166_108) := Pc.allSnd h (andB_ok t128 0 _ rfl)
theorem t140 : andB [Pc.all l166_105 P0 H_286 4000 166] = true := by kernel_rfl
theorem s166_105 (h : HO P0 H_286) : Snd P0 166 (Pc.any l166_105) := Pc.allSnd h (andB_ok t140 0 _ rfl)
theorem t152 : andB [Pk.all l167_0 P0 H_166 4000 167, Pk.all l167_1 P0 H_166 4000 167] = true := by kernel_rfl
theorem s167_0 (h : HO P0 H_166) : Snd P0 167 (Pk.any l167_0) := Pk.allSnd h (andB_ok t152 0 _ rfl)
theorem s167_1 (h : HO P0 H_166) : Snd P0 167 (Pk.any l167_1) := Pk.allSnd h (andB_ok t152 1 _ rfl)
theorem t161 : andB [Pc.allN l161_9 P0 H_88 4000 161] = true := by kernel_rfl
theorem s161_9 (h : HO P0 H_88) : Snd P0 161 (Pc.any l161_9) := Pc.allSndN h (andB_ok t161 0 _ rfl)
theorem t176 : andB [Pc.all l166_92 P0 H_286 4000 166] = true := by kernel_rfl
theorem s166_92 (h : HO P0 H_286) : Snd P0 166 (Pc.any l166_92) := Pc.allSnd h (andB_ok t176 0 _ rfl)
theorem t180 : andB [Pc.all l166_94 P0 H_286 4000 166] = true := by kernel_rfl
theorem s166_94 (h : HO P0 H_286) : Snd P0 166 (Pc.any l166_94) := Pc.allSnd h (andB_ok t180 0 _ rfl)
end Go.Proofs.YteakajbedjdggaaGreatDoor
