import Derived.Test.YteakajbedjdggaaGreatDoorWhDB
/-
  Calls on the examples of the law, found once: each is run by the kernel on a small memory of its own.
-/
set_option maxRecDepth 1000000
noncomputable section
namespace Go.Proofs.YteakajbedjdggaaGreatDoor
open Go Go.RowKit Go.Sx
theorem t6 : andB [Pk.all l81_23 P0 H_167 4000 81] = true := by kernel_rfl
theorem s81_23 (h : HO P0 H_167) : Snd P0 81 (Pk.any l81_23) := Pk.allSnd h (andB_ok t6 0 _ rfl)
theorem t17 : andB [Pk.all l125_2 P0 H_124 4000 125, Pk.all l125_3 P0 H_124 4000 125, Pk.all l125_4 P0 H_124 4000 125] = true := by kernel_rfl
theorem s125_2 (h : HO P0 H_124) : Snd P0 125 (Pk.any l125_2) := Pk.allSnd h (andB_ok t17 0 _ rfl)
theorem s125_3 (h : HO P0 H_124) : Snd P0 125 (Pk.any l125_3) := Pk.allSnd h (andB_ok t17 1 _ rfl)
theorem s125_4 (h : HO P0 H_124) : Snd P0 125 (Pk.any l125_4) := Pk.allSnd h (andB_ok t17 2 _ rfl)
theorem t29 : andB [Pk.all l121_4 P0 H_202 4000 121, Pk.all l121_5 P0 H_202 4000 121] = true := by kernel_rfl
theorem s121_4 (h : HO P0 H_202) : Snd P0 121 (Pk.any l121_4) := Pk.allSnd h (andB_ok t29 0 _ rfl)
theorem s121_5 (h : HO P0 H_202) : Snd P0 121 (Pk.any l121_5) := Pk.allSnd h (andB_ok t29 1 _ rfl)
theorem t43 : andB [Pk.all l286_0 P0 H_285 4000 286, Pk.all l286_1 P0 H_285 4000 286, Pk.all l166_0 P0 H_286 4000 166, Pc.all l166_1 P0 H_286 4000 166, Pk.all l166_2 P0 H_286 4000 166] = true := by kernel_rfl
theorem s286_0 (h : HO P0 H_285) : Snd P0 286 (Pk.any l286_0) := Pk.allSnd h (andB_ok t43 0 _ rfl)
theorem s286_1 (h : HO P0 H_285) : Snd P0 286 (Pk.any l286_1) := Pk.allSnd h (andB_ok t43 1 _ rfl)
theorem s166_0 (h : HO P0 H_286) : Snd P0 166 (Pk.any l166_0) := Pk.allSnd h (andB_ok t43 2 _ rfl)
theorem s166_1 (h : HO P0 H_286) : Snd P0 166 (Pc.any l166_1) := Pc.allSnd h (andB_ok t43 3 _ rfl)
theorem s166_2 (h : HO P0 H_286) : Snd P0 166 (Pk.any l166_2) := Pk.allSnd h (andB_ok t43 4 _ rfl)
theorem t53 : andB [Pk.all l66_19 P0 H_217 4000 66, Pk.all l66_20 P0 H_217 4000 66] = true := by kernel_rfl
theorem s66_19 (h : HO P0 H_217) : Snd P0 66 (Pk.any l66_19) := Pk.allSnd h (andB_ok t53 0 _ rfl)
theorem s66_20 (h : HO P0 H_217) : Snd P0 66 (Pk.any l66_20) := Pk.allSnd h (andB_ok t53 1 _ rfl)
theorem t66 : andB [Pc.all l166_65 P0 H_286 4000 166, Pc.all l166_66 P0 H_286 4000 166, Pc.all l166_67 P0 H_286 4000 166] = true := by kernel_rfl
theorem s166_65 (h : HO P0 H_286) : Snd P0 166 (Pc.any l166_65) := Pc.allSnd h (andB_ok t66 0 _ rfl)
theorem s166_66 (h : HO P0 H_286) : Snd P0 166 (Pc.any l166_66) := Pc.allSnd h (andB_ok t66 1 _ rfl)
theorem s166_67 (h : HO P0 H_286) : Snd P0 166 (Pc.any l166_67) := Pc.allSnd h (andB_ok t66 2 _ rfl)
theorem t78 : andB [Pk.all l66_13 P0 H_217 4000 66, Pk.all l66_14 P0 H_217 4000 66] = true := by kernel_rfl
theorem s66_13 (h : HO P0 H_217) : Snd P0 66 (Pk.any l66_13) := Pk.allSnd h (andB_ok t78 0 _ rfl)
theorem s66_14 (h : HO P0 H_217) : Snd P0 66 (Pk.any l66_14) := Pk.allSnd h (andB_ok t78 1 _ rfl)
theorem t90 : andB [Pc.all l166_58 P0 H_286 4000 166, Pc.all l166_59 P0 H_286 4000 166, Pc.all l166_60 P0 H_286 4000 166] = true := by kernel_rfl
theorem s166_58 (h : HO P0 H_286) : Snd P0 166 (Pc.any l166_58) := Pc.allSnd h (andB_ok t90 0 _ rfl)
theorem s166_59 (h : HO P0 H_286) : Snd P0 166 (Pc.any l166_59) := Pc.allSnd h (andB_ok t90 1 _ rfl)
theorem s166_60 (h : HO P0 H_286) : Snd P0 166 (Pc.any l166_60) := Pc.allSnd h (andB_ok t90 2 _ rfl)
theorem t102 : andB [Pk.all l14_4 P0 H_253 4000 14] = true := by kernel_rfl
theorem s14_4 (h : HO P0 H_253) : Snd P0 14 (Pk.any l14_4) := Pk.allSnd h (andB_ok t102 0 _ rfl)
theorem t114 : andB [Pk.all l156_1 P0 H_85 4000 156, Pk.all l26_0 P0 H_156 4000 26] = true := by kernel_rfl
theorem s156_1 (h : HO P0 H_85) : Snd P0 156 (Pk.any l156_1) := Pk.allSnd h (andB_ok t114 0 _ rfl)
theorem s26_0 (h : HO P0 H_156) : Snd P0 26 (Pk.any l26_0) := Pk.allSnd h (andB_ok t114 1 _ rfl)
theorem t127 : andB [Pc.all l166_31 P0 H_286 4000 166] = true := by kernel_rfl
theorem s166_31 (h : HO P0 H_286) : Snd P0 166 (Pc.any l166_31) := Pc.allSnd h (andB_ok t127 0 _ rfl)
theorem t138 : andB [Pk.all l77_0 P0 H_161 4000 77, Pk.all l77_1 P0 H_161 4000 77] = true := by kernel_rfl
theorem s77_0 (h : HO P0 H_161) : Snd P0 77 (Pk.any l77_0) := Pk.allSnd h (andB_ok t138 0 _ rfl)
theorem s77_1 (h : HO P0 H_161) : Snd P0 77 (Pk.any l77_1) := Pk.allSnd h (andB_ok t138 1 _ rfl)
theorem t149 : andB [Pk.all l14_5 P0 H_253 4000 14] = true := by kernel_rfl
theorem s14_5 (h : HO P0 H_253) : Snd P0 14 (Pk.any l14_5) := Pk.allSnd h (andB_ok t149 0 _ rfl)
theorem t165 : andB [Pk.all l81_10 P0 H_167 4000 81, Pk.all l81_11 P0 H_167 4000 81] = true := by kernel_rfl
theorem s81_10 (h : HO P0 H_167) : Snd P0 81 (Pk.any l81_10) := Pk.allSnd h (andB_ok t165 0 _ rfl)
theorem s81_11 (h : HO P0 H_167) : Snd P0 81 (Pk.any l81_11) := Pk.allSnd h (andB_ok t165 1 _ rfl)
theorem t173 : andB [Pc.all l166_40 P0 H_286 4000 166] = true := by kernel_rfl
theorem s166_40 (h : HO P0 H_286) : Snd P0 166 (Pc.any l166_40) := Pc.allSnd h (andB_ok t173 0 _ rfl)
theorem t188 : andB [Pk.all l81_4 P0 H_167 4000 81] = true := by kernel_rfl
theorem s81_4 (h : HO P0 H_167) : Snd P0 81 (Pk.any l81_4) := Pk.allSnd h (andB_ok t188 0 _ rfl)
end Go.Proofs.YteakajbedjdggaaGreatDoor
