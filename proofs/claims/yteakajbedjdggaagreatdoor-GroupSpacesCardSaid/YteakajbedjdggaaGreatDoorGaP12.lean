import Derived.Test.YteakajbedjdggaaGreatDoorGaDC
/-
  Calls on the examples of the law, found once: each is run by the kernel on a small memory of its own.
-/
set_option maxRecDepth 1000000
noncomputable section
namespace Go.Proofs.YteakajbedjdggaaGreatDoor
open Go Go.RowKit Go.Sx
theorem t12 : andB [Pc.allN l161_0 P0 H_54 4000 161, Pc.allN l161_1 P0 H_54 4000 161] = true := by kernel_rfl
theorem s161_0 (h : HO P0 H_54) : Snd P0 161 (Pc.any l161_0) := Pc.allSndN h (andB_ok t12 0 _ rfl)
theorem s161_1 (h : HO P0 H_54) : Snd P0 161 (Pc.any l161_1) := Pc.allSndN h (andB_ok t12 1 _ rfl)
theorem t19 : andB [Pk.all l163_1 P0 H_232 4000 163, Pk.all l163_2 P0 H_232 4000 163] = true := by kernel_rfl
theorem s163_1 (h : HO P0 H_232) : Snd P0 163 (Pk.any l163_1) := Pk.allSnd h (andB_ok t19 0 _ rfl)
theorem s163_2 (h : HO P0 H_232) : Snd P0 163 (Pk.any l163_2) := Pk.allSnd h (andB_ok t19 1 _ rfl)
theorem t35 : andB [Pc.all l124_17 P0 H_205 4000 124, Pc.all l124_18 P0 H_205 4000 124, Pc.all l124_19 P0 H_205 4000 124] = true := by kernel_rfl
theorem s124_17 (h : HO P0 H_205) : Snd P0 124 (Pc.any l124_17) := Pc.allSnd h (andB_ok t35 0 _ rfl)
theorem s124_18 (h : HO P0 H_205) : Snd P0 124 (Pc.any l124_18) := Pc.allSnd h (andB_ok t35 1 _ rfl)
theorem s124_19 (h : HO P0 H_205) : Snd P0 124 (Pc.any l124_19) := Pc.allSnd h (andB_ok t35 2 _ rfl)
theorem t49 : andB [Pk.all l125_1 P0 H_124 4000 125, Pk.all l125_2 P0 H_124 4000 125] = true := by kernel_rfl
theorem s125_1 (h : HO P0 H_124) : Snd P0 125 (Pk.any l125_1) := Pk.allSnd h (andB_ok t49 0 _ rfl)
theorem s125_2 (h : HO P0 H_124) : Snd P0 125 (Pk.any l125_2) := Pk.allSnd h (andB_ok t49 1 _ rfl)
theorem t66 : andB [Pk.all l66_21 P0 H_217 4000 66, Pk.all l66_22 P0 H_217 4000 66] = true := by kernel_rfl
theorem s66_21 (h : HO P0 H_217) : Snd P0 66 (Pk.any l66_21) := Pk.allSnd h (andB_ok t66 0 _ rfl)
theorem s66_22 (h : HO P0 H_217) : Snd P0 66 (Pk.any l66_22) := Pk.allSnd h (andB_ok t66 1 _ rfl)
theorem t81 : andB [Pc.all l166_19 P0 H_286 4000 166, Pc.all l166_20 P0 H_286 4000 166] = true := by kernel_rfl
theorem s166_19 (h : HO P0 H_286) : Snd P0 166 (Pc.any l166_19) := Pc.allSnd h (andB_ok t81 0 _ rfl)
theorem s166_20 (h : HO P0 H_286) : Snd P0 166 (Pc.any l166_20) := Pc.allSnd h (andB_ok t81 1 _ rfl)
theorem t98 : andB [Pk.all l26_0 P0 H_156 4000 26, Pk.all l26_1 P0 H_156 4000 26] = true := by kernel_rfl
theorem s26_0 (h : HO P0 H_156) : Snd P0 26 (Pk.any l26_0) := Pk.allSnd h (andB_ok t98 0 _ rfl)
theorem s26_1 (h : HO P0 H_156) : Snd P0 26 (Pk.any l26_1) := Pk.allSnd h (andB_ok t98 1 _ rfl)
theorem t113 : andB [Pk.all l125_3 P0 H_124 4000 125, Pk.all l125_4 P0 H_124 4000 125] = true := by kernel_rfl
theorem s125_3 (h : HO P0 H_124) : Snd P0 125 (Pk.any l125_3) := Pk.allSnd h (andB_ok t113 0 _ rfl)
theorem s125_4 (h : HO P0 H_124) : Snd P0 125 (Pk.any l125_4) := Pk.allSnd h (andB_ok t113 1 _ rfl)
theorem t129 : andB [Pk.all l81_11 P0 H_167 4000 81, Pk.all l81_12 P0 H_167 4000 81] = true := by kernel_rfl
theorem s81_11 (h : HO P0 H_167) : Snd P0 81 (Pk.any l81_11) := Pk.allSnd h (andB_ok t129 0 _ rfl)
theorem s81_12 (h : HO P0 H_167) : Snd P0 81 (Pk.any l81_12) := Pk.allSnd h (andB_ok t129 1 _ rfl)
theorem t148 : andB [Pc.all l166_100 P0 H_286 4000 166] = true := by kernel_rfl
theorem s166_100 (h : HO P0 H_286) : Snd P0 166 (Pc.any l166_100) := Pc.allSnd h (andB_ok t148 0 _ rfl)
theorem t163 : andB [Pk.all l81_16 P0 H_167 4000 81, Pk.all l81_17 P0 H_167 4000 81] = true := by kernel_rfl
theorem s81_16 (h : HO P0 H_167) : Snd P0 81 (Pk.any l81_16) := Pk.allSnd h (andB_ok t163 0 _ rfl)
theorem s81_17 (h : HO P0 H_167) : Snd P0 81 (Pk.any l81_17) := Pk.allSnd h (andB_ok t163 1 _ rfl)
theorem t183 : andB [Pc.all l166_101 P0 H_286 4000 166] = true := by kernel_rfl
theorem s166_101 (h : HO P0 H_286) : Snd P0 166 (Pc.any l166_101) := Pc.allSnd h (andB_ok t183 0 _ rfl)
theorem t198 : andB [Pk.all l104_0 P0 H_62 4000 104, Pk.all l118_0 P0 H_104 4000 118] = true := by kernel_rfl
theorem s104_0 (h : HO P0 H_62) : Snd P0 104 (Pk.any l104_0) := Pk.allSnd h (andB_ok t198 0 _ rfl)
theorem s118_0 (h : HO P0 H_104) : Snd P0 118 (Pk.any l118_0) := Pk.allSnd h (andB_ok t198 1 _ rfl)
theorem t217 : andB [Pk.all l81_26 P0 H_167 4000 81] = true := by kernel_rfl
theorem s81_26 (h : HO P0 H_167) : Snd P0 81 (Pk.any l81_26) := Pk.allSnd h (andB_ok t217 0 _ rfl)
end Go.Proofs.YteakajbedjdggaaGreatDoor
