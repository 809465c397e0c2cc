import Derived.Test.YteakajbedjdggaaGreatDoorGaDC
/-
  Calls on the examples of the law, found once: each is run by the kernel on a small memory of its own.
-/
set_option maxRecDepth 1000000
noncomputable section
namespace Go.Proofs.YteakajbedjdggaaGreatDoor
open Go Go.RowKit Go.Sx
theorem t10 : andB [Pk.all l81_2 P0 H_167 4000 81] = true := by kernel_rfl
theorem s81_2 (h : HO P0 H_167) : Snd P0 81 (Pk.any l81_2) := Pk.allSnd h (andB_ok t10 0 _ rfl)
theorem t21 : andB [Pk.all l97_22 P0 H_125 4000 97, Pk.all l97_23 P0 H_125 4000 97] = true := by kernel_rfl
theorem s97_22 (h : HO P0 H_125) : Snd P0 97 (Pk.any l97_22) := Pk.allSnd h (andB_ok t21 0 _ rfl)
theorem s97_23 (h : HO P0 H_125) : Snd P0 97 (Pk.any l97_23) := Pk.allSnd h (andB_ok t21 1 _ rfl)
theorem t38 : andB [Pk.all l97_14 P0 H_125 4000 97, Pk.all l97_15 P0 H_125 4000 97] = true := by kernel_rfl
theorem s97_14 (h : HO P0 H_125) : Snd P0 97 (Pk.any l97_14) := Pk.allSnd h (andB_ok t38 0 _ rfl)
theorem s97_15 (h : HO P0 H_125) : Snd P0 97 (Pk.any l97_15) := Pk.allSnd h (andB_ok t38 1 _ rfl)
theorem t54 : andB [Pc.all l166_74 P0 H_286 4000 166] = true := by kernel_rfl
theorem s166_74 (h : HO P0 H_286) : Snd P0 166 (Pc.any l166_74) := Pc.allSnd h (andB_ok t54 0 _ rfl)
theorem t69 : andB [Pc.all l166_88 P0 H_286 4000 166, Pc.all l166_89 P0 H_286 4000 166] = true := by kernel_rfl
theorem s166_88 (h : HO P0 H_286) : Snd P0 166 (Pc.any l166_88) := Pc.allSnd h (andB_ok t69 0 _ rfl)
theorem s166_89 (h : HO P0 H_286) : Snd P0 166 (Pc.any l166_89) := Pc.allSnd h (andB_ok t69 1 _ rfl)
theorem t85 : andB [Pc.all l166_108 P0 H_286 4000 166] = true := by kernel_rfl
theorem s166_108 (h : HO P0 H_286) : Snd P0 166 (Pc.any l166_108) := Pc.allSnd h (andB_ok t85 0 _ rfl)
theorem t102 : andB [Pk.all l198_0 P0 H_0 4000 198, Pk.all l110_0 P0 H_198 4000 110, Pk.all l88_0 P0 H_110 4000 88] = true := by kernel_rfl
theorem s198_0 (h : HO P0 H_0) : Snd P0 198 (Pk.any l198_0) := Pk.allSnd h (andB_ok t102 0 _ rfl)
theorem s110_0 (h : HO P0 H_198) : Snd P0 110 (Pk.any l110_0) := Pk.allSnd h (andB_ok t102 1 _ rfl)
theorem s88_0 (h : HO P0 H_110) : Snd P0 88 (Pk.any l88_0) := Pk.allSnd h (andB_ok t102 2 _ rfl)
theorem t117 : andB [Pk.all l97_8 P0 H_125 4000 97] = true := by kernel_rfl
theorem s97_8 (h : HO P0 H_125) : Snd P0 97 (Pk.any l97_8) := Pk.allSnd h (andB_ok t117 0 _ rfl)
theorem t133 : andB [Pk.all l121_17 P0 H_202 4000 121, Pk.all l121_18 P0 H_202 4000 121] = true := by kernel_rfl
theorem s121_17 (h : HO P0 H_202) : Snd P0 121 (Pk.any l121_17) := Pk.allSnd h (andB_ok t133 0 _ rfl)
theorem s121_18 (h : HO P0 H_202) : Snd P0 121 (Pk.any l121_18) := Pk.allSnd h (andB_ok t133 1 _ rfl)
theorem t150 : andB [Pc.all l166_23 P0 H_286 4000 166] = true := by kernel_rfl
theorem s166_23 (h : HO P0 H_286) : Snd P0 166 (Pc.any l166_23) := Pc.allSnd h (andB_ok t150 0 _ rfl)
theorem t162 : andB [Pk.all l121_29 P0 H_202 4000 121, Pk.all l121_30 P0 H_202 4000 121] = true := by kernel_rfl
theorem s121_29 (h : HO P0 H_202) : Snd P0 121 (Pk.any l121_29) := Pk.allSnd h (andB_ok t162 0 _ rfl)
theorem s121_30 (h : HO P0 H_202) : Snd P0 121 (Pk.any l121_30) := Pk.allSnd h (andB_ok t162 1 _ rfl)
theorem t184 : andB [Pc.allN l252_0 P0 H_246 4000 252, Pc.allN l252_1 P0 H_246 4000 252, Pk.all l253_0 P0 H_252 4000 253] = true := by kernel_rfl
theorem s252_0 (h : HO P0 H_246) : Snd P0 252 (Pc.any l252_0) := Pc.allSndN h (andB_ok t184 0 _ rfl)
theorem s252_1 (h : HO P0 H_246) : Snd P0 252 (Pc.any l252_1) := Pc.allSndN h (andB_ok t184 1 _ rfl)
theorem s253_0 (h : HO P0 H_252) : Snd P0 253 (Pk.any l253_0) := Pk.allSnd h (andB_ok t184 2 _ rfl)
theorem t200 : andB [Pc.all l166_43 P0 H_286 4000 166] = true := by kernel_rfl
theorem s166_43 (h : HO P0 H_286) : Snd P0 166 (Pc.any l166_43) := Pc.allSnd h (andB_ok t200 0 _ rfl)
theorem t213 : andB [Pc.all l166_105 P0 H_286 4000 166] = true := by kernel_rfl
theorem s166_105 (h : HO P0 H_286) : Snd P0 166 (Pc.any l166_105) := Pc.allSnd h (andB_ok t213 0 _ rfl)
end Go.Proofs.YteakajbedjdggaaGreatDoor
