import Derived.Test.YteakajbedjdggaaGreatDoorGaDC
/-
  Calls on the examples of the law, found once: each is run by the kernel on a small memory of its own.
-/
set_option maxRecDepth 1000000
noncomputable section
namespace Go.Proofs.YteakajbedjdggaaGreatDoor
open Go Go.RowKit Go.Sx
theorem t1 : andB [Pk.all l81_27 P0 H_167 4000 81] = true := by kernel_rfl
theorem s81_27 (h : HO P0 H_167) : Snd P0 81 (Pk.any l81_27) := Pk.allSnd h (andB_ok t1 0 _ rfl)
theorem t30 : andB [Pc.all l166_110 P0 H_286 4000 166, Pc.all l166_111 P0 H_286 4000 166] = true := by kernel_rfl
theorem s166_110 (h : HO P0 H_286) : Snd P0 166 (Pc.any l166_110) := Pc.allSnd h (andB_ok t30 0 _ rfl)
theorem s166_111 (h : HO P0 H_286) : Snd P0 166 (Pc.any l166_111) := Pc.allSnd h (andB_ok t30 1 _ rfl)
theorem t46 : andB [Pc.all l166_70 P0 H_286 4000 166] = true := by kernel_rfl
theorem s166_70 (h : HO P0 H_286) : Snd P0 166 (Pc.any l166_70) := Pc.allSnd h (andB_ok t46 0 _ rfl)
theorem t62 : andB [Pk.all l66_25 P0 H_217 4000 66, Pk.all l66_26 P0 H_217 4000 66] = true := by kernel_rfl
theorem s66_25 (h : HO P0 H_217) : Snd P0 66 (Pk.any l66_25) := Pk.allSnd h (andB_ok t62 0 _ rfl)
theorem s66_26 (h : HO P0 H_217) : Snd P0 66 (Pk.any l66_26) := Pk.allSnd h (andB_ok t62 1 _ rfl)
theorem t78 : andB [Pk.all l125_25 P0 H_124 4000 125, Pk.all l125_26 P0 H_124 4000 125] = true := by kernel_rfl
theorem s125_25 (h : HO P0 H_124) : Snd P0 125 (Pk.any l125_25) := Pk.allSnd h (andB_ok t78 0 _ rfl)
theorem s125_26 (h : HO P0 H_124) : Snd P0 125 (Pk.any l125_26) := Pk.allSnd h (andB_ok t78 1 _ rfl)
theorem t94 : andB [Pk.all l81_14 P0 H_167 4000 81, Pk.all l81_15 P0 H_167 4000 81] = true := by kernel_rfl
theorem s81_14 (h : HO P0 H_167) : Snd P0 81 (Pk.any l81_14) := Pk.allSnd h (andB_ok t94 0 _ rfl)
theorem s81_15 (h : HO P0 H_167) : Snd P0 81 (Pk.any l81_15) := Pk.allSnd h (andB_ok t94 1 _ rfl)
theorem t110 : andB [Pc.all l166_86 P0 H_286 4000 166, Pc.all l166_87 P0 H_286 4000 166] = true := by kernel_rfl
theorem s166_86 (h : HO P0 H_286) : Snd P0 166 (Pc.any l166_86) := Pc.allSnd h (andB_ok t110 0 _ rfl)
theorem s166_87 (h : HO P0 H_286) : Snd P0 166 (Pc.any l166_87) := Pc.allSnd h (andB_ok t110 1 _ rfl)
theorem t126 : andB [Pk.all l81_18 P0 H_167 4000 81] = true := by kernel_rfl
theorem s81_18 (h : HO P0 H_167) : Snd P0 81 (Pk.any l81_18) := Pk.allSnd h (andB_ok t126 0 _ rfl)
theorem t142 : andB [Pk.all l121_33 P0 H_202 4000 121, Pk.all l121_34 P0 H_202 4000 121] = true := by kernel_rfl
theorem s121_33 (h : HO P0 H_202) : Snd P0 121 (Pk.any l121_33) := Pk.allSnd h (andB_ok t142 0 _ rfl)
theorem s121_34 (h : HO P0 H_202) : Snd P0 121 (Pk.any l121_34) := Pk.allSnd h (andB_ok t142 1 _ rfl)
theorem t158 : andB [Pc.all l166_18 P0 H_286 4000 166] = true := by kernel_rfl
theorem s166_18 (h : HO P0 H_286) : Snd P0 166 (Pc.any l166_18) := Pc.allSnd h (andB_ok t158 0 _ rfl)
theorem t174 : andB [Pc.all l166_96 P0 H_286 4000 166] = true := by kernel_rfl
theorem s166_96 (h : HO P0 H_286) : Snd P0 166 (Pc.any l166_96) := Pc.allSnd h (andB_ok t174 0 _ rfl)
theorem t190 : andB [Pc.allN l161_9 P0 H_54 4000 161] = true := by kernel_rfl
theorem s161_9 (h : HO P0 H_54) : Snd P0 161 (Pc.any l161_9) := Pc.allSndN h (andB_ok t190 0 _ rfl)
theorem t206 : andB [Pc.all l166_69 P0 H_286 4000 166] = true := by kernel_rfl
theorem s166_69 (h : HO P0 H_286) : Snd P0 166 (Pc.any l166_69) := Pc.allSnd h (andB_ok t206 0 _ rfl)
theorem t222 : andB [Pk.all l26_6 P0 H_156 4000 26] = true := by kernel_rfl
theorem s26_6 (h : HO P0 H_156) : Snd P0 26 (Pk.any l26_6) := Pk.allSnd h (andB_ok t222 0 _ rfl)
end Go.Proofs.YteakajbedjdggaaGreatDoor
