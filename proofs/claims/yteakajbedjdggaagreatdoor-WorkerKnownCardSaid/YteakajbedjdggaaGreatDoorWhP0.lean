import Derived.Test.YteakajbedjdggaaGreatDoorWhDB
/-
  Calls on the examples of the law, found once: each is run by the kernel on a small memory of its own.
-/
set_option maxRecDepth 1000000
noncomputable section
namespace Go.Proofs.YteakajbedjdggaaGreatDoor
open Go Go.RowKit Go.Sx
theorem t0 : andB [Pk.all l81_16 P0 H_167 4000 81] = true := by kernel_rfl
theorem s81_16 (h : HO P0 H_167) : Snd P0 81 (Pk.any l81_16) := Pk.allSnd h (andB_ok t0 0 _ rfl)
theorem t23 : andB [Pc.all l166_17 P0 H_286 4000 166, Pc.all l166_18 P0 H_286 4000 166] = true := by kernel_rfl
theorem s166_17 (h : HO P0 H_286) : Snd P0 166 (Pc.any l166_17) := Pc.allSnd h (andB_ok t23 0 _ rfl)
theorem s166_18 (h : HO P0 H_286) : Snd P0 166 (Pc.any l166_18) := Pc.allSnd h (andB_ok t23 1 _ rfl)
theorem t35 : andB [Pc.all l166_21 P0 H_286 4000 166, Pc.all l166_22 P0 H_286 4000 166] = true := by kernel_rfl
theorem s166_21 (h : HO P0 H_286) : Snd P0 166 (Pc.any l166_21) := Pc.allSnd h (andB_ok t35 0 _ rfl)
theorem s166_22 (h : HO P0 H_286) : Snd P0 166 (Pc.any l166_22) := Pc.allSnd h (andB_ok t35 1 _ rfl)
theorem t47 : andB [Pc.all l166_82 P0 H_286 4000 166, Pc.all l166_83 P0 H_286 4000 166] = true := by kernel_rfl
theorem s166_82 (h : HO P0 H_286) : Snd P0 166 (Pc.any l166_82) := Pc.allSnd h (andB_ok t47 0 _ rfl)
theorem s166_83 (h : HO P0 H_286) : Snd P0 166 (Pc.any l166_83) := Pc.allSnd h (andB_ok t47 1 _ rfl)
theorem t59 : andB [Pk.all l66_23 P0 H_217 4000 66, Pk.all l66_24 P0 H_217 4000 66] = true := by kernel_rfl
theorem s66_23 (h : HO P0 H_217) : Snd P0 66 (Pk.any l66_23) := Pk.allSnd h (andB_ok t59 0 _ rfl)
theorem s66_24 (h : HO P0 H_217) : Snd P0 66 (Pk.any l66_24) := Pk.allSnd h (andB_ok t59 1 _ rfl)
theorem t71 : andB [Pc.all l166_47 P0 H_286 4000 166, Pc.all l166_48 P0 H_286 4000 166] = true := by kernel_rfl
theorem s166_47 (h : HO P0 H_286) : Snd P0 166 (Pc.any l166_47) := Pc.allSnd h (andB_ok t71 0 _ rfl)
theorem s166_48 (h : HO P0 H_286) : Snd P0 166 (Pc.any l166_48) := Pc.allSnd h (andB_ok t71 1 _ rfl)
theorem t83 : andB [Pc.all l166_90 P0 H_286 4000 166, Pc.all l166_91 P0 H_286 4000 166] = true := by kernel_rfl
theorem s166_90 (h : HO P0 H_286) : Snd P0 166 (Pc.any l166_90) := Pc.allSnd h (andB_ok t83 0 _ rfl)
theorem s166_91 (h : HO P0 H_286) : Snd P0 166 (Pc.any l166_91) := Pc.allSnd h (andB_ok t83 1 _ rfl)
theorem t95 : andB [Pk.all l121_8 P0 H_202 4000 121, Pk.all l121_9 P0 H_202 4000 121] = true := by kernel_rfl
theorem s121_8 (h : HO P0 H_202) : Snd P0 121 (Pk.any l121_8) := Pk.allSnd h (andB_ok t95 0 _ rfl)
theorem s121_9 (h : HO P0 H_202) : Snd P0 121 (Pk.any l121_9) := Pk.allSnd h (andB_ok t95 1 _ rfl)
theorem t107 : andB [Pc.all l166_118 P0 H_286 4000 166, Pc.all l166_119 P0 H_286 4000 166] = true := by kernel_rfl
theorem s166_118 (h : HO P0 H_286) : Snd P0 166 (Pc.any l166_118) := Pc.allSnd h (andB_ok t107 0 _ rfl)
theorem s166_119 (h : HO P0 H_286) : Snd P0 166 (Pc.any l166_119) := Pc.allSnd h (andB_ok t107 1 _ rfl)
theorem t119 : andB [Pc.all l166_123 P0 H_286 4000 166] = true := by kernel_rfl
theorem s166_123 (h : HO P0 H_286) : Snd P0 166 (Pc.any l166_123) := Pc.allSnd h (andB_ok t119 0 _ rfl)
theorem t131 : andB [Pc.all l166_81 P0 H_286 4000 166] = true := by kernel_rfl
theorem s166_81 (h : HO P0 H_286) : Snd P0 166 (Pc.any l166_81) := Pc.allSnd h (andB_ok t131 0 _ rfl)
theorem t143 : andB [Pc.all l166_51 P0 H_286 4000 166] = true := by kernel_rfl
theorem s166_51 (h : HO P0 H_286) : Snd P0 166 (Pc.any l166_51) := Pc.allSnd h (andB_ok t143 0 _ rfl)
theorem t155 : andB [Pk.all l167_14 P0 H_166 4000 167, Pk.all l167_15 P0 H_166 4000 167] = true := by kernel_rfl
theorem s167_14 (h : HO P0 H_166) : Snd P0 167 (Pk.any l167_14) := Pk.allSnd h (andB_ok t155 0 _ rfl)
theorem s167_15 (h : HO P0 H_166) : Snd P0 167 (Pk.any l167_15) := Pk.allSnd h (andB_ok t155 1 _ rfl)
theorem t167 : andB [Pc.all l166_129 P0 H_286 4000 166] = true := by kernel_rfl
theorem s166_129 (h : HO P0 H_286) : Snd P0 166 (Pc.any l166_129) := Pc.allSnd h (andB_ok t167 0 _ rfl)
theorem t179 : andB [Pk.all l81_26 P0 H_167 4000 81] = true := by kernel_rfl
theorem s81_26 (h : HO P0 H_167) : Snd P0 81 (Pk.any l81_26) := Pk.allSnd h (andB_ok t179 0 _ rfl)
end Go.Proofs.YteakajbedjdggaaGreatDoor
