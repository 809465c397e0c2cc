import Derived.Test.YteakajbedjdggaaGreatDoorWhDB
/-
  Calls on the examples of the law, found once: each is run by the kernel on a small memory of its own.
-/
set_option maxRecDepth 1000000
noncomputable section
namespace Go.Proofs.YteakajbedjdggaaGreatDoor
open Go Go.RowKit Go.Sx
theorem t9 : andB [Pc.all l166_102 P0 H_286 4000 166] = true := by kernel_rfl
theorem s166_102 (h : HO P0 H_286) : Snd P0 166 (Pc.any l166_102) := Pc.allSnd h (andB_ok t9 0 _ rfl)
theorem t14 : andB [Pk.all l81_5 P0 H_167 4000 81] = true := by kernel_rfl
theorem s81_5 (h : HO P0 H_167) : Snd P0 81 (Pk.any l81_5) := Pk.allSnd h (andB_ok t14 0 _ rfl)
theorem t26 : andB [Pk.all l167_9 P0 H_166 4000 167, Pk.all l167_10 P0 H_166 4000 167, Pk.all l167_11 P0 H_166 4000 167] = true := by kernel_rfl
theorem s167_9 (h : HO P0 H_166) : Snd P0 167 (Pk.any l167_9) := Pk.allSnd h (andB_ok t26 0 _ rfl)
theorem s167_10 (h : HO P0 H_166) : Snd P0 167 (Pk.any l167_10) := Pk.allSnd h (andB_ok t26 1 _ rfl)
theorem s167_11 (h : HO P0 H_166) : Snd P0 167 (Pk.any l167_11) := Pk.allSnd h (andB_ok t26 2 _ rfl)
theorem t37 : andB [Pk.all l125_0 P0 H_124 4000 125, Pk.all l125_1 P0 H_124 4000 125] = true := by kernel_rfl
theorem s125_0 (h : HO P0 H_124) : Snd P0 125 (Pk.any l125_0) := Pk.allSnd h (andB_ok t37 0 _ rfl)
theorem s125_1 (h : HO P0 H_124) : Snd P0 125 (Pk.any l125_1) := Pk.allSnd h (andB_ok t37 1 _ rfl)
theorem t50 : andB [Pk.all l15_2 P0 H_138 4000 15, Pk.all l15_3 P0 H_138 4000 15] = true := by kernel_rfl
theorem s15_2 (h : HO P0 H_138) : Snd P0 15 (Pk.any l15_2) := Pk.allSnd h (andB_ok t50 0 _ rfl)
theorem s15_3 (h : HO P0 H_138) : Snd P0 15 (Pk.any l15_3) := Pk.allSnd h (andB_ok t50 1 _ rfl)
theorem t62 : andB [Pk.all l167_2 P0 H_166 4000 167, Pk.all l167_3 P0 H_166 4000 167] = true := by kernel_rfl
theorem s167_2 (h : HO P0 H_166) : Snd P0 167 (Pk.any l167_2) := Pk.allSnd h (andB_ok t62 0 _ rfl)
theorem s167_3 (h : HO P0 H_166) : Snd P0 167 (Pk.any l167_3) := Pk.allSnd h (andB_ok t62 1 _ rfl)
theorem t73 : andB [Pk.all l121_2 P0 H_202 4000 121, Pk.all l121_3 P0 H_202 4000 121] = true := by kernel_rfl
theorem s121_2 (h : HO P0 H_202) : Snd P0 121 (Pk.any l121_2) := Pk.allSnd h (andB_ok t73 0 _ rfl)
theorem s121_3 (h : HO P0 H_202) : Snd P0 121 (Pk.any l121_3) := Pk.allSnd h (andB_ok t73 1 _ rfl)
theorem t86 : andB [Pk.all l81_2 P0 H_167 4000 81, Pk.all l81_3 P0 H_167 4000 81] = true := by kernel_rfl
theorem s81_2 (h : HO P0 H_167) : Snd P0 81 (Pk.any l81_2) := Pk.allSnd h (andB_ok t86 0 _ rfl)
theorem s81_3 (h : HO P0 H_167) : Snd P0 81 (Pk.any l81_3) := Pk.allSnd h (andB_ok t86 1 _ rfl)
theorem t97 : andB [Pc.all l166_130 P0 H_286 4000 166, Pc.all l166_131 P0 H_286 4000 166] = true := by kernel_rfl
theorem s166_130 (h : HO P0 H_286) : Snd P0 166 (Pc.any l166_130) := Pc.allSnd h (andB_ok t97 0 _ rfl)
theorem s166_131 (h : HO P0 H_286) : Snd P0 166 (Pc.any l166_131) := Pc.allSnd h (andB_ok t97 1 _ rfl)
theorem t111 : andB [Pc.all l166_25 P0 H_286 4000 166, Pc.all l166_26 P0 H_286 4000 166] = true := by kernel_rfl
theorem s166_25 (h : HO P0 H_286) : Snd P0 166 (Pc.any l166_25) := Pc.allSnd h (andB_ok t111 0 _ rfl)
theorem s166_26 (h : HO P0 H_286) : Snd P0 166 (Pc.any l166_26) := Pc.allSnd h (andB_ok t111 1 _ rfl)
theorem t122 : andB [Pc.all l166_124 P0 H_286 4000 166] = true := by kernel_rfl
theorem s166_124 (h : HO P0 H_286) : Snd P0 166 (Pc.any l166_124) := Pc.allSnd h (andB_ok t122 0 _ rfl)
theorem t132 : andB [Pc.all l166_113 P0 H_286 4000 166] = true := by kernel_rfl
theorem s166_113 (h : HO P0 H_286) : Snd P0 166 (Pc.any l166_113) := Pc.allSnd h (andB_ok t132 0 _ rfl)
theorem t148 : andB [Pc.all l166_101 P0 H_286 4000 166] = true := by kernel_rfl
theorem s166_101 (h : HO P0 H_286) : Snd P0 166 (Pc.any l166_101) := Pc.allSnd h (andB_ok t148 0 _ rfl)
theorem t156 : andB [Pc.allN l161_4 P0 H_88 4000 161] = true := by kernel_rfl
theorem s161_4 (h : HO P0 H_88) : Snd P0 161 (Pc.any l161_4) := Pc.allSndN h (andB_ok t156 0 _ rfl)
theorem t168 : andB [Pc.all l166_3 P0 H_286 4000 166, Pk.all l166_4 P0 H_286 4000 166, Pc.all l166_5 P0 H_286 4000 166, Pk.all l166_6 P0 H_286 4000 166] = true := by kernel_rfl
theorem s166_3 (h : HO P0 H_286) : Snd P0 166 (Pc.any l166_3) := Pc.allSnd h (andB_ok t168 0 _ rfl)
theorem s166_4 (h : HO P0 H_286) : Snd P0 166 (Pk.any l166_4) := Pk.allSnd h (andB_ok t168 1 _ rfl)
theorem s166_5 (h : HO P0 H_286) : Snd P0 166 (Pc.any l166_5) := Pc.allSnd h (andB_ok t168 2 _ rfl)
theorem s166_6 (h : HO P0 H_286) : Snd P0 166 (Pk.any l166_6) := Pk.allSnd h (andB_ok t168 3 _ rfl)
theorem t186 : andB [Pc.all l166_39 P0 H_286 4000 166] = true := by kernel_rfl
theorem s166_39 (h : HO P0 H_286) : Snd P0 166 (Pc.any l166_39) := Pc.allSnd h (andB_ok t186 0 _ rfl)
end Go.Proofs.YteakajbedjdggaaGreatDoor
