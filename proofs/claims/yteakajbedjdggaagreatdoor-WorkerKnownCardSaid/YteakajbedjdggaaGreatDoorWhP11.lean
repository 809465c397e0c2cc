import Derived.Test.YteakajbedjdggaaGreatDoorWhDB
/-
  Calls on the examples of the law, found once: each is run by the kernel on a small memory of its own.
-/
set_option maxRecDepth 1000000
noncomputable section
namespace Go.Proofs.YteakajbedjdggaaGreatDoor
open Go Go.RowKit Go.Sx
theorem t11 : andB [Pk.all l81_1 P0 H_167 4000 81] = true := by kernel_rfl
theorem s81_1 (h : HO P0 H_167) : Snd P0 81 (Pk.any l81_1) := Pk.allSnd h (andB_ok t11 0 _ rfl)
theorem t12 : andB [Pk.all l132_5 P0 H_130 4000 132] = true := by kernel_rfl
theorem s132_5 (h : HO P0 H_130) : Snd P0 132 (Pk.any l132_5) := Pk.allSnd h (andB_ok t12 0 _ rfl)
theorem t25 : andB [Pk.all l14_7 P0 H_253 4000 14] = true := by kernel_rfl
theorem s14_7 (h : HO P0 H_253) : Snd P0 14 (Pk.any l14_7) := Pk.allSnd h (andB_ok t25 0 _ rfl)
theorem t38 : andB [Pk.all l163_6 P0 H_232 4000 163, Pk.all l163_7 P0 H_232 4000 163] = true := by kernel_rfl
theorem s163_6 (h : HO P0 H_232) : Snd P0 163 (Pk.any l163_6) := Pk.allSnd h (andB_ok t38 0 _ rfl)
theorem s163_7 (h : HO P0 H_232) : Snd P0 163 (Pk.any l163_7) := Pk.allSnd h (andB_ok t38 1 _ rfl)
theorem t49 : andB [Pk.all l167_4 P0 H_166 4000 167, Pk.all l167_5 P0 H_166 4000 167, Pk.all l167_6 P0 H_166 4000 167] = true := by kernel_rfl
theorem s167_4 (h : HO P0 H_166) : Snd P0 167 (Pk.any l167_4) := Pk.allSnd h (andB_ok t49 0 _ rfl)
theorem s167_5 (h : HO P0 H_166) : Snd P0 167 (Pk.any l167_5) := Pk.allSnd h (andB_ok t49 1 _ rfl)
theorem s167_6 (h : HO P0 H_166) : Snd P0 167 (Pk.any l167_6) := Pk.allSnd h (andB_ok t49 2 _ rfl)
theorem t61 : andB [Pk.all l167_7 P0 H_166 4000 167, Pk.all l167_8 P0 H_166 4000 167] = true := by kernel_rfl
theorem s167_7 (h : HO P0 H_166) : Snd P0 167 (Pk.any l167_7) := Pk.allSnd h (andB_ok t61 0 _ rfl)
theorem s167_8 (h : HO P0 H_166) : Snd P0 167 (Pk.any l167_8) := Pk.allSnd h (andB_ok t61 1 _ rfl)
theorem t74 : andB [Pk.all l130_7 P0 H_131 4000 130, Pk.all l132_0 P0 H_130 4000 132, Pk.all l132_1 P0 H_130 4000 132] = true := by kernel_rfl
theorem s130_7 (h : HO P0 H_131) : Snd P0 130 (Pk.any l130_7) := Pk.allSnd h (andB_ok t74 0 _ rfl)
theorem s132_0 (h : HO P0 H_130) : Snd P0 132 (Pk.any l132_0) := Pk.allSnd h (andB_ok t74 1 _ rfl)
theorem s132_1 (h : HO P0 H_130) : Snd P0 132 (Pk.any l132_1) := Pk.allSnd h (andB_ok t74 2 _ rfl)
theorem t84 : andB [Pk.all l48_9 P0 H_125 4000 48] = true := by kernel_rfl
theorem s48_9 (h : HO P0 H_125) : Snd P0 48 (Pk.any l48_9) := Pk.allSnd h (andB_ok t84 0 _ rfl)
theorem t98 : andB [Pc.all l166_36 P0 H_286 4000 166] = true := by kernel_rfl
theorem s166_36 (h : HO P0 H_286) : Snd P0 166 (Pc.any l166_36) := Pc.allSnd h (andB_ok t98 0 _ rfl)
theorem t110 : andB [Pk.all l121_6 P0 H_202 4000 121, Pk.all l121_7 P0 H_202 4000 121] = true := by kernel_rfl
theorem s121_6 (h : HO P0 H_202) : Snd P0 121 (Pk.any l121_6) := Pk.allSnd h (andB_ok t110 0 _ rfl)
theorem s121_7 (h : HO P0 H_202) : Snd P0 121 (Pk.any l121_7) := Pk.allSnd h (andB_ok t110 1 _ rfl)
theorem t121 : andB [Pc.all l166_104 P0 H_286 4000 166] = true := by kernel_rfl
theorem s166_104 (h : HO P0 H_286) : Snd P0 166 (Pc.any l166_104) := Pc.allSnd h (andB_ok t121 0 _ rfl)
theorem t134 : andB [Pc.all l166_114 P0 H_286 4000 166] = true := by kernel_rfl
theorem s166_114 (h : HO P0 H_286) : Snd P0 166 (Pc.any l166_114) := Pc.allSnd h (andB_ok t134 0 _ rfl)
theorem t146 : andB [Pk.all l26_6 P0 H_156 4000 26, Pk.all l89_0 P0 H_26 4000 89, Pk.all l28_0 P0 H_89 4000 28] = true := by kernel_rfl
theorem s26_6 (h : HO P0 H_156) : Snd P0 26 (Pk.any l26_6) := Pk.allSnd h (andB_ok t146 0 _ rfl)
theorem s89_0 (h : HO P0 H_26) : Snd P0 89 (Pk.any l89_0) := Pk.allSnd h (andB_ok t146 1 _ rfl)
theorem s28_0 (h : HO P0 H_89) : Snd P0 28 (Pk.any l28_0) := Pk.allSnd h (andB_ok t146 2 _ rfl)
theorem t159 : andB [Pc.allN l161_7 P0 H_88 4000 161] = true := by kernel_rfl
theorem s161_7 (h : HO P0 H_88) : Snd P0 161 (Pc.any l161_7) := Pc.allSndN h (andB_ok t159 0 _ rfl)
theorem t171 : andB [Pc.all l166_98 P0 H_286 4000 166, Pc.all l166_99 P0 H_286 4000 166, Pk.all l166_100 P0 H_286 4000 166] = true := by kernel_rfl
theorem s166_98 (h : HO P0 H_286) : Snd P0 166 (Pc.any l166_98) := Pc.allSnd h (andB_ok t171 0 _ rfl)
theorem s166_99 (h : HO P0 H_286) : Snd P0 166 (Pc.any l166_99) := Pc.allSnd h (andB_ok t171 1 _ rfl)
theorem s166_100 (h : HO P0 H_286) : Snd P0 166 (Pk.any l166_100) := Pk.allSnd h (andB_ok t171 2 _ rfl)
theorem t183 : andB [Pk.all l26_1 P0 H_156 4000 26] = true := by kernel_rfl
theorem s26_1 (h : HO P0 H_156) : Snd P0 26 (Pk.any l26_1) := Pk.allSnd h (andB_ok t183 0 _ rfl)
end Go.Proofs.YteakajbedjdggaaGreatDoor
