import Derived.Test.YteakajbedjdggaaGreatDoorGaDC
/-
  Calls on the examples of the law, found once: each is run by the kernel on a small memory of its own.
-/
set_option maxRecDepth 1000000
noncomputable section
namespace Go.Proofs.YteakajbedjdggaaGreatDoor
open Go Go.RowKit Go.Sx
theorem t6 : andB [Pc.all l166_71 P0 H_286 4000 166] = true := by kernel_rfl
theorem s166_71 (h : HO P0 H_286) : Snd P0 166 (Pc.any l166_71) := Pc.allSnd h (andB_ok t6 0 _ rfl)
theorem t25 : andB [Pk.all l167_9 P0 H_166 4000 167, Pk.all l167_10 P0 H_166 4000 167, Pk.all l167_11 P0 H_166 4000 167] = true := by kernel_rfl
theorem s167_9 (h : HO P0 H_166) : Snd P0 167 (Pk.any l167_9) := Pk.allSnd h (andB_ok t25 0 _ rfl)
theorem s167_10 (h : HO P0 H_166) : Snd P0 167 (Pk.any l167_10) := Pk.allSnd h (andB_ok t25 1 _ rfl)
theorem s167_11 (h : HO P0 H_166) : Snd P0 167 (Pk.any l167_11) := Pk.allSnd h (andB_ok t25 2 _ rfl)
theorem t41 : andB [Pk.all l37_0 P0 H_190 4000 37, Pk.all l62_0 P0 H_37 4000 62, Pk.all l62_1 P0 H_37 4000 62] = true := by kernel_rfl
theorem s37_0 (h : HO P0 H_190) : Snd P0 37 (Pk.any l37_0) := Pk.allSnd h (andB_ok t41 0 _ rfl)
theorem s62_0 (h : HO P0 H_37) : Snd P0 62 (Pk.any l62_0) := Pk.allSnd h (andB_ok t41 1 _ rfl)
theorem s62_1 (h : HO P0 H_37) : Snd P0 62 (Pk.any l62_1) := Pk.allSnd h (andB_ok t41 2 _ rfl)
theorem t57 : andB [Pc.all l166_44 P0 H_286 4000 166, Pc.all l166_45 P0 H_286 4000 166] = true := by kernel_rfl
theorem s166_44 (h : HO P0 H_286) : Snd P0 166 (Pc.any l166_44) := Pc.allSnd h (andB_ok t57 0 _ rfl)
theorem s166_45 (h : HO P0 H_286) : Snd P0 166 (Pc.any l166_45) := Pc.allSnd h (andB_ok t57 1 _ rfl)
theorem t72 : andB [Pk.all l97_25 P0 H_125 4000 97] = true := by kernel_rfl
theorem s97_25 (h : HO P0 H_125) : Snd P0 97 (Pk.any l97_25) := Pk.allSnd h (andB_ok t72 0 _ rfl)
theorem t88 : andB [Pk.all l121_27 P0 H_202 4000 121, Pk.all l121_28 P0 H_202 4000 121] = true := by kernel_rfl
theorem s121_27 (h : HO P0 H_202) : Snd P0 121 (Pk.any l121_27) := Pk.allSnd h (andB_ok t88 0 _ rfl)
theorem s121_28 (h : HO P0 H_202) : Snd P0 121 (Pk.any l121_28) := Pk.allSnd h (andB_ok t88 1 _ rfl)
theorem t105 : andB [Pc.all l166_84 P0 H_286 4000 166, Pc.all l166_85 P0 H_286 4000 166] = true := by kernel_rfl
theorem s166_84 (h : HO P0 H_286) : Snd P0 166 (Pc.any l166_84) := Pc.allSnd h (andB_ok t105 0 _ rfl)
theorem s166_85 (h : HO P0 H_286) : Snd P0 166 (Pc.any l166_85) := Pc.allSnd h (andB_ok t105 1 _ rfl)
theorem t121 : andB [Pk.all l121_15 P0 H_202 4000 121, Pk.all l121_16 P0 H_202 4000 121] = true := by kernel_rfl
theorem s121_15 (h : HO P0 H_202) : Snd P0 121 (Pk.any l121_15) := Pk.allSnd h (andB_ok t121 0 _ rfl)
theorem s121_16 (h : HO P0 H_202) : Snd P0 121 (Pk.any l121_16) := Pk.allSnd h (andB_ok t121 1 _ rfl)
theorem t137 : andB [Pk.all l81_6 P0 H_167 4000 81, Pk.all l81_7 P0 H_167 4000 81] = true := by kernel_rfl
theorem s81_6 (h : HO P0 H_167) : Snd P0 81 (Pk.any l81_6) := Pk.allSnd h (andB_ok t137 0 _ rfl)
theorem s81_7 (h : HO P0 H_167) : Snd P0 81 (Pk.any l81_7) := Pk.allSnd h (andB_ok t137 1 _ rfl)
theorem t153 : andB [Pk.all l121_21 P0 H_202 4000 121, Pk.all l121_22 P0 H_202 4000 121] = true := by kernel_rfl
theorem s121_21 (h : HO P0 H_202) : Snd P0 121 (Pk.any l121_21) := Pk.allSnd h (andB_ok t153 0 _ rfl)
theorem s121_22 (h : HO P0 H_202) : Snd P0 121 (Pk.any l121_22) := Pk.allSnd h (andB_ok t153 1 _ rfl)
theorem t168 : andB [Pk.all l121_35 P0 H_202 4000 121, Pk.all l121_36 P0 H_202 4000 121] = true := by kernel_rfl
theorem s121_35 (h : HO P0 H_202) : Snd P0 121 (Pk.any l121_35) := Pk.allSnd h (andB_ok t168 0 _ rfl)
theorem s121_36 (h : HO P0 H_202) : Snd P0 121 (Pk.any l121_36) := Pk.allSnd h (andB_ok t168 1 _ rfl)
theorem t177 : andB [Pc.all l166_97 P0 H_286 4000 166] = true := by kernel_rfl
theorem s166_97 (h : HO P0 H_286) : Snd P0 166 (Pc.any l166_97) := Pc.allSnd h (andB_ok t177 0 _ rfl)
theorem t194 : andB [Pc.all l166_103 P0 H_286 4000 166] = true := by kernel_rfl
theorem s166_103 (h : HO P0 H_286) : Snd P0 166 (Pc.any l166_103) := Pc.allSnd h (andB_ok t194 0 _ rfl)
theorem t218 : andB [Pk.all l97_2 P0 H_125 4000 97] = true := by kernel_rfl
theorem s97_2 (h : HO P0 H_125) : Snd P0 97 (Pk.any l97_2) := Pk.allSnd h (andB_ok t218 0 _ rfl)
end Go.Proofs.YteakajbedjdggaaGreatDoor
