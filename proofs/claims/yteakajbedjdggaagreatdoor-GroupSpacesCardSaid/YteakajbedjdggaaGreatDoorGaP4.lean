import Derived.Test.YteakajbedjdggaaGreatDoorGaDC
/-
  Calls on the examples of the law, found once: each is run by the kernel on a small memory of its own.
-/
set_option maxRecDepth 1000000
noncomputable section
namespace Go.Proofs.YteakajbedjdggaaGreatDoor
open Go Go.RowKit Go.Sx
theorem t4 : andB [Pk.all l97_24 P0 H_125 4000 97] = true := by kernel_rfl
theorem s97_24 (h : HO P0 H_125) : Snd P0 97 (Pk.any l97_24) := Pk.allSnd h (andB_ok t4 0 _ rfl)
theorem t27 : andB [Pk.all l121_13 P0 H_202 4000 121, Pk.all l121_14 P0 H_202 4000 121] = true := by kernel_rfl
theorem s121_13 (h : HO P0 H_202) : Snd P0 121 (Pk.any l121_13) := Pk.allSnd h (andB_ok t27 0 _ rfl)
theorem s121_14 (h : HO P0 H_202) : Snd P0 121 (Pk.any l121_14) := Pk.allSnd h (andB_ok t27 1 _ rfl)
theorem t43 : andB [Pc.all l166_26 P0 H_286 4000 166, Pc.all l166_27 P0 H_286 4000 166] = true := by kernel_rfl
theorem s166_26 (h : HO P0 H_286) : Snd P0 166 (Pc.any l166_26) := Pc.allSnd h (andB_ok t43 0 _ rfl)
theorem s166_27 (h : HO P0 H_286) : Snd P0 166 (Pc.any l166_27) := Pc.allSnd h (andB_ok t43 1 _ rfl)
theorem t59 : andB [Pk.all l66_0 P0 H_217 4000 66, Pk.all l66_1 P0 H_217 4000 66] = true := by kernel_rfl
theorem s66_0 (h : HO P0 H_217) : Snd P0 66 (Pk.any l66_0) := Pk.allSnd h (andB_ok t59 0 _ rfl)
theorem s66_1 (h : HO P0 H_217) : Snd P0 66 (Pk.any l66_1) := Pk.allSnd h (andB_ok t59 1 _ rfl)
theorem t75 : andB [Pc.all l124_20 P0 H_205 4000 124, Pc.all l124_21 P0 H_205 4000 124, Pc.all l124_22 P0 H_205 4000 124] = true := by kernel_rfl
theorem s124_20 (h : HO P0 H_205) : Snd P0 124 (Pc.any l124_20) := Pc.allSnd h (andB_ok t75 0 _ rfl)
theorem s124_21 (h : HO P0 H_205) : Snd P0 124 (Pc.any l124_21) := Pc.allSnd h (andB_ok t75 1 _ rfl)
theorem s124_22 (h : HO P0 H_205) : Snd P0 124 (Pc.any l124_22) := Pc.allSnd h (andB_ok t75 2 _ rfl)
theorem t91 : andB [Pk.all l121_7 P0 H_202 4000 121, Pk.all l121_8 P0 H_202 4000 121] = true := by kernel_rfl
theorem s121_7 (h : HO P0 H_202) : Snd P0 121 (Pk.any l121_7) := Pk.allSnd h (andB_ok t91 0 _ rfl)
theorem s121_8 (h : HO P0 H_202) : Snd P0 121 (Pk.any l121_8) := Pk.allSnd h (andB_ok t91 1 _ rfl)
theorem t107 : andB [Pc.all l166_31 P0 H_286 4000 166, Pc.all l166_32 P0 H_286 4000 166, Pk.all l166_33 P0 H_286 4000 166] = true := by kernel_rfl
theorem s166_31 (h : HO P0 H_286) : Snd P0 166 (Pc.any l166_31) := Pc.allSnd h (andB_ok t107 0 _ rfl)
theorem s166_32 (h : HO P0 H_286) : Snd P0 166 (Pc.any l166_32) := Pc.allSnd h (andB_ok t107 1 _ rfl)
theorem s166_33 (h : HO P0 H_286) : Snd P0 166 (Pk.any l166_33) := Pk.allSnd h (andB_ok t107 2 _ rfl)
theorem t123 : andB [Pc.all l124_35 P0 H_205 4000 124, Pk.all l125_0 P0 H_124 4000 125] = true := by kernel_rfl
theorem s124_35 (h : HO P0 H_205) : Snd P0 124 (Pc.any l124_35) := Pc.allSnd h (andB_ok t123 0 _ rfl)
theorem s125_0 (h : HO P0 H_124) : Snd P0 125 (Pk.any l125_0) := Pk.allSnd h (andB_ok t123 1 _ rfl)
theorem t139 : andB [Pc.allN l161_11 P0 H_54 4000 161, Pc.allN l161_12 P0 H_54 4000 161] = true := by kernel_rfl
theorem s161_11 (h : HO P0 H_54) : Snd P0 161 (Pc.any l161_11) := Pc.allSndN h (andB_ok t139 0 _ rfl)
theorem s161_12 (h : HO P0 H_54) : Snd P0 161 (Pc.any l161_12) := Pc.allSndN h (andB_ok t139 1 _ rfl)
theorem t155 : andB [Pk.all l167_12 P0 H_166 4000 167, Pk.all l167_13 P0 H_166 4000 167] = true := by kernel_rfl
theorem s167_12 (h : HO P0 H_166) : Snd P0 167 (Pk.any l167_12) := Pk.allSnd h (andB_ok t155 0 _ rfl)
theorem s167_13 (h : HO P0 H_166) : Snd P0 167 (Pk.any l167_13) := Pk.allSnd h (andB_ok t155 1 _ rfl)
theorem t171 : andB [Pk.all l167_5 P0 H_166 4000 167, Pk.all l167_6 P0 H_166 4000 167] = true := by kernel_rfl
theorem s167_5 (h : HO P0 H_166) : Snd P0 167 (Pk.any l167_5) := Pk.allSnd h (andB_ok t171 0 _ rfl)
theorem s167_6 (h : HO P0 H_166) : Snd P0 167 (Pk.any l167_6) := Pk.allSnd h (andB_ok t171 1 _ rfl)
theorem t187 : andB [Pc.allN l161_6 P0 H_54 4000 161] = true := by kernel_rfl
theorem s161_6 (h : HO P0 H_54) : Snd P0 161 (Pc.any l161_6) := Pc.allSndN h (andB_ok t187 0 _ rfl)
theorem t203 : andB [Pk.all l125_23 P0 H_124 4000 125, Pk.all l125_24 P0 H_124 4000 125] = true := by kernel_rfl
theorem s125_23 (h : HO P0 H_124) : Snd P0 125 (Pk.any l125_23) := Pk.allSnd h (andB_ok t203 0 _ rfl)
theorem s125_24 (h : HO P0 H_124) : Snd P0 125 (Pk.any l125_24) := Pk.allSnd h (andB_ok t203 1 _ rfl)
theorem t216 : andB [Pc.all l166_68 P0 H_286 4000 166] = true := by kernel_rfl
theorem s166_68 (h : HO P0 H_286) : Snd P0 166 (Pc.any l166_68) := Pc.allSnd h (andB_ok t216 0 _ rfl)
end Go.Proofs.YteakajbedjdggaaGreatDoor
