import Derived.Test.YteakajbedjdggaaGreatDoorGaDC
/-
  Calls on the examples of the law, found once: each is run by the kernel on a small memory of its own.
-/
set_option maxRecDepth 1000000
noncomputable section
namespace Go.Proofs.YteakajbedjdggaaGreatDoor
open Go Go.RowKit Go.Sx
theorem t13 : andB [Pk.all l97_21 P0 H_125 4000 97] = true := by kernel_rfl
theorem s97_21 (h : HO P0 H_125) : Snd P0 97 (Pk.any l97_21) := Pk.allSnd h (andB_ok t13 0 _ rfl)
theorem t18 : andB [Pc.all l124_28 P0 H_205 4000 124, Pc.all l124_29 P0 H_205 4000 124, Pc.all l124_30 P0 H_205 4000 124] = true := by kernel_rfl
theorem s124_28 (h : HO P0 H_205) : Snd P0 124 (Pc.any l124_28) := Pc.allSnd h (andB_ok t18 0 _ rfl)
theorem s124_29 (h : HO P0 H_205) : Snd P0 124 (Pc.any l124_29) := Pc.allSnd h (andB_ok t18 1 _ rfl)
theorem s124_30 (h : HO P0 H_205) : Snd P0 124 (Pc.any l124_30) := Pc.allSnd h (andB_ok t18 2 _ rfl)
theorem t34 : andB [Pk.all l125_15 P0 H_124 4000 125, Pk.all l125_16 P0 H_124 4000 125, Pk.all l125_17 P0 H_124 4000 125] = true := by kernel_rfl
theorem s125_15 (h : HO P0 H_124) : Snd P0 125 (Pk.any l125_15) := Pk.allSnd h (andB_ok t34 0 _ rfl)
theorem s125_16 (h : HO P0 H_124) : Snd P0 125 (Pk.any l125_16) := Pk.allSnd h (andB_ok t34 1 _ rfl)
theorem s125_17 (h : HO P0 H_124) : Snd P0 125 (Pk.any l125_17) := Pk.allSnd h (andB_ok t34 2 _ rfl)
theorem t51 : andB [Pk.all l8_0 P0 H_28 4000 8, Pk.all l8_1 P0 H_28 4000 8] = true := by kernel_rfl
theorem s8_0 (h : HO P0 H_28) : Snd P0 8 (Pk.any l8_0) := Pk.allSnd h (andB_ok t51 0 _ rfl)
theorem s8_1 (h : HO P0 H_28) : Snd P0 8 (Pk.any l8_1) := Pk.allSnd h (andB_ok t51 1 _ rfl)
theorem t64 : andB [Pc.all l166_40 P0 H_286 4000 166, Pc.all l166_41 P0 H_286 4000 166, Pc.all l166_42 P0 H_286 4000 166] = true := by kernel_rfl
theorem s166_40 (h : HO P0 H_286) : Snd P0 166 (Pc.any l166_40) := Pc.allSnd h (andB_ok t64 0 _ rfl)
theorem s166_41 (h : HO P0 H_286) : Snd P0 166 (Pc.any l166_41) := Pc.allSnd h (andB_ok t64 1 _ rfl)
theorem s166_42 (h : HO P0 H_286) : Snd P0 166 (Pc.any l166_42) := Pc.allSnd h (andB_ok t64 2 _ rfl)
theorem t80 : andB [Pk.all l81_3 P0 H_167 4000 81, Pk.all l81_4 P0 H_167 4000 81, Pk.all l81_5 P0 H_167 4000 81] = true := by kernel_rfl
theorem s81_3 (h : HO P0 H_167) : Snd P0 81 (Pk.any l81_3) := Pk.allSnd h (andB_ok t80 0 _ rfl)
theorem s81_4 (h : HO P0 H_167) : Snd P0 81 (Pk.any l81_4) := Pk.allSnd h (andB_ok t80 1 _ rfl)
theorem s81_5 (h : HO P0 H_167) : Snd P0 81 (Pk.any l81_5) := Pk.allSnd h (andB_ok t80 2 _ rfl)
theorem t99 : andB [Pk.all l118_3 P0 H_104 4000 118, Pk.all l119_0 P0 H_118 4000 119, Pk.all l206_0 P0 H_119 4000 206, Pk.all l202_0 P0 H_206 4000 202, Pk.all l121_0 P0 H_202 4000 121] = true := by kernel_rfl
theorem s118_3 (h : HO P0 H_104) : Snd P0 118 (Pk.any l118_3) := Pk.allSnd h (andB_ok t99 0 _ rfl)
theorem s119_0 (h : HO P0 H_118) : Snd P0 119 (Pk.any l119_0) := Pk.allSnd h (andB_ok t99 1 _ rfl)
theorem s206_0 (h : HO P0 H_119) : Snd P0 206 (Pk.any l206_0) := Pk.allSnd h (andB_ok t99 2 _ rfl)
theorem s202_0 (h : HO P0 H_206) : Snd P0 202 (Pk.any l202_0) := Pk.allSnd h (andB_ok t99 3 _ rfl)
theorem s121_0 (h : HO P0 H_202) : Snd P0 121 (Pk.any l121_0) := Pk.allSnd h (andB_ok t99 4 _ rfl)
theorem t112 : andB [Pc.all l166_34 P0 H_286 4000 166, Pc.all l166_35 P0 H_286 4000 166] = true := by kernel_rfl
theorem s166_34 (h : HO P0 H_286) : Snd P0 166 (Pc.any l166_34) := Pc.allSnd h (andB_ok t112 0 _ rfl)
theorem s166_35 (h : HO P0 H_286) : Snd P0 166 (Pc.any l166_35) := Pc.allSnd h (andB_ok t112 1 _ rfl)
theorem t128 : andB [Pk.all l125_27 P0 H_124 4000 125, Pk.all l97_0 P0 H_125 4000 97, Pk.all l97_1 P0 H_125 4000 97] = true := by kernel_rfl
theorem s125_27 (h : HO P0 H_124) : Snd P0 125 (Pk.any l125_27) := Pk.allSnd h (andB_ok t128 0 _ rfl)
theorem s97_0 (h : HO P0 H_125) : Snd P0 97 (Pk.any l97_0) := Pk.allSnd h (andB_ok t128 1 _ rfl)
theorem s97_1 (h : HO P0 H_125) : Snd P0 97 (Pk.any l97_1) := Pk.allSnd h (andB_ok t128 2 _ rfl)
theorem t147 : andB [Pc.all l166_66 P0 H_286 4000 166, Pc.all l166_67 P0 H_286 4000 166] = true := by kernel_rfl
theorem s166_66 (h : HO P0 H_286) : Snd P0 166 (Pc.any l166_66) := Pc.allSnd h (andB_ok t147 0 _ rfl)
theorem s166_67 (h : HO P0 H_286) : Snd P0 166 (Pc.any l166_67) := Pc.allSnd h (andB_ok t147 1 _ rfl)
theorem t164 : andB [Pc.all l166_106 P0 H_286 4000 166, Pc.all l166_107 P0 H_286 4000 166] = true := by kernel_rfl
theorem s166_106 (h : HO P0 H_286) : Snd P0 166 (Pc.any l166_106) := Pc.allSnd h (andB_ok t164 0 _ rfl)
theorem s166_107 (h : HO P0 H_286) : Snd P0 166 (Pc.any l166_107) := Pc.allSnd h (andB_ok t164 1 _ rfl)
theorem t182 : andB [Pk.all l125_11 P0 H_124 4000 125, Pk.all l125_12 P0 H_124 4000 125] = true := by kernel_rfl
theorem s125_11 (h : HO P0 H_124) : Snd P0 125 (Pk.any l125_11) := Pk.allSnd h (andB_ok t182 0 _ rfl)
theorem s125_12 (h : HO P0 H_124) : Snd P0 125 (Pk.any l125_12) := Pk.allSnd h (andB_ok t182 1 _ rfl)
theorem t199 : andB [Pk.all l31_4 P0 H_253 4000 31, Pk.all l31_5 P0 H_253 4000 31, Pk.all l159_0 P0 H_31 4000 159] = true := by kernel_rfl
theorem s31_4 (h : HO P0 H_253) : Snd P0 31 (Pk.any l31_4) := Pk.allSnd h (andB_ok t199 0 _ rfl)
theorem s31_5 (h : HO P0 H_253) : Snd P0 31 (Pk.any l31_5) := Pk.allSnd h (andB_ok t199 1 _ rfl)
theorem s159_0 (h : HO P0 H_31) : Snd P0 159 (Pk.any l159_0) := Pk.allSnd h (andB_ok t199 2 _ rfl)
theorem t212 : andB [Pc.all l166_104 P0 H_286 4000 166] = true := by kernel_rfl
theorem s166_104 (h : HO P0 H_286) : Snd P0 166 (Pc.any l166_104) := Pc.allSnd h (andB_ok t212 0 _ rfl)
end Go.Proofs.YteakajbedjdggaaGreatDoor
