import Derived.Test.YteakajbedjdggaaGreatDoorWhDB
/-
  Calls on the examples of the law, found once: each is run by the kernel on a small memory of its own.
-/
set_option maxRecDepth 1000000
noncomputable section
namespace Go.Proofs.YteakajbedjdggaaGreatDoor
open Go Go.RowKit Go.Sx
theorem t7 : andB [Pk.all l51_6 P0 H_132 4000 51] = true := by kernel_rfl
theorem s51_6 (h : HO P0 H_132) : Snd P0 51 (Pk.any l51_6) := Pk.allSnd h (andB_ok t7 0 _ rfl)
theorem t16 : andB [Pk.all l81_21 P0 H_167 4000 81, Pk.all l81_22 P0 H_167 4000 81] = true := by kernel_rfl
theorem s81_21 (h : HO P0 H_167) : Snd P0 81 (Pk.any l81_21) := Pk.allSnd h (andB_ok t16 0 _ rfl)
theorem s81_22 (h : HO P0 H_167) : Snd P0 81 (Pk.any l81_22) := Pk.allSnd h (andB_ok t16 1 _ rfl)
theorem t28 : andB [Pc.all l166_44 P0 H_286 4000 166, Pc.all l166_45 P0 H_286 4000 166, Pc.all l166_46 P0 H_286 4000 166] = true := by kernel_rfl
theorem s166_44 (h : HO P0 H_286) : Snd P0 166 (Pc.any l166_44) := Pc.allSnd h (andB_ok t28 0 _ rfl)
theorem s166_45 (h : HO P0 H_286) : Snd P0 166 (Pc.any l166_45) := Pc.allSnd h (andB_ok t28 1 _ rfl)
theorem s166_46 (h : HO P0 H_286) : Snd P0 166 (Pc.any l166_46) := Pc.allSnd h (andB_ok t28 2 _ rfl)
theorem t40 : andB [Pk.all l81_8 P0 H_167 4000 81, Pk.all l81_9 P0 H_167 4000 81] = true := by kernel_rfl
theorem s81_8 (h : HO P0 H_167) : Snd P0 81 (Pk.any l81_8) := Pk.allSnd h (andB_ok t40 0 _ rfl)
theorem s81_9 (h : HO P0 H_167) : Snd P0 81 (Pk.any l81_9) := Pk.allSnd h (andB_ok t40 1 _ rfl)
theorem t52 : andB [Pk.all l81_19 P0 H_167 4000 81, Pk.all l81_20 P0 H_167 4000 81] = true := by kernel_rfl
theorem s81_19 (h : HO P0 H_167) : Snd P0 81 (Pk.any l81_19) := Pk.allSnd h (andB_ok t52 0 _ rfl)
theorem s81_20 (h : HO P0 H_167) : Snd P0 81 (Pk.any l81_20) := Pk.allSnd h (andB_ok t52 1 _ rfl)
theorem t64 : andB [Pc.all l166_10 P0 H_286 4000 166, Pc.all l166_11 P0 H_286 4000 166] = true := by kernel_rfl
theorem s166_10 (h : HO P0 H_286) : Snd P0 166 (Pc.any l166_10) := Pc.allSnd h (andB_ok t64 0 _ rfl)
theorem s166_11 (h : HO P0 H_286) : Snd P0 166 (Pc.any l166_11) := Pc.allSnd h (andB_ok t64 1 _ rfl)
theorem t76 : andB [Pk.all l66_2 P0 H_217 4000 66, Pk.all l66_3 P0 H_217 4000 66] = true := by kernel_rfl
theorem s66_2 (h : HO P0 H_217) : Snd P0 66 (Pk.any l66_2) := Pk.allSnd h (andB_ok t76 0 _ rfl)
theorem s66_3 (h : HO P0 H_217) : Snd P0 66 (Pk.any l66_3) := Pk.allSnd h (andB_ok t76 1 _ rfl)
theorem t88 : andB [Pc.all l166_72 P0 H_286 4000 166, Pc.all l166_73 P0 H_286 4000 166, Pc.all l166_74 P0 H_286 4000 166] = true := by kernel_rfl
theorem s166_72 (h : HO P0 H_286) : Snd P0 166 (Pc.any l166_72) := Pc.allSnd h (andB_ok t88 0 _ rfl)
theorem s166_73 (h : HO P0 H_286) : Snd P0 166 (Pc.any l166_73) := Pc.allSnd h (andB_ok t88 1 _ rfl)
theorem s166_74 (h : HO P0 H_286) : Snd P0 166 (Pc.any l166_74) := Pc.allSnd h (andB_ok t88 2 _ rfl)
theorem t100 : andB [Pc.all l166_88 P0 H_286 4000 166, Pc.all l166_89 P0 H_286 4000 166] = true := by kernel_rfl
theorem s166_88 (h : HO P0 H_286) : Snd P0 166 (Pc.any l166_88) := Pc.allSnd h (andB_ok t100 0 _ rfl)
theorem s166_89 (h : HO P0 H_286) : Snd P0 166 (Pc.any l166_89) := Pc.allSnd h (andB_ok t100 1 _ rfl)
theorem t112 : andB [Pk.all l132_3 P0 H_130 4000 132, Pk.all l132_4 P0 H_130 4000 132] = true := by kernel_rfl
theorem s132_3 (h : HO P0 H_130) : Snd P0 132 (Pk.any l132_3) := Pk.allSnd h (andB_ok t112 0 _ rfl)
theorem s132_4 (h : HO P0 H_130) : Snd P0 132 (Pk.any l132_4) := Pk.allSnd h (andB_ok t112 1 _ rfl)
theorem t124 : andB [Pk.all l14_6 P0 H_253 4000 14] = true := by kernel_rfl
theorem s14_6 (h : HO P0 H_253) : Snd P0 14 (Pk.any l14_6) := Pk.allSnd h (andB_ok t124 0 _ rfl)
theorem t133 : andB [Pc.all l166_54 P0 H_286 4000 166, Pc.all l166_55 P0 H_286 4000 166] = true := by kernel_rfl
theorem s166_54 (h : HO P0 H_286) : Snd P0 166 (Pc.any l166_54) := Pc.allSnd h (andB_ok t133 0 _ rfl)
theorem s166_55 (h : HO P0 H_286) : Snd P0 166 (Pc.any l166_55) := Pc.allSnd h (andB_ok t133 1 _ rfl)
theorem t147 : andB [Pk.all l81_17 P0 H_167 4000 81, Pk.all l81_18 P0 H_167 4000 81] = true := by kernel_rfl
theorem s81_17 (h : HO P0 H_167) : Snd P0 81 (Pk.any l81_17) := Pk.allSnd h (andB_ok t147 0 _ rfl)
theorem s81_18 (h : HO P0 H_167) : Snd P0 81 (Pk.any l81_18) := Pk.allSnd h (andB_ok t147 1 _ rfl)
theorem t157 : andB [Pc.allN l161_5 P0 H_88 4000 161] = true := by kernel_rfl
theorem s161_5 (h : HO P0 H_88) : Snd P0 161 (Pc.any l161_5) := Pc.allSndN h (andB_ok t157 0 _ rfl)
theorem t169 : andB [Pc.all l166_116 P0 H_286 4000 166] = true := by kernel_rfl
theorem s166_116 (h : HO P0 H_286) : Snd P0 166 (Pc.any l166_116) := Pc.allSnd h (andB_ok t169 0 _ rfl)
theorem t185 : andB [Pc.all l166_30 P0 H_286 4000 166] = true := by kernel_rfl
theorem s166_30 (h : HO P0 H_286) : Snd P0 166 (Pc.any l166_30) := Pc.allSnd h (andB_ok t185 0 _ rfl)
end Go.Proofs.YteakajbedjdggaaGreatDoor
