import Derived.Test.YteakajbedjdggaaGreatDoorWhDB
/-
  Calls on the examples of the law, found once: each is run by the kernel on a small memory of its own.
-/
set_option maxRecDepth 1000000
noncomputable section
namespace Go.Proofs.YteakajbedjdggaaGreatDoor
open Go Go.RowKit Go.Sx
theorem t5 : andB [Pc.all l166_107 P0 H_286 4000 166] = true := by kernel_rfl
theorem s166_107 (h : HO P0 H_286) : Snd P0 166 (Pc.any l166_107) := Pc.allSnd h (andB_ok t5 0 _ rfl)
theorem t18 : andB [Pk.all l51_2 P0 H_132 4000 51, Pk.all l51_3 P0 H_132 4000 51] = true := by kernel_rfl
theorem s51_2 (h : HO P0 H_132) : Snd P0 51 (Pk.any l51_2) := Pk.allSnd h (andB_ok t18 0 _ rfl)
theorem s51_3 (h : HO P0 H_132) : Snd P0 51 (Pk.any l51_3) := Pk.allSnd h (andB_ok t18 1 _ rfl)
theorem t31 : andB [Pk.all l163_4 P0 H_232 4000 163, Pk.all l163_5 P0 H_232 4000 163] = true := by kernel_rfl
theorem s163_4 (h : HO P0 H_232) : Snd P0 163 (Pk.any l163_4) := Pk.allSnd h (andB_ok t31 0 _ rfl)
theorem s163_5 (h : HO P0 H_232) : Snd P0 163 (Pk.any l163_5) := Pk.allSnd h (andB_ok t31 1 _ rfl)
theorem t42 : andB [Pk.all l81_14 P0 H_167 4000 81, Pk.all l81_15 P0 H_167 4000 81] = true := by kernel_rfl
theorem s81_14 (h : HO P0 H_167) : Snd P0 81 (Pk.any l81_14) := Pk.allSnd h (andB_ok t42 0 _ rfl)
theorem s81_15 (h : HO P0 H_167) : Snd P0 81 (Pk.any l81_15) := Pk.allSnd h (andB_ok t42 1 _ rfl)
theorem t55 : andB [Pc.all l166_42 P0 H_286 4000 166, Pc.all l166_43 P0 H_286 4000 166] = true := by kernel_rfl
theorem s166_42 (h : HO P0 H_286) : Snd P0 166 (Pc.any l166_42) := Pc.allSnd h (andB_ok t55 0 _ rfl)
theorem s166_43 (h : HO P0 H_286) : Snd P0 166 (Pc.any l166_43) := Pc.allSnd h (andB_ok t55 1 _ rfl)
theorem t65 : andB [Pk.all l130_6 P0 H_131 4000 130] = true := by kernel_rfl
theorem s130_6 (h : HO P0 H_131) : Snd P0 130 (Pk.any l130_6) := Pk.allSnd h (andB_ok t65 0 _ rfl)
theorem t77 : andB [Pc.all l166_111 P0 H_286 4000 166] = true := by kernel_rfl
theorem s166_111 (h : HO P0 H_286) : Snd P0 166 (Pc.any l166_111) := Pc.allSnd h (andB_ok t77 0 _ rfl)
theorem t89 : andB [Pk.all l48_1 P0 H_125 4000 48, Pk.all l48_2 P0 H_125 4000 48] = true := by kernel_rfl
theorem s48_1 (h : HO P0 H_125) : Snd P0 48 (Pk.any l48_1) := Pk.allSnd h (andB_ok t89 0 _ rfl)
theorem s48_2 (h : HO P0 H_125) : Snd P0 48 (Pk.any l48_2) := Pk.allSnd h (andB_ok t89 1 _ rfl)
theorem t101 : andB [Pc.all l166_84 P0 H_286 4000 166, Pc.all l166_85 P0 H_286 4000 166] = true := by kernel_rfl
theorem s166_84 (h : HO P0 H_286) : Snd P0 166 (Pc.any l166_84) := Pc.allSnd h (andB_ok t101 0 _ rfl)
theorem s166_85 (h : HO P0 H_286) : Snd P0 166 (Pc.any l166_85) := Pc.allSnd h (andB_ok t101 1 _ rfl)
theorem t113 : andB [Pk.all l130_0 P0 H_131 4000 130, Pk.all l130_1 P0 H_131 4000 130] = true := by kernel_rfl
theorem s130_0 (h : HO P0 H_131) : Snd P0 130 (Pk.any l130_0) := Pk.allSnd h (andB_ok t113 0 _ rfl)
theorem s130_1 (h : HO P0 H_131) : Snd P0 130 (Pk.any l130_1) := Pk.allSnd h (andB_ok t113 1 _ rfl)
theorem t125 : andB [Pk.all l125_5 P0 H_124 4000 125, Pk.all l125_6 P0 H_124 4000 125] = true := by kernel_rfl
theorem s125_5 (h : HO P0 H_124) : Snd P0 125 (Pk.any l125_5) := Pk.allSnd h (andB_ok t125 0 _ rfl)
theorem s125_6 (h : HO P0 H_124) : Snd P0 125 (Pk.any l125_6) := Pk.allSnd h (andB_ok t125 1 _ rfl)
theorem t139 : andB [Pc.all l166_35 P0 H_286 4000 166] = true := by kernel_rfl
theorem s166_35 (h : HO P0 H_286) : Snd P0 166 (Pc.any l166_35) := Pc.allSnd h (andB_ok t139 0 _ rfl)
theorem t151 : andB [Pc.all l166_86 P0 H_286 4000 166, Pc.all l166_87 P0 H_286 4000 166] = true := by kernel_rfl
theorem s166_86 (h : HO P0 H_286) : Snd P0 166 (Pc.any l166_86) := Pc.allSnd h (andB_ok t151 0 _ rfl)
theorem s166_87 (h : HO P0 H_286) : Snd P0 166 (Pc.any l166_87) := Pc.allSnd h (andB_ok t151 1 _ rfl)
theorem t162 : andB [Pc.allN l161_10 P0 H_88 4000 161] = true := by kernel_rfl
theorem s161_10 (h : HO P0 H_88) : Snd P0 161 (Pc.any l161_10) := Pc.allSndN h (andB_ok t162 0 _ rfl)
theorem t177 : andB [Pc.all l166_33 P0 H_286 4000 166] = true := by kernel_rfl
theorem s166_33 (h : HO P0 H_286) : Snd P0 166 (Pc.any l166_33) := Pc.allSnd h (andB_ok t177 0 _ rfl)
theorem t181 : andB [Pc.all l166_95 P0 H_286 4000 166] = true := by kernel_rfl
theorem s166_95 (h : HO P0 H_286) : Snd P0 166 (Pc.any l166_95) := Pc.allSnd h (andB_ok t181 0 _ rfl)
end Go.Proofs.YteakajbedjdggaaGreatDoor
