import Derived.Test.YteakajbedjdggaaGreatDoorWhDB
/-
  Calls on the examples of the law, found once: each is run by the kernel on a small memory of its own.
-/
set_option maxRecDepth 1000000
noncomputable section
namespace Go.Proofs.YteakajbedjdggaaGreatDoor
open Go Go.RowKit Go.Sx
theorem t1 : andB [Pk.all l48_5 P0 H_125 4000 48] = true := by kernel_rfl
theorem s48_5 (h : HO P0 H_125) : Snd P0 48 (Pk.any l48_5) := Pk.allSnd h (andB_ok t1 0 _ rfl)
theorem t22 : andB [Pc.all l166_77 P0 H_286 4000 166, Pc.all l166_78 P0 H_286 4000 166, Pc.all l166_79 P0 H_286 4000 166] = true := by kernel_rfl
theorem s166_77 (h : HO P0 H_286) : Snd P0 166 (Pc.any l166_77) := Pc.allSnd h (andB_ok t22 0 _ rfl)
theorem s166_78 (h : HO P0 H_286) : Snd P0 166 (Pc.any l166_78) := Pc.allSnd h (andB_ok t22 1 _ rfl)
theorem s166_79 (h : HO P0 H_286) : Snd P0 166 (Pc.any l166_79) := Pc.allSnd h (andB_ok t22 2 _ rfl)
theorem t34 : andB [Pk.all l163_0 P0 H_232 4000 163, Pk.all l163_1 P0 H_232 4000 163] = true := by kernel_rfl
theorem s163_0 (h : HO P0 H_232) : Snd P0 163 (Pk.any l163_0) := Pk.allSnd h (andB_ok t34 0 _ rfl)
theorem s163_1 (h : HO P0 H_232) : Snd P0 163 (Pk.any l163_1) := Pk.allSnd h (andB_ok t34 1 _ rfl)
theorem t46 : andB [Pc.all l166_37 P0 H_286 4000 166, Pc.all l166_38 P0 H_286 4000 166] = true := by kernel_rfl
theorem s166_37 (h : HO P0 H_286) : Snd P0 166 (Pc.any l166_37) := Pc.allSnd h (andB_ok t46 0 _ rfl)
theorem s166_38 (h : HO P0 H_286) : Snd P0 166 (Pc.any l166_38) := Pc.allSnd h (andB_ok t46 1 _ rfl)
theorem t58 : andB [Pk.all l130_4 P0 H_131 4000 130, Pk.all l130_5 P0 H_131 4000 130] = true := by kernel_rfl
theorem s130_4 (h : HO P0 H_131) : Snd P0 130 (Pk.any l130_4) := Pk.allSnd h (andB_ok t58 0 _ rfl)
theorem s130_5 (h : HO P0 H_131) : Snd P0 130 (Pk.any l130_5) := Pk.allSnd h (andB_ok t58 1 _ rfl)
theorem t70 : andB [Pc.all l166_128 P0 H_286 4000 166] = true := by kernel_rfl
theorem s166_128 (h : HO P0 H_286) : Snd P0 166 (Pc.any l166_128) := Pc.allSnd h (andB_ok t70 0 _ rfl)
theorem t82 : andB [Pk.all l26_2 P0 H_156 4000 26] = true := by kernel_rfl
theorem s26_2 (h : HO P0 H_156) : Snd P0 26 (Pk.any l26_2) := Pk.allSnd h (andB_ok t82 0 _ rfl)
theorem t94 : andB [Pk.all l109_0 P0 H_48 4000 109, Pk.all l13_0 P0 H_109 4000 13, Pk.all l138_0 P0 H_13 4000 138] = true := by kernel_rfl
theorem s109_0 (h : HO P0 H_48) : Snd P0 109 (Pk.any l109_0) := Pk.allSnd h (andB_ok t94 0 _ rfl)
theorem s13_0 (h : HO P0 H_109) : Snd P0 13 (Pk.any l13_0) := Pk.allSnd h (andB_ok t94 1 _ rfl)
theorem s138_0 (h : HO P0 H_13) : Snd P0 138 (Pk.any l138_0) := Pk.allSnd h (andB_ok t94 2 _ rfl)
theorem t106 : andB [Pk.all l81_7 P0 H_167 4000 81] = true := by kernel_rfl
theorem s81_7 (h : HO P0 H_167) : Snd P0 81 (Pk.any l81_7) := Pk.allSnd h (andB_ok t106 0 _ rfl)
theorem t118 : andB [Pc.all l166_122 P0 H_286 4000 166] = true := by kernel_rfl
theorem s166_122 (h : HO P0 H_286) : Snd P0 166 (Pc.any l166_122) := Pc.allSnd h (andB_ok t118 0 _ rfl)
theorem t130 : andB [Pc.all l166_110 P0 H_286 4000 166] = true := by kernel_rfl
theorem s166_110 (h : HO P0 H_286) : Snd P0 166 (Pc.any l166_110) := Pc.allSnd h (andB_ok t130 0 _ rfl)
theorem t142 : andB [Pk.all l26_3 P0 H_156 4000 26, Pk.all l26_4 P0 H_156 4000 26] = true := by kernel_rfl
theorem s26_3 (h : HO P0 H_156) : Snd P0 26 (Pk.any l26_3) := Pk.allSnd h (andB_ok t142 0 _ rfl)
theorem s26_4 (h : HO P0 H_156) : Snd P0 26 (Pk.any l26_4) := Pk.allSnd h (andB_ok t142 1 _ rfl)
theorem t154 : andB [Pc.all l166_27 P0 H_286 4000 166, Pc.all l166_28 P0 H_286 4000 166, Pk.all l166_29 P0 H_286 4000 166] = true := by kernel_rfl
theorem s166_27 (h : HO P0 H_286) : Snd P0 166 (Pc.any l166_27) := Pc.allSnd h (andB_ok t154 0 _ rfl)
theorem s166_28 (h : HO P0 H_286) : Snd P0 166 (Pc.any l166_28) := Pc.allSnd h (andB_ok t154 1 _ rfl)
theorem s166_29 (h : HO P0 H_286) : Snd P0 166 (Pk.any l166_29) := Pk.allSnd h (andB_ok t154 2 _ rfl)
theorem t166 : andB [Pc.all l166_127 P0 H_286 4000 166] = true := by kernel_rfl
theorem s166_127 (h : HO P0 H_286) : Snd P0 166 (Pc.any l166_127) := Pc.allSnd h (andB_ok t166 0 _ rfl)
theorem t178 : andB [Pc.all l166_93 P0 H_286 4000 166] = true := by kernel_rfl
theorem s166_93 (h : HO P0 H_286) : Snd P0 166 (Pc.any l166_93) := Pc.allSnd h (andB_ok t178 0 _ rfl)
theorem t190 : andB [Pk.all l81_6 P0 H_167 4000 81] = true := by kernel_rfl
theorem s81_6 (h : HO P0 H_167) : Snd P0 81 (Pk.any l81_6) := Pk.allSnd h (andB_ok t190 0 _ rfl)
end Go.Proofs.YteakajbedjdggaaGreatDoor
