import Derived.Test.YteakajbedjdggaaGreatDoorWhDB
/-
  Calls on the examples of the law, found once: each is run by the kernel on a small memory of its own.
-/
set_option maxRecDepth 1000000
noncomputable section
namespace Go.Proofs.YteakajbedjdggaaGreatDoor
open Go Go.RowKit Go.Sx
theorem t2 : andB [Pk.all l26_5 P0 H_156 4000 26] = true := by kernel_rfl
theorem s26_5 (h : HO P0 H_156) : Snd P0 26 (Pk.any l26_5) := Pk.allSnd h (andB_ok t2 0 _ rfl)
theorem t21 : andB [Pk.all l48_6 P0 H_125 4000 48, Pk.all l48_7 P0 H_125 4000 48] = true := by kernel_rfl
theorem s48_6 (h : HO P0 H_125) : Snd P0 48 (Pk.any l48_6) := Pk.allSnd h (andB_ok t21 0 _ rfl)
theorem s48_7 (h : HO P0 H_125) : Snd P0 48 (Pk.any l48_7) := Pk.allSnd h (andB_ok t21 1 _ rfl)
theorem t33 : andB [Pk.all l66_4 P0 H_217 4000 66, Pk.all l66_5 P0 H_217 4000 66, Pk.all l66_6 P0 H_217 4000 66] = true := by kernel_rfl
theorem s66_4 (h : HO P0 H_217) : Snd P0 66 (Pk.any l66_4) := Pk.allSnd h (andB_ok t33 0 _ rfl)
theorem s66_5 (h : HO P0 H_217) : Snd P0 66 (Pk.any l66_5) := Pk.allSnd h (andB_ok t33 1 _ rfl)
theorem s66_6 (h : HO P0 H_217) : Snd P0 66 (Pk.any l66_6) := Pk.allSnd h (andB_ok t33 2 _ rfl)
theorem t45 : andB [Pk.all l66_15 P0 H_217 4000 66, Pk.all l66_16 P0 H_217 4000 66] = true := by kernel_rfl
theorem s66_15 (h : HO P0 H_217) : Snd P0 66 (Pk.any l66_15) := Pk.allSnd h (andB_ok t45 0 _ rfl)
theorem s66_16 (h : HO P0 H_217) : Snd P0 66 (Pk.any l66_16) := Pk.allSnd h (andB_ok t45 1 _ rfl)
theorem t57 : andB [Pk.all l51_4 P0 H_132 4000 51, Pk.all l51_5 P0 H_132 4000 51] = true := by kernel_rfl
theorem s51_4 (h : HO P0 H_132) : Snd P0 51 (Pk.any l51_4) := Pk.allSnd h (andB_ok t57 0 _ rfl)
theorem s51_5 (h : HO P0 H_132) : Snd P0 51 (Pk.any l51_5) := Pk.allSnd h (andB_ok t57 1 _ rfl)
theorem t69 : andB [Pk.all l134_0 P0 H_77 4000 134, Pk.all l25_0 P0 H_134 4000 25, Pk.all l151_0 P0 H_25 4000 151, Pk.all l152_0 P0 H_151 4000 152, Pk.all l155_0 P0 H_152 4000 155, Pk.all l69_0 P0 H_155 4000 69, Pk.all l86_0 P0 H_69 4000 86, Pk.all l133_0 P0 H_86 4000 133, Pk.all l136_0 P0 H_133 4000 136, Pk.all l232_0 P0 H_136 4000 232] = true := by kernel_rfl
theorem s134_0 (h : HO P0 H_77) : Snd P0 134 (Pk.any l134_0) := Pk.allSnd h (andB_ok t69 0 _ rfl)
theorem s25_0 (h : HO P0 H_134) : Snd P0 25 (Pk.any l25_0) := Pk.allSnd h (andB_ok t69 1 _ rfl)
theorem s151_0 (h : HO P0 H_25) : Snd P0 151 (Pk.any l151_0) := Pk.allSnd h (andB_ok t69 2 _ rfl)
theorem s152_0 (h : HO P0 H_151) : Snd P0 152 (Pk.any l152_0) := Pk.allSnd h (andB_ok t69 3 _ rfl)
theorem s155_0 (h : HO P0 H_152) : Snd P0 155 (Pk.any l155_0) := Pk.allSnd h (andB_ok t69 4 _ rfl)
theorem s69_0 (h : HO P0 H_155) : Snd P0 69 (Pk.any l69_0) := Pk.allSnd h (andB_ok t69 5 _ rfl)
theorem s86_0 (h : HO P0 H_69) : Snd P0 86 (Pk.any l86_0) := Pk.allSnd h (andB_ok t69 6 _ rfl)
theorem s133_0 (h : HO P0 H_86) : Snd P0 133 (Pk.any l133_0) := Pk.allSnd h (andB_ok t69 7 _ rfl)
theorem s136_0 (h : HO P0 H_133) : Snd P0 136 (Pk.any l136_0) := Pk.allSnd h (andB_ok t69 8 _ rfl)
theorem s232_0 (h : HO P0 H_136) : Snd P0 232 (Pk.any l232_0) := Pk.allSnd h (andB_ok t69 9 _ rfl)
theorem t81 : andB [Pc.all l166_52 P0 H_286 4000 166, Pc.all l166_53 P0 H_286 4000 166] = true := by kernel_rfl
theorem s166_52 (h : HO P0 H_286) : Snd P0 166 (Pc.any l166_52) := Pc.allSnd h (andB_ok t81 0 _ rfl)
theorem s166_53 (h : HO P0 H_286) : Snd P0 166 (Pc.any l166_53) := Pc.allSnd h (andB_ok t81 1 _ rfl)
theorem t93 : andB [Pc.all l124_1 P0 H_205 4000 124, Pc.all l124_2 P0 H_205 4000 124, Pc.all l124_3 P0 H_205 4000 124] = true := by kernel_rfl
theorem s124_1 (h : HO P0 H_205) : Snd P0 124 (Pc.any l124_1) := Pc.allSnd h (andB_ok t93 0 _ rfl)
theorem s124_2 (h : HO P0 H_205) : Snd P0 124 (Pc.any l124_2) := Pc.allSnd h (andB_ok t93 1 _ rfl)
theorem s124_3 (h : HO P0 H_205) : Snd P0 124 (Pc.any l124_3) := Pc.allSnd h (andB_ok t93 2 _ rfl)
theorem t105 : andB [Pc.all l166_14 P0 H_286 4000 166, Pc.all l166_15 P0 H_286 4000 166, Pk.all l166_16 P0 H_286 4000 166] = true := by kernel_rfl
theorem s166_14 (h : HO P0 H_286) : Snd P0 166 (Pc.any l166_14) := Pc.allSnd h (andB_ok t105 0 _ rfl)
theorem s166_15 (h : HO P0 H_286) : Snd P0 166 (Pc.any l166_15) := Pc.allSnd h (andB_ok t105 1 _ rfl)
theorem s166_16 (h : HO P0 H_286) : Snd P0 166 (Pk.any l166_16) := Pk.allSnd h (andB_ok t105 2 _ rfl)
theorem t117 : andB [Pc.all l166_23 P0 H_286 4000 166, Pc.all l166_24 P0 H_286 4000 166] = true := by kernel_rfl
theorem s166_23 (h : HO P0 H_286) : Snd P0 166 (Pc.any l166_23) := Pc.allSnd h (andB_ok t117 0 _ rfl)
theorem s166_24 (h : HO P0 H_286) : Snd P0 166 (Pc.any l166_24) := Pc.allSnd h (andB_ok t117 1 _ rfl)
theorem t129 : andB [Pc.all l166_109 P0 H_286 4000 166] = true := by kernel_rfl
theorem s166_109 (h : HO P0 H_286) : Snd P0 166 (Pc.any l166_109) := Pc.allSnd h (andB_ok t129 0 _ rfl)
theorem t141 : andB [Pk.all l28_1 P0 H_89 4000 28, Pk.all l28_2 P0 H_89 4000 28] = true := by kernel_rfl
theorem s28_1 (h : HO P0 H_89) : Snd P0 28 (Pk.any l28_1) := Pk.allSnd h (andB_ok t141 0 _ rfl)
theorem s28_2 (h : HO P0 H_89) : Snd P0 28 (Pk.any l28_2) := Pk.allSnd h (andB_ok t141 1 _ rfl)
theorem t153 : andB [Pk.all l81_24 P0 H_167 4000 81, Pk.all l81_25 P0 H_167 4000 81] = true := by kernel_rfl
theorem s81_24 (h : HO P0 H_167) : Snd P0 81 (Pk.any l81_24) := Pk.allSnd h (andB_ok t153 0 _ rfl)
theorem s81_25 (h : HO P0 H_167) : Snd P0 81 (Pk.any l81_25) := Pk.allSnd h (andB_ok t153 1 _ rfl)
theorem t163 : andB [Pk.all l81_12 P0 H_167 4000 81, Pk.all l81_13 P0 H_167 4000 81] = true := by kernel_rfl
theorem s81_12 (h : HO P0 H_167) : Snd P0 81 (Pk.any l81_12) := Pk.allSnd h (andB_ok t163 0 _ rfl)
theorem s81_13 (h : HO P0 H_167) : Snd P0 81 (Pk.any l81_13) := Pk.allSnd h (andB_ok t163 1 _ rfl)
theorem t175 : andB [Pc.all l124_6 P0 H_205 4000 124, Pc.all l124_7 P0 H_205 4000 124] = true := by kernel_rfl
theorem s124_6 (h : HO P0 H_205) : Snd P0 124 (Pc.any l124_6) := Pc.allSnd h (andB_ok t175 0 _ rfl)
theorem s124_7 (h : HO P0 H_205) : Snd P0 124 (Pc.any l124_7) := Pc.allSnd h (andB_ok t175 1 _ rfl)
theorem t189 : andB [Pk.all l22_0 P0 H_15 4000 22, Pk.all l23_0 P0 H_22 4000 23, Pk.all l24_0 P0 H_23 4000 24] = true := by kernel_rfl
theorem s22_0 (h : HO P0 H_15) : Snd P0 22 (Pk.any l22_0) := Pk.allSnd h (andB_ok t189 0 _ rfl)
theorem s23_0 (h : HO P0 H_22) : Snd P0 23 (Pk.any l23_0) := Pk.allSnd h (andB_ok t189 1 _ rfl)
theorem s24_0 (h : HO P0 H_23) : Snd P0 24 (Pk.any l24_0) := Pk.allSnd h (andB_ok t189 2 _ rfl)
end Go.Proofs.YteakajbedjdggaaGreatDoor
