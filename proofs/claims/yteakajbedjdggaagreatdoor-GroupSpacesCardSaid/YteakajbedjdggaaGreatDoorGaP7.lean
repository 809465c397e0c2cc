import Derived.Test.YteakajbedjdggaaGreatDoorGaDC
/-
  Calls on the examples of the law, found once: each is run by the kernel on a small memory of its own.
-/
set_option maxRecDepth 1000000
noncomputable section
namespace Go.Proofs.YteakajbedjdggaaGreatDoor
open Go Go.RowKit Go.Sx
theorem t7 : andB [Pc.all l166_75 P0 H_286 4000 166] = true := by kernel_rfl
theorem s166_75 (h : HO P0 H_286) : Snd P0 166 (Pc.any l166_75) := Pc.allSnd h (andB_ok t7 0 _ rfl)
theorem t24 : andB [Pk.all l163_3 P0 H_232 4000 163, Pk.all l163_4 P0 H_232 4000 163] = true := by kernel_rfl
theorem s163_3 (h : HO P0 H_232) : Snd P0 163 (Pk.any l163_3) := Pk.allSnd h (andB_ok t24 0 _ rfl)
theorem s163_4 (h : HO P0 H_232) : Snd P0 163 (Pk.any l163_4) := Pk.allSnd h (andB_ok t24 1 _ rfl)
theorem t40 : andB [Pk.all l12_8 P0 H_99 4000 12, Pk.all l12_9 P0 H_99 4000 12] = true := by kernel_rfl
theorem s12_8 (h : HO P0 H_99) : Snd P0 12 (Pk.any l12_8) := Pk.allSnd h (andB_ok t40 0 _ rfl)
theorem s12_9 (h : HO P0 H_99) : Snd P0 12 (Pk.any l12_9) := Pk.allSnd h (andB_ok t40 1 _ rfl)
theorem t56 : andB [Pk.all l121_5 P0 H_202 4000 121, Pk.all l121_6 P0 H_202 4000 121] = true := by kernel_rfl
theorem s121_5 (h : HO P0 H_202) : Snd P0 121 (Pk.any l121_5) := Pk.allSnd h (andB_ok t56 0 _ rfl)
theorem s121_6 (h : HO P0 H_202) : Snd P0 121 (Pk.any l121_6) := Pk.allSnd h (andB_ok t56 1 _ rfl)
theorem t73 : andB [Pk.all l66_19 P0 H_217 4000 66, Pk.all l66_20 P0 H_217 4000 66] = true := by kernel_rfl
theorem s66_19 (h : HO P0 H_217) : Snd P0 66 (Pk.any l66_19) := Pk.allSnd h (andB_ok t73 0 _ rfl)
theorem s66_20 (h : HO P0 H_217) : Snd P0 66 (Pk.any l66_20) := Pk.allSnd h (andB_ok t73 1 _ rfl)
theorem t89 : andB [Pk.all l125_13 P0 H_124 4000 125, Pk.all l125_14 P0 H_124 4000 125] = true := by kernel_rfl
theorem s125_13 (h : HO P0 H_124) : Snd P0 125 (Pk.any l125_13) := Pk.allSnd h (andB_ok t89 0 _ rfl)
theorem s125_14 (h : HO P0 H_124) : Snd P0 125 (Pk.any l125_14) := Pk.allSnd h (andB_ok t89 1 _ rfl)
theorem t104 : andB [Pk.all l81_0 P0 H_167 4000 81, Pk.all l81_1 P0 H_167 4000 81] = true := by kernel_rfl
theorem s81_0 (h : HO P0 H_167) : Snd P0 81 (Pk.any l81_0) := Pk.allSnd h (andB_ok t104 0 _ rfl)
theorem s81_1 (h : HO P0 H_167) : Snd P0 81 (Pk.any l81_1) := Pk.allSnd h (andB_ok t104 1 _ rfl)
theorem t120 : andB [Pk.all l121_19 P0 H_202 4000 121, Pk.all l121_20 P0 H_202 4000 121] = true := by kernel_rfl
theorem s121_19 (h : HO P0 H_202) : Snd P0 121 (Pk.any l121_19) := Pk.allSnd h (andB_ok t120 0 _ rfl)
theorem s121_20 (h : HO P0 H_202) : Snd P0 121 (Pk.any l121_20) := Pk.allSnd h (andB_ok t120 1 _ rfl)
theorem t136 : andB [Pk.all l12_1 P0 H_99 4000 12, Pk.all l12_2 P0 H_99 4000 12] = true := by kernel_rfl
theorem s12_1 (h : HO P0 H_99) : Snd P0 12 (Pk.any l12_1) := Pk.allSnd h (andB_ok t136 0 _ rfl)
theorem s12_2 (h : HO P0 H_99) : Snd P0 12 (Pk.any l12_2) := Pk.allSnd h (andB_ok t136 1 _ rfl)
theorem t152 : andB [Pc.all l166_11 P0 H_286 4000 166, Pc.all l166_12 P0 H_286 4000 166] = true := by kernel_rfl
theorem s166_11 (h : HO P0 H_286) : Snd P0 166 (Pc.any l166_11) := Pc.allSnd h (andB_ok t152 0 _ rfl)
theorem s166_12 (h : HO P0 H_286) : Snd P0 166 (Pc.any l166_12) := Pc.allSnd h (andB_ok t152 1 _ rfl)
theorem t169 : andB [Pk.all l97_20 P0 H_125 4000 97] = true := by kernel_rfl
theorem s97_20 (h : HO P0 H_125) : Snd P0 97 (Pk.any l97_20) := Pk.allSnd h (andB_ok t169 0 _ rfl)
theorem t178 : andB [Pk.all l121_25 P0 H_202 4000 121, Pk.all l121_26 P0 H_202 4000 121] = true := by kernel_rfl
theorem s121_25 (h : HO P0 H_202) : Snd P0 121 (Pk.any l121_25) := Pk.allSnd h (andB_ok t178 0 _ rfl)
theorem s121_26 (h : HO P0 H_202) : Snd P0 121 (Pk.any l121_26) := Pk.allSnd h (andB_ok t178 1 _ rfl)
theorem t193 : andB [Pk.all l133_0 P0 H_86 4000 133, Pk.all l136_0 P0 H_133 4000 136, Pk.all l232_0 P0 H_136 4000 232, Pk.all l163_0 P0 H_232 4000 163] = true := by kernel_rfl
theorem s133_0 (h : HO P0 H_86) : Snd P0 133 (Pk.any l133_0) := Pk.allSnd h (andB_ok t193 0 _ rfl)
theorem s136_0 (h : HO P0 H_133) : Snd P0 136 (Pk.any l136_0) := Pk.allSnd h (andB_ok t193 1 _ rfl)
theorem s232_0 (h : HO P0 H_136) : Snd P0 232 (Pk.any l232_0) := Pk.allSnd h (andB_ok t193 2 _ rfl)
theorem s163_0 (h : HO P0 H_232) : Snd P0 163 (Pk.any l163_0) := Pk.allSnd h (andB_ok t193 3 _ rfl)
theorem t219 : andB [Pk.all l97_9 P0 H_125 4000 97] = true := by kernel_rfl
theorem s97_9 (h : HO P0 H_125) : Snd P0 97 (Pk.any l97_9) := Pk.allSnd h (andB_ok t219 0 _ rfl)
theorem t225 : andB [Pk.all l12_10 P0 H_99 4000 12, Pk.all l23_0 P0 H_12 4000 23, Pk.all l24_0 P0 H_23 4000 24] = true := by kernel_rfl
theorem s12_10 (h : HO P0 H_99) : Snd P0 12 (Pk.any l12_10) := Pk.allSnd h (andB_ok t225 0 _ rfl)
theorem s23_0 (h : HO P0 H_12) : Snd P0 23 (Pk.any l23_0) := Pk.allSnd h (andB_ok t225 1 _ rfl)
theorem s24_0 (h : HO P0 H_23) : Snd P0 24 (Pk.any l24_0) := Pk.allSnd h (andB_ok t225 2 _ rfl)
end Go.Proofs.YteakajbedjdggaaGreatDoor
