import Derived.Test.YteakajbedjdggaaGreatDoorGaP0
import Derived.Test.YteakajbedjdggaaGreatDoorGaP1
import Derived.Test.YteakajbedjdggaaGreatDoorGaP2
import Derived.Test.YteakajbedjdggaaGreatDoorGaP3
import Derived.Test.YteakajbedjdggaaGreatDoorGaP4
import Derived.Test.YteakajbedjdggaaGreatDoorGaP5
import Derived.Test.YteakajbedjdggaaGreatDoorGaP6
import Derived.Test.YteakajbedjdggaaGreatDoorGaP7
import Derived.Test.YteakajbedjdggaaGreatDoorGaP8
import Derived.Test.YteakajbedjdggaaGreatDoorGaP9
import Derived.Test.YteakajbedjdggaaGreatDoorGaP10
import Derived.Test.YteakajbedjdggaaGreatDoorGaP11
import Derived.Test.YteakajbedjdggaaGreatDoorGaP12
import Derived.Test.YteakajbedjdggaaGreatDoorGaP13
import Derived.Test.YteakajbedjdggaaGreatDoorGaP14
import Derived.Test.YteakajbedjdggaaGreatDoorGaP15
/-
  Calls on the examples of the law, found once: each is run by the kernel on a small memory of its own.
-/
set_option maxRecDepth 1000000
noncomputable section
namespace Go.Proofs.YteakajbedjdggaaGreatDoor
open Go Go.RowKit Go.Sx
theorem ho_H_198 : HO P0 H_198 := ho_add (s198_0 ho_H_0) ho_H_0
theorem ho_H_110 : HO P0 H_110 := ho_add (s110_0 ho_H_198) ho_H_198
theorem ho_H_88 : HO P0 H_88 := ho_add (s88_0 ho_H_110) ho_H_110
theorem ho_H_54 : HO P0 H_54 := ho_add (orG_ok (s54_0 ho_H_88) (s54_1 ho_H_88)) ho_H_88
theorem ho_H_161 : HO P0 H_161 := ho_add (orG_ok (s161_0 ho_H_54) (orG_ok (s161_1 ho_H_54) (orG_ok (s161_2 ho_H_54) (orG_ok (s161_3 ho_H_54) (orG_ok (s161_4 ho_H_54) (orG_ok (s161_5 ho_H_54) (orG_ok (s161_6 ho_H_54) (orG_ok (s161_7 ho_H_54) (orG_ok (s161_8 ho_H_54) (orG_ok (s161_9 ho_H_54) (orG_ok (s161_10 ho_H_54) (orG_ok (s161_11 ho_H_54) (s161_12 ho_H_54))))))))))))) ho_H_54
theorem ho_H_25 : HO P0 H_25 := ho_add (orG_ok (s25_0 ho_H_161) (s25_1 ho_H_161)) ho_H_161
theorem ho_H_151 : HO P0 H_151 := ho_add (s151_0 ho_H_25) ho_H_25
theorem ho_H_152 : HO P0 H_152 := ho_add (s152_0 ho_H_151) ho_H_151
theorem ho_H_155 : HO P0 H_155 := ho_add (s155_0 ho_H_152) ho_H_152
theorem ho_H_69 : HO P0 H_69 := ho_add (s69_0 ho_H_155) ho_H_155
theorem ho_H_86 : HO P0 H_86 := ho_add (s86_0 ho_H_69) ho_H_69
theorem ho_H_133 : HO P0 H_133 := ho_add (s133_0 ho_H_86) ho_H_86
theorem ho_H_136 : HO P0 H_136 := ho_add (s136_0 ho_H_133) ho_H_133
theorem ho_H_232 : HO P0 H_232 := ho_add (s232_0 ho_H_136) ho_H_136
theorem ho_H_163 : HO P0 H_163 := ho_add (orG_ok (s163_0 ho_H_232) (orG_ok (s163_1 ho_H_232) (orG_ok (s163_2 ho_H_232) (orG_ok (s163_3 ho_H_232) (orG_ok (s163_4 ho_H_232) (orG_ok (s163_5 ho_H_232) (s163_6 ho_H_232))))))) ho_H_232
theorem ho_H_238 : HO P0 H_238 := ho_add (s238_0 ho_H_163) ho_H_163
theorem ho_H_236 : HO P0 H_236 := ho_add (s236_0 ho_H_238) ho_H_238
theorem ho_H_172 : HO P0 H_172 := ho_add (s172_0 ho_H_236) ho_H_236
theorem ho_H_173 : HO P0 H_173 := ho_add (s173_0 ho_H_172) ho_H_172
theorem ho_H_285 : HO P0 H_285 := ho_add (s285_0 ho_H_173) ho_H_173
theorem ho_H_286 : HO P0 H_286 := ho_add (orG_ok (s286_0 ho_H_285) (s286_1 ho_H_285)) ho_H_285
theorem ho_H_166 : HO P0 H_166 := ho_add (orG_ok (s166_0 ho_H_286) (orG_ok (s166_1 ho_H_286) (orG_ok (s166_2 ho_H_286) (orG_ok (s166_3 ho_H_286) (orG_ok (s166_4 ho_H_286) (orG_ok (s166_5 ho_H_286) (orG_ok (s166_6 ho_H_286) (orG_ok (s166_7 ho_H_286) (orG_ok (s166_8 ho_H_286) (orG_ok (s166_9 ho_H_286) (orG_ok (s166_10 ho_H_286) (orG_ok (s166_11 ho_H_286) (orG_ok (s166_12 ho_H_286) (orG_ok (s166_13 ho_H_286) (orG_ok (s166_14 ho_H_286) (orG_ok (s166_15 ho_H_286) (orG_ok (s166_16 ho_H_286) (orG_ok (s166_17 ho_H_286) (orG_ok (s166_18 ho_H_286) (orG_ok (s166_19 ho_H_286) (orG_ok (s166_20 ho_H_286) (orG_ok (s166_21 ho_H_286) (orG_ok (s166_22 ho_H_286) (orG_ok (s166_23 ho_H_286) (orG_ok (s166_24 ho_H_286) (orG_ok (s166_25 ho_H_286) (orG_ok (s166_26 ho_H_286) (orG_ok (s166_27 ho_H_286) (orG_ok (s166_28 ho_H_286) (orG_ok (s166_29 ho_H_286) (orG_ok (s166_30 ho_H_286) (orG_ok (s166_31 ho_H_286) (orG_ok (s166_32 ho_H_286) (orG_ok (s166_33 ho_H_286) (orG_ok (s166_34 ho_H_286) (orG_ok (s166_35 ho_H_286) (orG_ok (s166_36 ho_H_286) (orG_ok (s166_37 ho_H_286) (orG_ok (s166_38 ho_H_286) (orG_ok (s166_39 ho_H_286) (orG_ok (s166_40 ho_H_286) (orG_ok (s166_41 ho_H_286) (orG_ok (s166_42 ho_H_286) (orG_ok (s166_43 ho_H_286) (orG_ok (s166_44 ho_H_286) (orG_ok (s166_45 ho_H_286) (orG_ok (s166_46 ho_H_286) (orG_ok (s166_47 ho_H_286) (orG_ok (s166_48 ho_H_286) (orG_ok (s166_49 ho_H_286) (orG_ok (s166_50 ho_H_286) (orG_ok (s166_51 ho_H_286) (orG_ok (s166_52 ho_H_286) (orG_ok (s166_53 ho_H_286) (orG_ok (s166_54 ho_H_286) (orG_ok (s166_55 ho_H_286) (orG_ok (s166_56 ho_H_286) (orG_ok (s166_57 ho_H_286) (orG_ok (s166_58 ho_H_286) (orG_ok (s166_59 ho_H_286) (orG_ok (s166_60 ho_H_286) (orG_ok (s166_61 ho_H_286) (orG_ok (s166_62 ho_H_286) (orG_ok (s166_63 ho_H_286) (orG_ok (s166_64 ho_H_286) (orG_ok (s166_65 ho_H_286) (orG_ok (s166_66 ho_H_286) (orG_ok (s166_67 ho_H_286) (orG_ok (s166_68 ho_H_286) (orG_ok (s166_69 ho_H_286) (orG_ok (s166_70 ho_H_286) (orG_ok (s166_71 ho_H_286) (orG_ok (s166_72 ho_H_286) (orG_ok (s166_73 ho_H_286) (orG_ok (s166_74 ho_H_286) (orG_ok (s166_75 ho_H_286) (orG_ok (s166_76 ho_H_286) (orG_ok (s166_77 ho_H_286) (orG_ok (s166_78 ho_H_286) (orG_ok (s166_79 ho_H_286) (orG_ok (s166_80 ho_H_286) (orG_ok (s166_81 ho_H_286) (orG_ok (s166_82 ho_H_286) (orG_ok (s166_83 ho_H_286) (orG_ok (s166_84 ho_H_286) (orG_ok (s166_85 ho_H_286) (orG_ok (s166_86 ho_H_286) (orG_ok (s166_87 ho_H_286) (orG_ok (s166_88 ho_H_286) (orG_ok (s166_89 ho_H_286) (orG_ok (s166_90 ho_H_286) (orG_ok (s166_91 ho_H_286) (orG_ok (s166_92 ho_H_286) (orG_ok (s166_93 ho_H_286) (orG_ok (s166_94 ho_H_286) (orG_ok (s166_95 ho_H_286) (orG_ok (s166_96 ho_H_286) (orG_ok (s166_97 ho_H_286) (orG_ok (s166_98 ho_H_286) (orG_ok (s166_99 ho_H_286) (orG_ok (s166_100 ho_H_286) (orG_ok (s166_101 ho_H_286) (orG_ok (s166_102 ho_H_286) (orG_ok (s166_103 ho_H_286) (orG_ok (s166_104 ho_H_286) (orG_ok (s166_105 ho_H_286) (orG_ok (s166_106 ho_H_286) (orG_ok (s166_107 ho_H_286) (orG_ok (s166_108 ho_H_286) (orG_ok (s166_109 ho_H_286) (orG_ok (s166_110 ho_H_286) (orG_ok (s166_111 ho_H_286) (orG_ok (s166_112 ho_H_286) (orG_ok (s166_113 ho_H_286) (orG_ok (s166_114 ho_H_286) (orG_ok (s166_115 ho_H_286) (orG_ok (s166_116 ho_H_286) (orG_ok (s166_117 ho_H_286) (orG_ok (s166_118 ho_H_286) (s166_119 ho_H_286)))))))))))))))))))))))))))))))))))))))))))))))))))))))))))))))))))))))))))))))))))))))))))))))))))))))))))))))))))))))) ho_H_286
theorem ho_H_167 : HO P0 H_167 := ho_add (orG_ok (s167_0 ho_H_166) (orG_ok (s167_1 ho_H_166) (orG_ok (s167_2 ho_H_166) (orG_ok (s167_3 ho_H_166) (orG_ok (s167_4 ho_H_166) (orG_ok (s167_5 ho_H_166) (orG_ok (s167_6 ho_H_166) (orG_ok (s167_7 ho_H_166) (orG_ok (s167_8 ho_H_166) (orG_ok (s167_9 ho_H_166) (orG_ok (s167_10 ho_H_166) (orG_ok (s167_11 ho_H_166) (orG_ok (s167_12 ho_H_166) (orG_ok (s167_13 ho_H_166) (orG_ok (s167_14 ho_H_166) (orG_ok (s167_15 ho_H_166) (run_snd ho_H_166 4000 167))))))))))))))))) ho_H_166
theorem ho_H_81 : HO P0 H_81 := ho_add (orG_ok (s81_0 ho_H_167) (orG_ok (s81_1 ho_H_167) (orG_ok (s81_2 ho_H_167) (orG_ok (s81_3 ho_H_167) (orG_ok (s81_4 ho_H_167) (orG_ok (s81_5 ho_H_167) (orG_ok (s81_6 ho_H_167) (orG_ok (s81_7 ho_H_167) (orG_ok (s81_8 ho_H_167) (orG_ok (s81_9 ho_H_167) (orG_ok (s81_10 ho_H_167) (orG_ok (s81_11 ho_H_167) (orG_ok (s81_12 ho_H_167) (orG_ok (s81_13 ho_H_167) (orG_ok (s81_14 ho_H_167) (orG_ok (s81_15 ho_H_167) (orG_ok (s81_16 ho_H_167) (orG_ok (s81_17 ho_H_167) (orG_ok (s81_18 ho_H_167) (orG_ok (s81_19 ho_H_167) (orG_ok (s81_20 ho_H_167) (orG_ok (s81_21 ho_H_167) (orG_ok (s81_22 ho_H_167) (orG_ok (s81_23 ho_H_167) (orG_ok (s81_24 ho_H_167) (orG_ok (s81_25 ho_H_167) (orG_ok (s81_26 ho_H_167) (orG_ok (s81_27 ho_H_167) (orG_ok (s81_28 ho_H_167) (s81_29 ho_H_167)))))))))))))))))))))))))))))) ho_H_167
theorem ho_H_84 : HO P0 H_84 := ho_add (s84_0 ho_H_81) ho_H_81
theorem ho_H_217 : HO P0 H_217 := ho_add (s217_0 ho_H_84) ho_H_84
theorem ho_H_66 : HO P0 H_66 := ho_add (orG_ok (s66_0 ho_H_217) (orG_ok (s66_1 ho_H_217) (orG_ok (s66_2 ho_H_217) (orG_ok (s66_3 ho_H_217) (orG_ok (s66_4 ho_H_217) (orG_ok (s66_5 ho_H_217) (orG_ok (s66_6 ho_H_217) (orG_ok (s66_7 ho_H_217) (orG_ok (s66_8 ho_H_217) (orG_ok (s66_9 ho_H_217) (orG_ok (s66_10 ho_H_217) (orG_ok (s66_11 ho_H_217) (orG_ok (s66_12 ho_H_217) (orG_ok (s66_13 ho_H_217) (orG_ok (s66_14 ho_H_217) (orG_ok (s66_15 ho_H_217) (orG_ok (s66_16 ho_H_217) (orG_ok (s66_17 ho_H_217) (orG_ok (s66_18 ho_H_217) (orG_ok (s66_19 ho_H_217) (orG_ok (s66_20 ho_H_217) (orG_ok (s66_21 ho_H_217) (orG_ok (s66_22 ho_H_217) (orG_ok (s66_23 ho_H_217) (orG_ok (s66_24 ho_H_217) (orG_ok (s66_25 ho_H_217) (orG_ok (s66_26 ho_H_217) (orG_ok (s66_27 ho_H_217) (orG_ok (s66_28 ho_H_217) (orG_ok (s66_29 ho_H_217) (s66_30 ho_H_217))))))))))))))))))))))))))))))) ho_H_217
theorem ho_H_85 : HO P0 H_85 := ho_add (s85_0 ho_H_66) ho_H_66
theorem ho_H_156 : HO P0 H_156 := ho_add (orG_ok (s156_0 ho_H_85) (s156_1 ho_H_85)) ho_H_85
theorem ho_H_26 : HO P0 H_26 := ho_add (orG_ok (s26_0 ho_H_156) (orG_ok (s26_1 ho_H_156) (orG_ok (s26_2 ho_H_156) (orG_ok (s26_3 ho_H_156) (orG_ok (s26_4 ho_H_156) (orG_ok (s26_5 ho_H_156) (orG_ok (s26_6 ho_H_156) (orG_ok (s26_7 ho_H_156) (s26_8 ho_H_156))))))))) ho_H_156
theorem ho_H_89 : HO P0 H_89 := ho_add (s89_0 ho_H_26) ho_H_26
theorem ho_H_28 : HO P0 H_28 := ho_add (orG_ok (s28_0 ho_H_89) (orG_ok (s28_1 ho_H_89) (s28_2 ho_H_89))) ho_H_89
theorem ho_H_8 : HO P0 H_8 := ho_add (orG_ok (s8_0 ho_H_28) (orG_ok (s8_1 ho_H_28) (s8_2 ho_H_28))) ho_H_28
theorem ho_H_9 : HO P0 H_9 := ho_add (s9_0 ho_H_8) ho_H_8
theorem ho_H_16 : HO P0 H_16 := ho_add (s16_0 ho_H_9) ho_H_9
theorem ho_H_22 : HO P0 H_22 := ho_add (s22_0 ho_H_16) ho_H_16
theorem ho_H_145 : HO P0 H_145 := ho_add (s145_0 ho_H_22) ho_H_22
theorem ho_H_213 : HO P0 H_213 := ho_add (s213_0 ho_H_145) ho_H_145
theorem ho_H_246 : HO P0 H_246 := ho_add (s246_0 ho_H_213) ho_H_213
theorem ho_H_252 : HO P0 H_252 := ho_add (orG_ok (s252_0 ho_H_246) (s252_1 ho_H_246)) ho_H_246
theorem ho_H_253 : HO P0 H_253 := ho_add (s253_0 ho_H_252) ho_H_252
theorem ho_H_31 : HO P0 H_31 := ho_add (orG_ok (s31_0 ho_H_253) (orG_ok (s31_1 ho_H_253) (orG_ok (s31_2 ho_H_253) (orG_ok (s31_3 ho_H_253) (orG_ok (s31_4 ho_H_253) (s31_5 ho_H_253)))))) ho_H_253
theorem ho_H_159 : HO P0 H_159 := ho_add (s159_0 ho_H_31) ho_H_31
theorem ho_H_5 : HO P0 H_5 := ho_add (s5_0 ho_H_159) ho_H_159
theorem ho_H_109 : HO P0 H_109 := ho_add (s109_0 ho_H_5) ho_H_5
theorem ho_H_138 : HO P0 H_138 := ho_add (s138_0 ho_H_109) ho_H_109
theorem ho_H_32 : HO P0 H_32 := ho_add (orG_ok (s32_0 ho_H_138) (orG_ok (s32_1 ho_H_138) (orG_ok (s32_2 ho_H_138) (orG_ok (s32_3 ho_H_138) (orG_ok (s32_4 ho_H_138) (s32_5 ho_H_138)))))) ho_H_138
theorem ho_H_193 : HO P0 H_193 := ho_add (s193_0 ho_H_32) ho_H_32
theorem ho_H_126 : HO P0 H_126 := ho_add (s126_0 ho_H_193) ho_H_193
theorem ho_H_190 : HO P0 H_190 := ho_add (s190_0 ho_H_126) ho_H_126
theorem ho_H_37 : HO P0 H_37 := ho_add (s37_0 ho_H_190) ho_H_190
theorem ho_H_62 : HO P0 H_62 := ho_add (orG_ok (s62_0 ho_H_37) (orG_ok (s62_1 ho_H_37) (orG_ok (s62_2 ho_H_37) (s62_3 ho_H_37)))) ho_H_37
theorem ho_H_104 : HO P0 H_104 := ho_add (s104_0 ho_H_62) ho_H_62
theorem ho_H_118 : HO P0 H_118 := ho_add (orG_ok (s118_0 ho_H_104) (orG_ok (s118_1 ho_H_104) (orG_ok (s118_2 ho_H_104) (s118_3 ho_H_104)))) ho_H_104
theorem ho_H_119 : HO P0 H_119 := ho_add (s119_0 ho_H_118) ho_H_118
theorem ho_H_206 : HO P0 H_206 := ho_add (s206_0 ho_H_119) ho_H_119
theorem ho_H_202 : HO P0 H_202 := ho_add (s202_0 ho_H_206) ho_H_206
theorem ho_H_121 : HO P0 H_121 := ho_add (orG_ok (s121_0 ho_H_202) (orG_ok (s121_1 ho_H_202) (orG_ok (s121_2 ho_H_202) (orG_ok (s121_3 ho_H_202) (orG_ok (s121_4 ho_H_202) (orG_ok (s121_5 ho_H_202) (orG_ok (s121_6 ho_H_202) (orG_ok (s121_7 ho_H_202) (orG_ok (s121_8 ho_H_202) (orG_ok (s121_9 ho_H_202) (orG_ok (s121_10 ho_H_202) (orG_ok (s121_11 ho_H_202) (orG_ok (s121_12 ho_H_202) (orG_ok (s121_13 ho_H_202) (orG_ok (s121_14 ho_H_202) (orG_ok (s121_15 ho_H_202) (orG_ok (s121_16 ho_H_202) (orG_ok (s121_17 ho_H_202) (orG_ok (s121_18 ho_H_202) (orG_ok (s121_19 ho_H_202) (orG_ok (s121_20 ho_H_202) (orG_ok (s121_21 ho_H_202) (orG_ok (s121_22 ho_H_202) (orG_ok (s121_23 ho_H_202) (orG_ok (s121_24 ho_H_202) (orG_ok (s121_25 ho_H_202) (orG_ok (s121_26 ho_H_202) (orG_ok (s121_27 ho_H_202) (orG_ok (s121_28 ho_H_202) (orG_ok (s121_29 ho_H_202) (orG_ok (s121_30 ho_H_202) (orG_ok (s121_31 ho_H_202) (orG_ok (s121_32 ho_H_202) (orG_ok (s121_33 ho_H_202) (orG_ok (s121_34 ho_H_202) (orG_ok (s121_35 ho_H_202) (s121_36 ho_H_202))))))))))))))))))))))))))))))))))))) ho_H_202
theorem ho_H_265 : HO P0 H_265 := ho_add (s265_0 ho_H_121) ho_H_121
theorem ho_H_205 : HO P0 H_205 := ho_add (s205_0 ho_H_265) ho_H_265
theorem ho_H_124 : HO P0 H_124 := ho_add (orG_ok (s124_0 ho_H_205) (orG_ok (s124_1 ho_H_205) (orG_ok (s124_2 ho_H_205) (orG_ok (s124_3 ho_H_205) (orG_ok (s124_4 ho_H_205) (orG_ok (s124_5 ho_H_205) (orG_ok (s124_6 ho_H_205) (orG_ok (s124_7 ho_H_205) (orG_ok (s124_8 ho_H_205) (orG_ok (s124_9 ho_H_205) (orG_ok (s124_10 ho_H_205) (orG_ok (s124_11 ho_H_205) (orG_ok (s124_12 ho_H_205) (orG_ok (s124_13 ho_H_205) (orG_ok (s124_14 ho_H_205) (orG_ok (s124_15 ho_H_205) (orG_ok (s124_16 ho_H_205) (orG_ok (s124_17 ho_H_205) (orG_ok (s124_18 ho_H_205) (orG_ok (s124_19 ho_H_205) (orG_ok (s124_20 ho_H_205) (orG_ok (s124_21 ho_H_205) (orG_ok (s124_22 ho_H_205) (orG_ok (s124_23 ho_H_205) (orG_ok (s124_24 ho_H_205) (orG_ok (s124_25 ho_H_205) (orG_ok (s124_26 ho_H_205) (orG_ok (s124_27 ho_H_205) (orG_ok (s124_28 ho_H_205) (orG_ok (s124_29 ho_H_205) (orG_ok (s124_30 ho_H_205) (orG_ok (s124_31 ho_H_205) (orG_ok (s124_32 ho_H_205) (orG_ok (s124_33 ho_H_205) (orG_ok (s124_34 ho_H_205) (orG_ok (s124_35 ho_H_205) (run_snd ho_H_205 4000 124))))))))))))))))))))))))))))))))))))) ho_H_205
theorem ho_H_125 : HO P0 H_125 := ho_add (orG_ok (s125_0 ho_H_124) (orG_ok (s125_1 ho_H_124) (orG_ok (s125_2 ho_H_124) (orG_ok (s125_3 ho_H_124) (orG_ok (s125_4 ho_H_124) (orG_ok (s125_5 ho_H_124) (orG_ok (s125_6 ho_H_124) (orG_ok (s125_7 ho_H_124) (orG_ok (s125_8 ho_H_124) (orG_ok (s125_9 ho_H_124) (orG_ok (s125_10 ho_H_124) (orG_ok (s125_11 ho_H_124) (orG_ok (s125_12 ho_H_124) (orG_ok (s125_13 ho_H_124) (orG_ok (s125_14 ho_H_124) (orG_ok (s125_15 ho_H_124) (orG_ok (s125_16 ho_H_124) (orG_ok (s125_17 ho_H_124) (orG_ok (s125_18 ho_H_124) (orG_ok (s125_19 ho_H_124) (orG_ok (s125_20 ho_H_124) (orG_ok (s125_21 ho_H_124) (orG_ok (s125_22 ho_H_124) (orG_ok (s125_23 ho_H_124) (orG_ok (s125_24 ho_H_124) (orG_ok (s125_25 ho_H_124) (orG_ok (s125_26 ho_H_124) (s125_27 ho_H_124)))))))))))))))))))))))))))) ho_H_124
theorem ho_H_97 : HO P0 H_97 := ho_add (orG_ok (s97_0 ho_H_125) (orG_ok (s97_1 ho_H_125) (orG_ok (s97_2 ho_H_125) (orG_ok (s97_3 ho_H_125) (orG_ok (s97_4 ho_H_125) (orG_ok (s97_5 ho_H_125) (orG_ok (s97_6 ho_H_125) (orG_ok (s97_7 ho_H_125) (orG_ok (s97_8 ho_H_125) (orG_ok (s97_9 ho_H_125) (orG_ok (s97_10 ho_H_125) (orG_ok (s97_11 ho_H_125) (orG_ok (s97_12 ho_H_125) (orG_ok (s97_13 ho_H_125) (orG_ok (s97_14 ho_H_125) (orG_ok (s97_15 ho_H_125) (orG_ok (s97_16 ho_H_125) (orG_ok (s97_17 ho_H_125) (orG_ok (s97_18 ho_H_125) (orG_ok (s97_19 ho_H_125) (orG_ok (s97_20 ho_H_125) (orG_ok (s97_21 ho_H_125) (orG_ok (s97_22 ho_H_125) (orG_ok (s97_23 ho_H_125) (orG_ok (s97_24 ho_H_125) (orG_ok (s97_25 ho_H_125) (s97_26 ho_H_125))))))))))))))))))))))))))) ho_H_125
theorem ho_H_99 : HO P0 H_99 := ho_add (orG_ok (s99_0 ho_H_97) (orG_ok (s99_1 ho_H_97) (s99_2 ho_H_97))) ho_H_97
theorem ho_H_12 : HO P0 H_12 := ho_add (orG_ok (s12_0 ho_H_99) (orG_ok (s12_1 ho_H_99) (orG_ok (s12_2 ho_H_99) (orG_ok (s12_3 ho_H_99) (orG_ok (s12_4 ho_H_99) (orG_ok (s12_5 ho_H_99) (orG_ok (s12_6 ho_H_99) (orG_ok (s12_7 ho_H_99) (orG_ok (s12_8 ho_H_99) (orG_ok (s12_9 ho_H_99) (s12_10 ho_H_99))))))))))) ho_H_99
theorem ho_H_23 : HO P0 H_23 := ho_add (s23_0 ho_H_12) ho_H_12
theorem ho_H_24 : HO P0 H_24 := ho_add (s24_0 ho_H_23) ho_H_23
end Go.Proofs.YteakajbedjdggaaGreatDoor
