/- How the code of a function is read. Printed by wip/tools/gen2.py and gen3.py (own work). -/
import Derived.Test.YtjoepfedeidgaaaGreatV3
import Derived.Test.YtjoepfedeidgaaaGreatV2
import Derived.Test.YtjoepfedeidgaaaGreatV5
import Derived.Test.YtjoepfedeidgaaaGreatV4
set_option linter.all false
set_option linter.unusedSectionVars false
namespace Go.Vab
open Go Go.Proofs
noncomputable section
def cx80 : Ctx := ⟨fun _ _ _ => none,TT,281,[21,22,23,24,25,26,27,28,29,30,31,32,33,34,35,36,37,38,39,40,41,42,43,44,45,46,47,48,49,52,54,56,58,60,62,64,66,68,70,72,74,75,76,77,78,79,80,81,82,83,84,85,86,87,88,89,90,91,92,93,95,96,97,98,99,100,101,102,103,104,105,106,107,109,110,111,112,113,114,115,116,117,118,119,120,121,122,123,124,125,126,127,128,129,130,131,133,134,135,136,137,138,139,140,141,142,143,144,145,147,149,150,151,152,153,154,155,156,157,158,159,160,161,163,165,166,167,168,169,170,171,172,173,174,175,176,177,178,179,180,181,182,183,184,185,186,187,188,189,190,191,192,193,194,195,196,197,198,200,201,202,203,204,205,207,208,209,210,211,212,213,214,215,216,217,218,220,221,222,223,224,225,226,227,228,230,231,232,233,234,235,236,237,238,240,241,242,243,245,246,247,248,249,250,251,252,253,254,255,256,257,258,259,260,261,262,263,264,265,266,267,268,269,270,271,272,273,274,275,276,277,278,279,280]⟩
def n80_0 := bodyOf Tryz.f80
def n80_1 := cR n80_0
def n80_2 := cR n80_1
def n80_3 := cR n80_2
def n80_4 := cL n80_3
def n80_5 := cR n80_4
def n80_6 := cB n80_5
def n80_7 := cL n80_6
def n80_8 := cB n80_7
def n80_9 := cL n80_8
def n80_10 := cB n80_9
def n80_11 := cL n80_10
def n80_12 := cB n80_11
def n80_13 := cL n80_12
def n80_14 := cB n80_13
def n80_15 := cL n80_14
def n80_16 := cB n80_15
def n80_17 := cL n80_16
def n80_18 := cB n80_17
def n80_19 := cL n80_18
def n80_20 := cB n80_19
def n80_21 := cL n80_20
def n80_22 := cB n80_21
def n80_23 := cL n80_22
def n80_24 := cB n80_23
def n80_25 := cL n80_24
def n80_26 := cB n80_25
def n80_27 := cL n80_26
def n80_28 := cB n80_27
def n80_29 := cL n80_28
def n80_30 := cB n80_29
def n80_31 := cL n80_30
def n80_32 := cL n80_31
def n80_33 := cR n80_32
def n80_34 := cL n80_33
def n80_35 := cR n80_33
def n80_36 := cR n80_31
def n80_37 := cL n80_36
def n80_38 := cR n80_37
def n80_39 := cL n80_38
def n80_40 := cR n80_38
def n80_41 := cR n80_36
def n80_42 := cL n80_41
def n80_43 := cR n80_42
def n80_44 := cL n80_43
def n80_45 := cR n80_43
def n80_46 := cR n80_41
def n80_47 := cL n80_46
def n80_48 := cR n80_47
def n80_49 := cL n80_48
def n80_50 := cR n80_48
def n80_51 := cR n80_46
def n80_52 := cL n80_51
def n80_53 := cR n80_52
def n80_54 := cL n80_53
def n80_55 := cR n80_53
def n80_56 := cR n80_51
def n80_57 := cL n80_56
def n80_58 := cR n80_57
def n80_59 := cL n80_58
def n80_60 := cR n80_58
def n80_61 := cR n80_56
def n80_62 := cL n80_61
def n80_63 := cR n80_62
def n80_64 := cL n80_63
def n80_65 := cR n80_63
def n80_66 := cR n80_61
def n80_67 := cL n80_66
def n80_68 := cR n80_67
def n80_69 := cL n80_68
def n80_70 := cR n80_68
def n80_71 := cR n80_66
def n80_72 := cL n80_71
def n80_73 := cR n80_72
def n80_74 := cL n80_73
def n80_75 := cR n80_73
def n80_76 := cR n80_71
def n80_77 := cL n80_76
def n80_78 := cR n80_77
def n80_79 := cL n80_78
def n80_80 := cR n80_78
def n80_81 := cR n80_76
def n80_82 := cL n80_81
def n80_83 := cR n80_82
def n80_84 := cL n80_83
def n80_85 := cR n80_83
def n80_86 := cR n80_81
def n80_87 := cR n80_86
def n80_88 := cL n80_87
def n80_89 := cR n80_87
def n80_90 := cR n80_30
def n80_91 := cR n80_28
def n80_92 := cL n80_91
def n80_93 := cL n80_92
def n80_94 := cR n80_93
def n80_95 := cL n80_94
def n80_96 := cR n80_95
def n80_97 := cR n80_94
def n80_98 := cR n80_92
def n80_99 := cR n80_91
def n80_100 := cR n80_26
def n80_101 := cL n80_100
def n80_102 := cR n80_101
def n80_103 := cL n80_102
def n80_104 := cR n80_103
def n80_105 := cL n80_104
def n80_106 := cR n80_105
def n80_107 := cR n80_104
def n80_108 := cR n80_102
def n80_109 := cL n80_108
def n80_110 := cR n80_109
def n80_111 := cL n80_110
def n80_112 := cR n80_111
def n80_113 := cR n80_110
def n80_114 := cR n80_108
def n80_115 := cR n80_100
def n80_116 := cR n80_24
def n80_117 := cL n80_116
def n80_118 := cR n80_117
def n80_119 := cL n80_118
def n80_120 := cR n80_119
def n80_121 := cL n80_120
def n80_122 := cR n80_121
def n80_123 := cR n80_120
def n80_124 := cR n80_118
def n80_125 := cL n80_124
def n80_126 := cR n80_125
def n80_127 := cL n80_126
def n80_128 := cR n80_127
def n80_129 := cR n80_126
def n80_130 := cR n80_124
def n80_131 := cR n80_130
def n80_132 := cR n80_116
def n80_133 := cR n80_22
def n80_134 := cL n80_133
def n80_135 := cR n80_134
def n80_136 := cL n80_135
def n80_137 := cR n80_136
def n80_138 := cL n80_137
def n80_139 := cR n80_138
def n80_140 := cR n80_137
def n80_141 := cR n80_135
def n80_142 := cL n80_141
def n80_143 := cR n80_142
def n80_144 := cL n80_143
def n80_145 := cR n80_144
def n80_146 := cR n80_143
def n80_147 := cR n80_141
def n80_148 := cR n80_147
def n80_149 := cR n80_133
def n80_150 := cR n80_20
def n80_151 := cL n80_150
def n80_152 := cR n80_151
def n80_153 := cR n80_150
def n80_154 := cR n80_18
def n80_155 := cR n80_16
def n80_156 := cL n80_155
def n80_157 := cR n80_156
def n80_158 := cR n80_155
def n80_159 := cR n80_14
def n80_160 := cL n80_159
def n80_161 := cR n80_160
def n80_162 := cR n80_159
def n80_163 := cR n80_12
def n80_164 := cL n80_163
def n80_165 := cL n80_164
def n80_166 := cB n80_165
def n80_167 := cR n80_166
def n80_168 := cL n80_167
def n80_169 := cR n80_168
def n80_170 := cR n80_167
def n80_171 := cR n80_170
def n80_172 := cL n80_171
def n80_173 := cR n80_172
def n80_174 := cR n80_171
def n80_175 := cR n80_164
def n80_176 := cR n80_175
def n80_177 := cL n80_176
def n80_178 := cR n80_177
def n80_179 := cR n80_178
def n80_180 := cL n80_179
def n80_181 := cR n80_179
def n80_182 := cR n80_181
def n80_183 := cR n80_182
def n80_184 := cL n80_183
def n80_185 := cR n80_183
def n80_186 := cR n80_185
def n80_187 := cR n80_186
def n80_188 := cL n80_187
def n80_189 := cR n80_187
def n80_190 := cR n80_189
def n80_191 := cR n80_176
def n80_192 := cL n80_191
def n80_193 := cR n80_192
def n80_194 := cL n80_193
def n80_195 := cR n80_194
def n80_196 := cR n80_193
def n80_197 := cR n80_191
def n80_198 := cR n80_163
def n80_199 := cR n80_10
def n80_200 := cR n80_199
def n80_201 := cR n80_8
def n80_202 := cR n80_201
def n80_203 := cR n80_6
def n80_204 := cR n80_203
def n80_205 := cR n80_3
def n80_206 := cR n80_205
def q80 := zQ1 cx80 80 Tryz.f80 n80_0 fun s => (bnd (some (s.env.get 2)) fun v => bnd (some []) fun vs => some (v :: vs))
set_option maxRecDepth 20000
set_option maxHeartbeats 4000000
def n80_2_eq := zAll cx80 [[n80_3, n80_2]]
def n80_0_eq := zAll cx80 [[n80_1, n80_0]]
def n80_98_w := zDr cx80 [n80_98] [5] [0,0,2,6,14,31] [0,1,2,3,4] (.o 5 [] [] .f)
def n80_109_w := zDr cx80 [n80_110,n80_109] [] [0,1,3,7,15,31,63,127,255,511,1023,2047,4095,63,16383,32767,65535,131071,63,262207,786495,1835071,4194303,8388607] [0,1,2,3,4,5,6,7,8,9,10,11,12,13,14,15,16,17,18,19,20,21,22,23] .f
def n80_117_w := zDr cx80 [n80_118,n80_117] [5,9,10] [0,0,2,6,14,31,63,127,127,0,767,2047] [0,1,2,3,4] (.b 5 [6,7,8] [] (.o 9 [] [0,4] (.o 10 [11] [] .f)) (.o 9 [] [0,4] (.o 5 [6,7,8] [] (.o 10 [11] [] .f))))
def n80_147_w := zDr cx80 [n80_148,n80_147] [8] [0,0,2,0,8,24,56,120,255,511] [0,1,2,3,4,5,6,7] (.o 8 [9] [] .f)
def n80_151_w := zDr cx80 [n80_152,n80_151] [5] [0,0,2,6,14,31,63,63,255,511] [0,1,2,3,4] (.o 5 [6,7,8,9] [] .f)
def n80_166_w := zDr cx80 [n80_167,n80_166] [] [0,0,2,6,14,31,63] [0,1,2,3,4,5,6] .f
def n80_199_w := zDr cx80 [n80_200,n80_199] [11] [0,1,3,7,0,16,48,112,240,511,1023,2047] [0,1,2,3,4,5,6,7,8,9,10] (.o 11 [] [] .f)
def n80_201_w := zDr cx80 [n80_202,n80_201] [11] [0,1,3,7,0,16,48,112,240,511,1023,2047] [0,1,2,3,4,5,6,7,8,9,10] (.o 11 [] [] .f)
def n80_203_w := zDr cx80 [n80_204,n80_203] [11] [0,1,3,7,0,16,48,112,240,511,1023,2047] [0,1,2,3,4,5,6,7,8,9,10] (.o 11 [] [] .f)
def n80_1_w := zDr cx80 [n80_2,n80_1] [20,21,22,23,24,25,26,27] [0,1,3,7,15,0,32,96,224,511,0,1024,3072,7168,16383,0,32768,98304,229376,524287,0,0,0,0,16777215,33554431,67108863,134217727] [0,1,2,3,4,5,6,7,8,9,10,11,12,13,14,15,16,17,18,19] (.b 20 [] [3,4,8,9,13,14,18,19] (.b 21 [] [3,4,8,9,13,14,18,19] (.b 22 [] [3,4,8,9,13,14,18,19] (.o 23 [] [3,4,8,9,13,14,18,19] (.o 24 [] [] (.o 25 [] [] (.o 26 [] [] (.o 27 [] [] .f))))) (.o 23 [] [3,4,8,9,13,14,18,19] (.o 22 [] [3,4,8,9,13,14,18,19] (.o 24 [] [] (.o 25 [] [] (.o 26 [] [] (.o 27 [] [] .f))))))) (.b 22 [] [3,4,8,9,13,14,18,19] (.b 21 [] [3,4,8,9,13,14,18,19] (.o 23 [] [3,4,8,9,13,14,18,19] (.o 24 [] [] (.o 25 [] [] (.o 26 [] [] (.o 27 [] [] .f))))) (.o 23 [] [3,4,8,9,13,14,18,19] (.o 21 [] [3,4,8,9,13,14,18,19] (.o 24 [] [] (.o 25 [] [] (.o 26 [] [] (.o 27 [] [] .f))))))) (.o 23 [] [3,4,8,9,13,14,18,19] (.b 21 [] [3,4,8,9,13,14,18,19] (.o 22 [] [3,4,8,9,13,14,18,19] (.o 24 [] [] (.o 25 [] [] (.o 26 [] [] (.o 27 [] [] .f))))) (.o 22 [] [3,4,8,9,13,14,18,19] (.o 21 [] [3,4,8,9,13,14,18,19] (.o 24 [] [] (.o 25 [] [] (.o 26 [] [] (.o 27 [] [] .f)))))))))) (.b 21 [] [3,4,8,9,13,14,18,19] (.b 20 [] [3,4,8,9,13,14,18,19] (.b 22 [] [3,4,8,9,13,14,18,19] (.o 23 [] [3,4,8,9,13,14,18,19] (.o 24 [] [] (.o 25 [] [] (.o 26 [] [] (.o 27 [] [] .f))))) (.o 23 [] [3,4,8,9,13,14,18,19] (.o 22 [] [3,4,8,9,13,14,18,19] (.o 24 [] [] (.o 25 [] [] (.o 26 [] [] (.o 27 [] [] .f))))))) (.b 22 [] [3,4,8,9,13,14,18,19] (.b 20 [] [3,4,8,9,13,14,18,19] (.o 23 [] [3,4,8,9,13,14,18,19] (.o 24 [] [] (.o 25 [] [] (.o 26 [] [] (.o 27 [] [] .f))))) (.o 23 [] [3,4,8,9,13,14,18,19] (.o 20 [] [3,4,8,9,13,14,18,19] (.o 24 [] [] (.o 25 [] [] (.o 26 [] [] (.o 27 [] [] .f))))))) (.o 23 [] [3,4,8,9,13,14,18,19] (.b 20 [] [3,4,8,9,13,14,18,19] (.o 22 [] [3,4,8,9,13,14,18,19] (.o 24 [] [] (.o 25 [] [] (.o 26 [] [] (.o 27 [] [] .f))))) (.o 22 [] [3,4,8,9,13,14,18,19] (.o 20 [] [3,4,8,9,13,14,18,19] (.o 24 [] [] (.o 25 [] [] (.o 26 [] [] (.o 27 [] [] .f)))))))))) (.b 22 [] [3,4,8,9,13,14,18,19] (.b 20 [] [3,4,8,9,13,14,18,19] (.b 21 [] [3,4,8,9,13,14,18,19] (.o 23 [] [3,4,8,9,13,14,18,19] (.o 24 [] [] (.o 25 [] [] (.o 26 [] [] (.o 27 [] [] .f))))) (.o 23 [] [3,4,8,9,13,14,18,19] (.o 21 [] [3,4,8,9,13,14,18,19] (.o 24 [] [] (.o 25 [] [] (.o 26 [] [] (.o 27 [] [] .f))))))) (.b 21 [] [3,4,8,9,13,14,18,19] (.b 20 [] [3,4,8,9,13,14,18,19] (.o 23 [] [3,4,8,9,13,14,18,19] (.o 24 [] [] (.o 25 [] [] (.o 26 [] [] (.o 27 [] [] .f))))) (.o 23 [] [3,4,8,9,13,14,18,19] (.o 20 [] [3,4,8,9,13,14,18,19] (.o 24 [] [] (.o 25 [] [] (.o 26 [] [] (.o 27 [] [] .f))))))) (.o 23 [] [3,4,8,9,13,14,18,19] (.b 20 [] [3,4,8,9,13,14,18,19] (.o 21 [] [3,4,8,9,13,14,18,19] (.o 24 [] [] (.o 25 [] [] (.o 26 [] [] (.o 27 [] [] .f))))) (.o 21 [] [3,4,8,9,13,14,18,19] (.o 20 [] [3,4,8,9,13,14,18,19] (.o 24 [] [] (.o 25 [] [] (.o 26 [] [] (.o 27 [] [] .f)))))))))) (.o 23 [] [3,4,8,9,13,14,18,19] (.b 20 [] [3,4,8,9,13,14,18,19] (.b 21 [] [3,4,8,9,13,14,18,19] (.o 22 [] [3,4,8,9,13,14,18,19] (.o 24 [] [] (.o 25 [] [] (.o 26 [] [] (.o 27 [] [] .f))))) (.o 22 [] [3,4,8,9,13,14,18,19] (.o 21 [] [3,4,8,9,13,14,18,19] (.o 24 [] [] (.o 25 [] [] (.o 26 [] [] (.o 27 [] [] .f))))))) (.b 21 [] [3,4,8,9,13,14,18,19] (.b 20 [] [3,4,8,9,13,14,18,19] (.o 22 [] [3,4,8,9,13,14,18,19] (.o 24 [] [] (.o 25 [] [] (.o 26 [] [] (.o 27 [] [] .f))))) (.o 22 [] [3,4,8,9,13,14,18,19] (.o 20 [] [3,4,8,9,13,14,18,19] (.o 24 [] [] (.o 25 [] [] (.o 26 [] [] (.o 27 [] [] .f))))))) (.o 22 [] [3,4,8,9,13,14,18,19] (.b 20 [] [3,4,8,9,13,14,18,19] (.o 21 [] [3,4,8,9,13,14,18,19] (.o 24 [] [] (.o 25 [] [] (.o 26 [] [] (.o 27 [] [] .f))))) (.o 21 [] [3,4,8,9,13,14,18,19] (.o 20 [] [3,4,8,9,13,14,18,19] (.o 24 [] [] (.o 25 [] [] (.o 26 [] [] (.o 27 [] [] .f))))))))))))))
def sn80 := zAll cx80 [[n80_34],[n80_35],[n80_34,n80_35,n80_33],[n80_33,n80_32],[n80_39],[n80_40],[n80_39,n80_40,n80_38],[n80_38,n80_37],[n80_44],[n80_45],[n80_44,n80_45,n80_43],[n80_43,n80_42],[n80_49],[n80_50],[n80_49,n80_50,n80_48],[n80_48,n80_47],[n80_54],[n80_55],[n80_54,n80_55,n80_53],[n80_53,n80_52],[n80_59],[n80_60],[n80_59,n80_60,n80_58],[n80_58,n80_57],[n80_64],[n80_65],[n80_64,n80_65,n80_63],[n80_63,n80_62],[n80_69],[n80_70],[n80_69,n80_70,n80_68],[n80_68,n80_67],[n80_74],[n80_75],[n80_74,n80_75,n80_73],[n80_73,n80_72],[n80_79],[n80_80],[n80_79,n80_80,n80_78],[n80_78,n80_77],[n80_84],[n80_85],[n80_84,n80_85,n80_83],[n80_83,n80_82],[n80_88],[n80_89],[n80_88,n80_89,n80_87],[n80_87,n80_86],[n80_82,n80_86,n80_81],[n80_77,n80_81,n80_76],[n80_72,n80_76,n80_71],[n80_67,n80_71,n80_66],[n80_62,n80_66,n80_61],[n80_57,n80_61,n80_56],[n80_52,n80_56,n80_51],[n80_47,n80_51,n80_46],[n80_42,n80_46,n80_41],[n80_37,n80_41,n80_36],[n80_32,n80_36,n80_31],[n80_90],[n80_31,n80_90,n80_30],[n80_30,n80_29],[n80_96],[n80_96,n80_95],[n80_97],[n80_95,n80_97,n80_94],[n80_94,n80_93],[n80_93,n80_98,n80_92],[n80_99],[n80_92,n80_99,n80_91],[n80_29,n80_91,n80_28],[n80_28,n80_27],[n80_106],[n80_106,n80_105],[n80_107],[n80_105,n80_107,n80_104],[n80_104,n80_103],[n80_112],[n80_112,n80_111],[n80_113],[n80_111,n80_113,n80_110],[n80_114],[n80_109,n80_114,n80_108],[n80_103,n80_108,n80_102],[n80_102,n80_101],[n80_115],[n80_101,n80_115,n80_100],[n80_27,n80_100,n80_26],[n80_26,n80_25],[n80_122],[n80_122,n80_121],[n80_123],[n80_121,n80_123,n80_120],[n80_120,n80_119],[n80_128],[n80_128,n80_127],[n80_129],[n80_127,n80_129,n80_126],[n80_126,n80_125],[n80_131],[n80_131,n80_130],[n80_125,n80_130,n80_124],[n80_119,n80_124,n80_118],[n80_132],[n80_117,n80_132,n80_116],[n80_25,n80_116,n80_24],[n80_24,n80_23],[n80_139],[n80_139,n80_138],[n80_140],[n80_138,n80_140,n80_137],[n80_137,n80_136],[n80_145],[n80_145,n80_144],[n80_146],[n80_144,n80_146,n80_143],[n80_143,n80_142],[n80_148],[n80_142,n80_147,n80_141],[n80_136,n80_141,n80_135],[n80_135,n80_134],[n80_149],[n80_134,n80_149,n80_133],[n80_23,n80_133,n80_22],[n80_22,n80_21],[n80_152],[n80_153],[n80_151,n80_153,n80_150],[n80_21,n80_150,n80_20],[n80_20,n80_19],[n80_154],[n80_19,n80_154,n80_18],[n80_18,n80_17],[n80_157],[n80_157,n80_156],[n80_158],[n80_156,n80_158,n80_155],[n80_17,n80_155,n80_16],[n80_16,n80_15],[n80_161],[n80_161,n80_160],[n80_162],[n80_160,n80_162,n80_159],[n80_15,n80_159,n80_14],[n80_14,n80_13],[n80_169],[n80_169,n80_168],[n80_173],[n80_173,n80_172],[n80_174],[n80_172,n80_174,n80_171],[n80_171,n80_170],[n80_168,n80_170,n80_167],[n80_166,n80_165],[n80_180],[n80_184],[n80_188],[n80_190],[n80_190,n80_189],[n80_188,n80_189,n80_187],[n80_187,n80_186],[n80_186,n80_185],[n80_184,n80_185,n80_183],[n80_183,n80_182],[n80_182,n80_181],[n80_180,n80_181,n80_179],[n80_179,n80_178],[n80_178,n80_177],[n80_195],[n80_195,n80_194],[n80_196],[n80_194,n80_196,n80_193],[n80_193,n80_192],[n80_197],[n80_192,n80_197,n80_191],[n80_177,n80_191,n80_176],[n80_176,n80_175],[n80_165,n80_175,n80_164],[n80_198],[n80_164,n80_198,n80_163],[n80_13,n80_163,n80_12],[n80_12,n80_11],[n80_200],[n80_11,n80_199,n80_10],[n80_10,n80_9],[n80_202],[n80_9,n80_201,n80_8],[n80_8,n80_7],[n80_204],[n80_7,n80_203,n80_6],[n80_6,n80_5],[n80_5,n80_4],[n80_206],[n80_206,n80_205],[n80_4,n80_205,n80_3],[n80_3,n80_2],[n80_1,n80_0]]
end
end Go.Vab

/-
  A step is done, for oneself, or to what waits: the first statements, whose order is open; walked.
-/
namespace Go.Vab
open Go Go.Proofs
theorem runRp13_0 {G X : Prop} (f : Hd X → G := by
 intro xX
 repeat' (first | refine stp (x := ?_) | (with_reducible refine bothP_i ?_ ?_) | (simp (decide := true) only [n80_2_eq, snB, if_true, if_false]))
 exact xX.get) (x : X) : G := f ⟨x⟩
section
variable {κ : Nat → Nat} {H : Heap} {c xb : Nat} {s : Stt} {b : Pt} {a : Actn} {m : BitVec 8} {vt vp vs vi va vb wt wp : AV}
set_option maxHeartbeats 8000000 in
theorem more_start1 (x : Sx κ H c xb s b a m vt vp vs vi va vb wt wp) {Q : Ex × St → Prop} {env : Env} (g0 : env.get 0 = .ptr xb 0 [] tLstep)
  (tail : ∀ (env' : Env) (l : Heap) (p3 p4 p5 p6 : Nat), env'.get 0 = .ptr xb 0 [] tLstep → env'.get 3 = .ptr p3 0 [] tRollSeat → env'.get 4 = .ptr p4 0 [] tRollInvite → env'.get 5 = .ptr p5 0 [] tRollAsk → env'.get 6 = .ptr p6 0 [] tRollBan → Cel κ (H ++ l) p3 (rollS c) → Cel κ (H ++ l) p4 (rollI c) → Cel κ (H ++ l) p5 (rollA c) → Cel κ (H ++ l) p6 (rollB c) → wC Tryz.prog cx80 n80_2 Q ⟨env', H ++ l⟩) :
  wC Tryz.prog cx80 n80_0 Q ⟨env, H⟩ := by
 have sx := x.blk
 have wb := x.w.blk
 have sx0 := blk_of x.st
 have wb0 := blk_of x.w.cell
 have top := x.w.top
 repeat' (first | ((with_reducible refine evs_of (a := ?_) ?_ ?_); rotate_left; (focus ((conv => lhs; simp (disch := omega) [g0, sx, wb, sx0, wb0]); done)); try dsimp only) | ((with_reducible refine gW_do ?_ ?_); (focus (simp (disch := omega) [g0, sx, wb, sx0, wb0]; done))) | ((with_reducible refine gW_no ?_ ?_); (focus (simp (disch := omega) [g0, sx, wb, sx0, wb0]; done)); try dsimp only) | ((with_reducible refine gW_un ?_ ?_); (focus (simp (disch := omega) [g0, sx, wb, sx0, wb0]; done)); try dsimp only) | ((with_reducible refine cndW_T ?_ ?_); (focus (simp (disch := omega) [g0, sx, wb, sx0, wb0] <;> omega))) | ((with_reducible refine cndW_F ?_ ?_); (focus (simp (disch := omega) [g0, sx, wb, sx0, wb0] <;> omega))) | ((with_reducible refine stabP_i ?_ ?_); (focus (simp (disch := omega) [g0, sx, wb, sx0, wb0]; done))) | (with_reducible refine bothP_i ?_ ?_) | (with_reducible refine wL_i ?_) | ((with_reducible refine ValW_do ?_ ?_); (focus (simp (disch := omega) [g0, sx, wb, sx0, wb0]; done)); try dsimp only) | ((with_reducible refine ValW_no ?_ ?_); (focus (simp (disch := omega) [g0, sx, wb, sx0, wb0]; done)); try dsimp only) | ((with_reducible refine ValW_un ?_ ?_); (focus (simp (disch := omega) [g0, sx, wb, sx0, wb0]; done)); try dsimp only) | (with_reducible refine ValW_i (c63 x.w.lt) ?_; try dsimp only) | (with_reducible refine SpecQ.step (c63 x.w.lt) ?_; rintro _ rfl; try dsimp only) | (with_reducible refine stabP_i (c63 x.w.lt) ?_) | (with_reducible refine ValW_i (c64 x.w.lt) ?_; try dsimp only) | (with_reducible refine SpecQ.step (c64 x.w.lt) ?_; rintro _ rfl; try dsimp only) | (with_reducible refine stabP_i (c64 x.w.lt) ?_) | (with_reducible refine ValW_i (c65 x.w.lt) ?_; try dsimp only) | (with_reducible refine SpecQ.step (c65 x.w.lt) ?_; rintro _ rfl; try dsimp only) | (with_reducible refine stabP_i (c65 x.w.lt) ?_) | (with_reducible refine ValW_i (c94 x.w.lt) ?_; try dsimp only) | (with_reducible refine SpecQ.step (c94 x.w.lt) ?_; rintro _ rfl; try dsimp only) | (with_reducible refine stabP_i (c94 x.w.lt) ?_) | (with_reducible refine ValW_i (c63 (x.lt _)) ?_; try dsimp only) | (with_reducible refine SpecQ.step (c63 (x.lt _)) ?_; rintro _ rfl; try dsimp only) | (with_reducible refine stabP_i (c63 (x.lt _)) ?_) | (with_reducible refine ValW_i (c64 (x.lt _)) ?_; try dsimp only) | (with_reducible refine SpecQ.step (c64 (x.lt _)) ?_; rintro _ rfl; try dsimp only) | (with_reducible refine stabP_i (c64 (x.lt _)) ?_) | (with_reducible refine ValW_i (c65 (x.lt _)) ?_; try dsimp only) | (with_reducible refine SpecQ.step (c65 (x.lt _)) ?_; rintro _ rfl; try dsimp only) | (with_reducible refine stabP_i (c65 (x.lt _)) ?_) | (with_reducible refine ValW_i (c94 (x.lt _)) ?_; try dsimp only) | (with_reducible refine SpecQ.step (c94 (x.lt _)) ?_; rintro _ rfl; try dsimp only) | (with_reducible refine stabP_i (c94 (x.lt _)) ?_) | ((with_reducible refine SpecA_i (args' := ?_) ?_ ?_); rotate_left; (focus ((conv => lhs; simp (disch := omega) [g0, sx, wb, sx0, wb0]); done))) | ((with_reducible refine ValA_i (args' := ?_) ?_ ?_); rotate_left; (focus ((conv => lhs; simp (disch := omega) [g0, sx, wb, sx0, wb0]); done))) | ((with_reducible refine stabA_i (args' := ?_) ?_ ?_); rotate_left; (focus ((conv => lhs; simp (disch := omega) [g0, sx, wb, sx0, wb0]); done))) | ((with_reducible refine ValA_fn (g := ?_) (caps := ?_) ?_ ?_); rotate_left; rotate_left; (focus ((conv => lhs; simp (disch := omega) [g0, sx, wb, sx0, wb0]); done))) | ((with_reducible refine stabA_fn (g := ?_) (caps := ?_) ?_ ?_); rotate_left; rotate_left; (focus ((conv => lhs; simp (disch := omega) [g0, sx, wb, sx0, wb0]); done))) | ((with_reducible refine stab_do ?_ ?_); (focus (simp (disch := omega) [g0, sx, wb, sx0, wb0]; done))) | (simp (decide := true) only [n80_0_eq, sqW_nrm, sqW_exit, sqW_ret, inBlk_nrm, inBlk_ret, inBlk_same, inBlk_exit, if_true, if_false, retW_nrm, retW_ret]) | (with_reducible refine n80_1_w _ _ _ ?_) | ((with_reducible refine cndW_splitE (b := ?_) ?_ ?_ ?_); rotate_left; (focus ((conv => lhs; simp (disch := omega) [g0, sx, wb, sx0, wb0]); done)); all_goals ((intro hb; try simp only [Bool.not_true, Bool.not_false] at hb); try simp only [hb])) | ((with_reducible refine gv_splitE (b := ?_) ?_ ?_ ?_); rotate_left; (focus ((conv => lhs; simp (disch := omega) [g0, sx, wb, sx0, wb0]); done)); all_goals ((intro hb; try simp only [Bool.not_true, Bool.not_false] at hb); try simp only [hb])) | ((with_reducible refine gW_splitE (b := ?_) ?_ ?_ ?_); rotate_left; (focus ((conv => lhs; simp (disch := omega) [g0, sx, wb, sx0, wb0]); done)); all_goals ((intro hb; try simp only [Bool.not_true, Bool.not_false] at hb); try simp only [hb])) | (with_reducible refine gv_split ?_ ?_ <;> (intro hb; try simp only [Bool.not_true, Bool.not_false] at hb) <;> try simp only [hb]) | (with_reducible refine gW_split ?_ ?_ <;> (intro hb; try simp only [Bool.not_true, Bool.not_false] at hb) <;> try simp only [hb]) | (with_reducible refine cndW_split ?_ ?_ <;> (intro hb; try simp only [Bool.not_true, Bool.not_false] at hb) <;> try simp only [hb]) | (with_reducible refine ValW_split ?_ ?_ <;> (intro hb; try simp only [Bool.not_true, Bool.not_false] at hb) <;> try simp only [hb]))
 all_goals first
  | exact tail _ _ H.length (H.length + 1) (H.length + 2) (H.length + 3) (by simp [g0]) (by simp) (by simp) (by simp) (by simp) (Cel.new0 top (by rfl)) (Cel.new (k := 1) top (by rfl)) (Cel.new (k := 2) top (by rfl)) (Cel.new (k := 3) top (by rfl))
  | exact tail _ _ H.length (H.length + 1) (H.length + 3) (H.length + 2) (by simp [g0]) (by simp) (by simp) (by simp) (by simp) (Cel.new0 top (by rfl)) (Cel.new (k := 1) top (by rfl)) (Cel.new (k := 3) top (by rfl)) (Cel.new (k := 2) top (by rfl))
  | exact tail _ _ H.length (H.length + 2) (H.length + 1) (H.length + 3) (by simp [g0]) (by simp) (by simp) (by simp) (by simp) (Cel.new0 top (by rfl)) (Cel.new (k := 2) top (by rfl)) (Cel.new (k := 1) top (by rfl)) (Cel.new (k := 3) top (by rfl))
  | exact tail _ _ H.length (H.length + 2) (H.length + 3) (H.length + 1) (by simp [g0]) (by simp) (by simp) (by simp) (by simp) (Cel.new0 top (by rfl)) (Cel.new (k := 2) top (by rfl)) (Cel.new (k := 3) top (by rfl)) (Cel.new (k := 1) top (by rfl))
  | exact tail _ _ H.length (H.length + 3) (H.length + 1) (H.length + 2) (by simp [g0]) (by simp) (by simp) (by simp) (by simp) (Cel.new0 top (by rfl)) (Cel.new (k := 3) top (by rfl)) (Cel.new (k := 1) top (by rfl)) (Cel.new (k := 2) top (by rfl))
  | exact tail _ _ H.length (H.length + 3) (H.length + 2) (H.length + 1) (by simp [g0]) (by simp) (by simp) (by simp) (by simp) (Cel.new0 top (by rfl)) (Cel.new (k := 3) top (by rfl)) (Cel.new (k := 2) top (by rfl)) (Cel.new (k := 1) top (by rfl))
  | exact tail _ _ (H.length + 1) H.length (H.length + 2) (H.length + 3) (by simp [g0]) (by simp) (by simp) (by simp) (by simp) (Cel.new (k := 1) top (by rfl)) (Cel.new0 top (by rfl)) (Cel.new (k := 2) top (by rfl)) (Cel.new (k := 3) top (by rfl))
  | exact tail _ _ (H.length + 1) H.length (H.length + 3) (H.length + 2) (by simp [g0]) (by simp) (by simp) (by simp) (by simp) (Cel.new (k := 1) top (by rfl)) (Cel.new0 top (by rfl)) (Cel.new (k := 3) top (by rfl)) (Cel.new (k := 2) top (by rfl))
  | exact tail _ _ (H.length + 1) (H.length + 2) H.length (H.length + 3) (by simp [g0]) (by simp) (by simp) (by simp) (by simp) (Cel.new (k := 1) top (by rfl)) (Cel.new (k := 2) top (by rfl)) (Cel.new0 top (by rfl)) (Cel.new (k := 3) top (by rfl))
  | exact tail _ _ (H.length + 1) (H.length + 2) (H.length + 3) H.length (by simp [g0]) (by simp) (by simp) (by simp) (by simp) (Cel.new (k := 1) top (by rfl)) (Cel.new (k := 2) top (by rfl)) (Cel.new (k := 3) top (by rfl)) (Cel.new0 top (by rfl))
  | exact tail _ _ (H.length + 1) (H.length + 3) H.length (H.length + 2) (by simp [g0]) (by simp) (by simp) (by simp) (by simp) (Cel.new (k := 1) top (by rfl)) (Cel.new (k := 3) top (by rfl)) (Cel.new0 top (by rfl)) (Cel.new (k := 2) top (by rfl))
  | exact tail _ _ (H.length + 1) (H.length + 3) (H.length + 2) H.length (by simp [g0]) (by simp) (by simp) (by simp) (by simp) (Cel.new (k := 1) top (by rfl)) (Cel.new (k := 3) top (by rfl)) (Cel.new (k := 2) top (by rfl)) (Cel.new0 top (by rfl))
  | exact tail _ _ (H.length + 2) H.length (H.length + 1) (H.length + 3) (by simp [g0]) (by simp) (by simp) (by simp) (by simp) (Cel.new (k := 2) top (by rfl)) (Cel.new0 top (by rfl)) (Cel.new (k := 1) top (by rfl)) (Cel.new (k := 3) top (by rfl))
  | exact tail _ _ (H.length + 2) H.length (H.length + 3) (H.length + 1) (by simp [g0]) (by simp) (by simp) (by simp) (by simp) (Cel.new (k := 2) top (by rfl)) (Cel.new0 top (by rfl)) (Cel.new (k := 3) top (by rfl)) (Cel.new (k := 1) top (by rfl))
  | exact tail _ _ (H.length + 2) (H.length + 1) H.length (H.length + 3) (by simp [g0]) (by simp) (by simp) (by simp) (by simp) (Cel.new (k := 2) top (by rfl)) (Cel.new (k := 1) top (by rfl)) (Cel.new0 top (by rfl)) (Cel.new (k := 3) top (by rfl))
  | exact tail _ _ (H.length + 2) (H.length + 1) (H.length + 3) H.length (by simp [g0]) (by simp) (by simp) (by simp) (by simp) (Cel.new (k := 2) top (by rfl)) (Cel.new (k := 1) top (by rfl)) (Cel.new (k := 3) top (by rfl)) (Cel.new0 top (by rfl))
  | exact tail _ _ (H.length + 2) (H.length + 3) H.length (H.length + 1) (by simp [g0]) (by simp) (by simp) (by simp) (by simp) (Cel.new (k := 2) top (by rfl)) (Cel.new (k := 3) top (by rfl)) (Cel.new0 top (by rfl)) (Cel.new (k := 1) top (by rfl))
  | exact tail _ _ (H.length + 2) (H.length + 3) (H.length + 1) H.length (by simp [g0]) (by simp) (by simp) (by simp) (by simp) (Cel.new (k := 2) top (by rfl)) (Cel.new (k := 3) top (by rfl)) (Cel.new (k := 1) top (by rfl)) (Cel.new0 top (by rfl))
  | exact tail _ _ (H.length + 3) H.length (H.length + 1) (H.length + 2) (by simp [g0]) (by simp) (by simp) (by simp) (by simp) (Cel.new (k := 3) top (by rfl)) (Cel.new0 top (by rfl)) (Cel.new (k := 1) top (by rfl)) (Cel.new (k := 2) top (by rfl))
  | exact tail _ _ (H.length + 3) H.length (H.length + 2) (H.length + 1) (by simp [g0]) (by simp) (by simp) (by simp) (by simp) (Cel.new (k := 3) top (by rfl)) (Cel.new0 top (by rfl)) (Cel.new (k := 2) top (by rfl)) (Cel.new (k := 1) top (by rfl))
  | exact tail _ _ (H.length + 3) (H.length + 1) H.length (H.length + 2) (by simp [g0]) (by simp) (by simp) (by simp) (by simp) (Cel.new (k := 3) top (by rfl)) (Cel.new (k := 1) top (by rfl)) (Cel.new0 top (by rfl)) (Cel.new (k := 2) top (by rfl))
  | exact tail _ _ (H.length + 3) (H.length + 1) (H.length + 2) H.length (by simp [g0]) (by simp) (by simp) (by simp) (by simp) (Cel.new (k := 3) top (by rfl)) (Cel.new (k := 1) top (by rfl)) (Cel.new (k := 2) top (by rfl)) (Cel.new0 top (by rfl))
  | exact tail _ _ (H.length + 3) (H.length + 2) H.length (H.length + 1) (by simp [g0]) (by simp) (by simp) (by simp) (by simp) (Cel.new (k := 3) top (by rfl)) (Cel.new (k := 2) top (by rfl)) (Cel.new0 top (by rfl)) (Cel.new (k := 1) top (by rfl))
  | exact tail _ _ (H.length + 3) (H.length + 2) (H.length + 1) H.length (by simp [g0]) (by simp) (by simp) (by simp) (by simp) (Cel.new (k := 3) top (by rfl)) (Cel.new (k := 2) top (by rfl)) (Cel.new (k := 1) top (by rfl)) (Cel.new0 top (by rfl))
structure Mx (κ : Nat → Nat) (G : Heap) (c xb : Nat) (s : Stt) (b : Pt) (a : Actn) (m : BitVec 8) (vt vp vs vi va vb wt wp : AV) (pe : Pt) (env : Env) (p3 p4 p5 p6 p7 : Nat) : Prop where
 x : Sx κ G c xb s b a m vt vp vs vi va vb wt wp
 c3 : Cel κ G p3 (rollS c)
 c4 : Cel κ G p4 (rollI c)
 c5 : Cel κ G p5 (rollA c)
 c6 : Cel κ G p6 (rollB c)
 c7 : Cel κ G p7 (pt pe)
 e0 : env.get 0 = .ptr xb 0 [] tLstep
 e3 : env.get 3 = .ptr p3 0 [] tRollSeat
 e4 : env.get 4 = .ptr p4 0 [] tRollInvite
 e5 : env.get 5 = .ptr p5 0 [] tRollAsk
 e6 : env.get 6 = .ptr p6 0 [] tRollBan
 e7 : env.get 7 = .ptr p7 0 [] (.arr 32 (.int .u8))
theorem Mx.next {G : Heap} {pe : Pt} {env : Env} {p3 p4 p5 p6 p7 : Nat} {κ' : Nat → Nat} {G' : Heap} {s' : Stt} {ut up us ui ua ub : AV} (d : Mx κ G c xb s b a m vt vp vs vi va vb wt wp pe env p3 p4 p5 p6 p7) (fr : Fr κ G κ' G') (w' : Wk κ' G' c s' ut up us ui ua ub) : Mx κ' G' c xb s' b a m ut up us ui ua ub wt wp pe env p3 p4 p5 p6 p7 :=
 ⟨d.x.next fr w', d.c3.next fr, d.c4.next fr, d.c5.next fr, d.c6.next fr, d.c7.next fr, d.e0, d.e3, d.e4, d.e5, d.e6, d.e7⟩
theorem more_start (x : Sx κ H c xb s b a m vt vp vs vi va vb wt wp) {Q : Ex × St → Prop} {env : Env} (g0 : env.get 0 = .ptr xb 0 [] tLstep)
  (tail : ∀ (κ' : Nat → Nat) (env' : Env) (G : Heap) (p3 p4 p5 p6 p7 : Nat), Mx κ' G c xb s b a m vt vp vs vi va vb wt wp a.e env' p3 p4 p5 p6 p7 → Fr κ H κ' G → κ' p7 = 6 → H.length ≤ p7 → p5 ≠ p7 → wC Tryz.prog cx80 n80_3 Q ⟨env', G⟩) : wC Tryz.prog cx80 n80_0 Q ⟨env, H⟩ := by
 refine more_start1 x g0 fun env' l p3 p4 p5 p6 e0 e3 e4 e5 e6 c3 c4 c5 c6 => ?_
 have x1 := x.app l
 have sx0 := blk_of x1.st
 have hl : (H ++ l).length = H.length + l.length := List.length_append
 obtain ⟨G, hG⟩ : ∃ G, G = H ++ l := ⟨_, rfl⟩
 have f0 : Fr κ H κ G := by rw [hG]; exact (Fr.refl _ _).app
 rw [← hG] at x1 c3 c4 c5 c6 sx0 hl ⊢
 have ff := aI e0 sx0
 refine runRp13_0 (x := ?_)
 clear ff
 refine tail (scr κ G.length) _ _ p3 p4 p5 p6 G.length ⟨x1.scr _, c3.scr _, c4.scr _, c5.scr _, c6.scr _, Cel.own _ _ _, by simp [e0], by simp [e3], by simp [e4], by simp [e5], by simp [e6], by simp⟩ ?_ (scr_self _ _) (by omega) (by have := c5.lt; omega)
 have := Fr.scr (κ := κ) (H := G) (l := [⟨pt a.e, 0, .own⟩]) (n := G.length) (Fr.refl _ _) (Nat.le_refl _)
 exact f0.trans this
end
end Go.Vab

/-
  A step is done, for oneself, or to what waits: leave, uninvite, decline, unask, refuse, unban, title, access, password, approve; walked.
-/
namespace Go.Vab
open Go Go.Proofs
theorem runRp14_0 {G X : Prop} (f : Hd X → G := by
 intro xX
 repeat' (first | refine stp (x := ?_) | (with_reducible refine bothP_i ?_ ?_) | (with_reducible refine ValW_i (c79 x) ?_; try dsimp only) | (with_reducible refine SpecQ.step (c79 x) ?_; rintro _ rfl; try dsimp only) | (with_reducible refine stabP_i (c79 x) ?_) | (simp (decide := true) only [sn80, snB, if_true, if_false]) | (with_reducible refine n80_98_w _ _ _ ?_) | (with_reducible refine n80_109_w _ _ _ ?_) | (with_reducible refine n80_117_w _ _ _ ?_) | (with_reducible refine n80_147_w _ _ _ ?_) | (with_reducible refine n80_151_w _ _ _ ?_) | (with_reducible refine n80_166_w _ _ _ ?_) | (with_reducible refine n80_199_w _ _ _ ?_) | (with_reducible refine n80_201_w _ _ _ ?_) | (with_reducible refine n80_203_w _ _ _ ?_) | (with_reducible refine n80_1_w _ _ _ ?_))
 exact xX.get) (x : X) : G := f ⟨x⟩
theorem runRp14_1 {G X : Prop} (f : Hd X → G := by
 intro xX
 repeat' (first | refine stp (x := ?_) | (with_reducible refine bothP_i ?_ ?_) | (simp (decide := true) only [sn80, snB, if_true, if_false]) | (with_reducible refine n80_98_w _ _ _ ?_) | (with_reducible refine n80_109_w _ _ _ ?_) | (with_reducible refine n80_117_w _ _ _ ?_) | (with_reducible refine n80_147_w _ _ _ ?_) | (with_reducible refine n80_151_w _ _ _ ?_) | (with_reducible refine n80_166_w _ _ _ ?_) | (with_reducible refine n80_199_w _ _ _ ?_) | (with_reducible refine n80_201_w _ _ _ ?_) | (with_reducible refine n80_203_w _ _ _ ?_) | (with_reducible refine n80_1_w _ _ _ ?_))
 exact xX.get) (x : X) : G := f ⟨x⟩
theorem runRp14_2 {G X : Prop} (f : Hd X → G := by
 intro xX
 repeat' (first | refine stp (x := ?_) | (with_reducible refine bothP_i ?_ ?_) | (with_reducible refine ValW_i (c99 x.w hs) ?_; try dsimp only) | (with_reducible refine SpecQ.step (c99 x.w hs) ?_; rintro _ rfl; try dsimp only) | (with_reducible refine stabP_i (c99 x.w hs) ?_) | (simp (decide := true) only [sn80, snB, if_true, if_false]) | (with_reducible refine n80_98_w _ _ _ ?_) | (with_reducible refine n80_109_w _ _ _ ?_) | (with_reducible refine n80_117_w _ _ _ ?_) | (with_reducible refine n80_147_w _ _ _ ?_) | (with_reducible refine n80_151_w _ _ _ ?_) | (with_reducible refine n80_166_w _ _ _ ?_) | (with_reducible refine n80_199_w _ _ _ ?_) | (with_reducible refine n80_201_w _ _ _ ?_) | (with_reducible refine n80_203_w _ _ _ ?_) | (with_reducible refine n80_1_w _ _ _ ?_))
 exact xX.get) (x : X) : G := f ⟨x⟩
theorem runRp14_3 {G X : Prop} (f : Hd X → G := by
 intro xX
 repeat' (first | refine stp (x := ?_) | (with_reducible refine bothP_i ?_ ?_) | (with_reducible refine ValW_i (c109) ?_; try dsimp only) | (with_reducible refine SpecQ.step (c109) ?_; rintro _ rfl; try dsimp only) | (with_reducible refine stabP_i (c109) ?_) | (simp (decide := true) only [sn80, snB, if_true, if_false]) | (with_reducible refine n80_98_w _ _ _ ?_) | (with_reducible refine n80_109_w _ _ _ ?_) | (with_reducible refine n80_117_w _ _ _ ?_) | (with_reducible refine n80_147_w _ _ _ ?_) | (with_reducible refine n80_151_w _ _ _ ?_) | (with_reducible refine n80_166_w _ _ _ ?_) | (with_reducible refine n80_199_w _ _ _ ?_) | (with_reducible refine n80_201_w _ _ _ ?_) | (with_reducible refine n80_203_w _ _ _ ?_) | (with_reducible refine n80_1_w _ _ _ ?_))
 exact xX.get) (x : X) : G := f ⟨x⟩
theorem runRp14_4 {G X : Prop} (f : Hd X → G := by
 intro xX
 repeat' (first | refine stp (x := ?_) | (with_reducible refine bothP_i ?_ ?_) | (with_reducible refine ValW_i (c110) ?_; try dsimp only) | (with_reducible refine SpecQ.step (c110) ?_; rintro _ rfl; try dsimp only) | (with_reducible refine stabP_i (c110) ?_) | (simp (decide := true) only [sn80, snB, if_true, if_false]) | (with_reducible refine n80_98_w _ _ _ ?_) | (with_reducible refine n80_109_w _ _ _ ?_) | (with_reducible refine n80_117_w _ _ _ ?_) | (with_reducible refine n80_147_w _ _ _ ?_) | (with_reducible refine n80_151_w _ _ _ ?_) | (with_reducible refine n80_166_w _ _ _ ?_) | (with_reducible refine n80_199_w _ _ _ ?_) | (with_reducible refine n80_201_w _ _ _ ?_) | (with_reducible refine n80_203_w _ _ _ ?_) | (with_reducible refine n80_1_w _ _ _ ?_))
 exact xX.get) (x : X) : G := f ⟨x⟩
theorem runRp14_5 {G X : Prop} (f : Hd X → G := by
 intro xX
 repeat' (first | refine stp (x := ?_) | (with_reducible refine bothP_i ?_ ?_) | (with_reducible refine ValW_i (c111) ?_; try dsimp only) | (with_reducible refine SpecQ.step (c111) ?_; rintro _ rfl; try dsimp only) | (with_reducible refine stabP_i (c111) ?_) | (simp (decide := true) only [sn80, snB, if_true, if_false]) | (with_reducible refine n80_98_w _ _ _ ?_) | (with_reducible refine n80_109_w _ _ _ ?_) | (with_reducible refine n80_117_w _ _ _ ?_) | (with_reducible refine n80_147_w _ _ _ ?_) | (with_reducible refine n80_151_w _ _ _ ?_) | (with_reducible refine n80_166_w _ _ _ ?_) | (with_reducible refine n80_199_w _ _ _ ?_) | (with_reducible refine n80_201_w _ _ _ ?_) | (with_reducible refine n80_203_w _ _ _ ?_) | (with_reducible refine n80_1_w _ _ _ ?_))
 exact xX.get) (x : X) : G := f ⟨x⟩
theorem runRp14_6 {G X : Prop} (f : Hd X → G := by
 intro xX
 repeat' (first | refine stp (x := ?_) | (with_reducible refine bothP_i ?_ ?_) | (with_reducible refine ValW_i (c67 (d1.x.w.app _)) ?_; try dsimp only) | (with_reducible refine SpecQ.step (c67 (d1.x.w.app _)) ?_; rintro _ rfl; try dsimp only) | (with_reducible refine stabP_i (c67 (d1.x.w.app _)) ?_) | (simp (decide := true) only [sn80, snB, if_true, if_false]) | (with_reducible refine n80_98_w _ _ _ ?_) | (with_reducible refine n80_109_w _ _ _ ?_) | (with_reducible refine n80_117_w _ _ _ ?_) | (with_reducible refine n80_147_w _ _ _ ?_) | (with_reducible refine n80_151_w _ _ _ ?_) | (with_reducible refine n80_166_w _ _ _ ?_) | (with_reducible refine n80_199_w _ _ _ ?_) | (with_reducible refine n80_201_w _ _ _ ?_) | (with_reducible refine n80_203_w _ _ _ ?_) | (with_reducible refine n80_1_w _ _ _ ?_))
 exact xX.get) (x : X) : G := f ⟨x⟩
section
variable {κ κ0 : Nat → Nat} {G H0 : Heap} {c xb : Nat} {s : Stt} {b : Pt} {a : Actn} {m : BitVec 8} {vt vp vs vi va vb wt wp : AV} {env : Env} {p3 p4 p5 p6 p7 : Nat} {K : AV × Heap → Prop}
set_option maxHeartbeats 2000000 in
theorem more_4 (d : Mx κ G c xb s b a m vt vp vs vi va vb wt wp a.e env p3 p4 p5 p6 p7) (f0 : Fr κ0 H0 κ G) (hs : Srt s) (ms : mayS s = true) (ok : Okd s b a) (hmm : m = roleOf s b) (hk : a.kind = 4#8) (hK : ∀ r, DoR κ0 H0 c (madeP s b a) r → K r) : wC Tryz.prog cx80 n80_3 (retW (fun s => (bnd (some (s.env.get 2)) fun v => bnd (some []) fun vs => some (v :: vs))) K) ⟨env, G⟩ := by
 have sx0 := blk_of d.x.st
 have wb0 := blk_of d.x.w.cell
 have wc0 := d.x.w.cells
 have d0 := d
 obtain ⟨x, c3, c4, c5, c6, c7, e0, e3, e4, e5, e6, e7⟩ := d
 subst hmm
 have hm := ok.mem (by simp [hk])
 have hl := x.w.fs.len
 have b3 := c3.blk0
 have go : ¬ (roleOf s b = 2#8 ∧ admins s = 1 ∧ 1 < s.seats.length) → madeP s b a = .ok { s with seats := del fS s.seats b } := fun h => by simp [madeP, hk, hm, h]
 by_cases h2 : roleOf s b = 2#8
 ·by_cases h3 : admins s = 1
  ·by_cases h4 : 1 < s.seats.length
   ·have hmd : madeP s b a = .error 192 := by simp [madeP, hk, h2, h3, h4]
    have ff := aI sx0 (aI wb0 (aI hk (aI h2 (aI h3 (aI h4 (aI hl e0))))))
    refine runRp14_0 (x := ?_)
    clear ff
    exact hK _ (.err hmd f0)
   ·have hmd := go fun h => h4 h.2.2
    have ff := aI sx0 (aI wb0 (aI hk (aI h2 (aI h3 (aI h4 (aI hl (aI b3 (aI e0 e3))))))))
    refine runRp14_0 (x := ?_)
    clear ff
    refine SpecQ.step (c77 x.w hs) ?_
    rintro _ ⟨y, κ', H', q, rfl, _, w2, fr⟩
    have ff := hk
    refine runRp14_1 (x := ?_)
    clear ff
    exact hK _ (.ok hmd (f0.trans fr) w2)
  ·have hmd := go fun h => h3 h.2.1
   have ff := aI sx0 (aI wb0 (aI hk (aI h2 (aI h3 (aI hl (aI b3 (aI e0 e3)))))))
   refine runRp14_0 (x := ?_)
   clear ff
   refine SpecQ.step (c77 x.w hs) ?_
   rintro _ ⟨y, κ', H', q, rfl, _, w2, fr⟩
   have ff := hk
   refine runRp14_1 (x := ?_)
   clear ff
   exact hK _ (.ok hmd (f0.trans fr) w2)
 ·have hmd := go fun h => h2 h.1
  have ff := aI sx0 (aI wb0 (aI hk (aI h2 (aI hl (aI b3 (aI e0 e3))))))
  refine runRp14_0 (x := ?_)
  clear ff
  refine SpecQ.step (c77 x.w hs) ?_
  rintro _ ⟨y, κ', H', q, rfl, _, w2, fr⟩
  have ff := hk
  refine runRp14_1 (x := ?_)
  clear ff
  exact hK _ (.ok hmd (f0.trans fr) w2)
set_option maxHeartbeats 2000000 in
theorem more_6 (d : Mx κ G c xb s b a m vt vp vs vi va vb wt wp a.e env p3 p4 p5 p6 p7) (f0 : Fr κ0 H0 κ G) (hs : Srt s) (ms : mayS s = true) (ok : Okd s b a) (hmm : m = roleOf s b) (hk : a.kind = 6#8) (hK : ∀ r, DoR κ0 H0 c (madeP s b a) r → K r) : wC Tryz.prog cx80 n80_3 (retW (fun s => (bnd (some (s.env.get 2)) fun v => bnd (some []) fun vs => some (v :: vs))) K) ⟨env, G⟩ := by
 have sx0 := blk_of d.x.st
 have wb0 := blk_of d.x.w.cell
 have wc0 := d.x.w.cells
 have d0 := d
 obtain ⟨x, c3, c4, c5, c6, c7, e0, e3, e4, e5, e6, e7⟩ := d
 subst hmm
 have hm := ok.mem (by simp [hk])
 have b4 := c4.blk0
 have b7 := c7.blk0
 cases h1 : hasP fI s.invites a.e
 ·have hmd : madeP s b a = .error 7 := by simp [madeP, hk, hm, hasP_fnd h1]
  have ff := aI sx0 (aI hk (aI h1 (aI b4 (aI b7 (aI e0 (aI e4 e7))))))
  refine runRp14_2 (x := ?_)
  clear ff
  exact hK _ (.err hmd f0)
 obtain ⟨hlow, he, hf⟩ := low_yes hs.i h1
 obtain ⟨pb, pv, pp, bb, i1, i2, i3, i4⟩ := x.w.wi.idxE hlow
 have i20 : blkAt G pb pv = some bb := by simpa using i2 []
 obtain ⟨z, hz⟩ : ∃ z, z = s.invites[low fI s.invites a.e] := ⟨_, rfl⟩
 rw [← hz] at hf i3 i4
 by_cases h2 : roleOf s b = 2#8
 ·have hmd : madeP s b a = .ok { s with invites := del fI s.invites a.e } := by simp [madeP, hk, h2, hf]
  have ff := aI sx0 (aI wb0 (aI hk (aI h1 (aI h2 (aI b4 (aI b7 (aI e0 (aI e4 e7))))))))
  refine runRp14_2 (x := ?_)
  clear ff
  refine SpecQ.step (c68 x.w hs) ?_
  rintro _ ⟨y, κ', H', q, rfl, _, w2, fr⟩
  have ff := hk
  refine runRp14_1 (x := ?_)
  clear ff
  exact hK _ (.ok hmd (f0.trans fr) w2)
 by_cases h3 : z.by_.e = b
 ·have hmd : madeP s b a = .ok { s with invites := del fI s.invites a.e } := by simp [madeP, hk, hm, h2, hf, h3]
  have ff := aI sx0 (aI wb0 (aI hk (aI h1 (aI h2 (aI h3 (aI i1 (aI i20 (aI i4 (aI b4 (aI b7 (aI e0 (aI e4 e7))))))))))))
  refine runRp14_2 (x := ?_)
  clear ff
  refine SpecQ.step (c68 x.w hs) ?_
  rintro _ ⟨y, κ', H', q, rfl, _, w2, fr⟩
  have ff := hk
  refine runRp14_1 (x := ?_)
  clear ff
  exact hK _ (.ok hmd (f0.trans fr) w2)
 ·have hmd : madeP s b a = .error 191 := by simp [madeP, hk, hm, h2, hf, h3]
  have ff := aI sx0 (aI wb0 (aI hk (aI h1 (aI h2 (aI h3 (aI i1 (aI i20 (aI i4 (aI b4 (aI b7 (aI e0 (aI e4 e7))))))))))))
  refine runRp14_2 (x := ?_)
  clear ff
  exact hK _ (.err hmd f0)
set_option maxHeartbeats 2000000 in
theorem more_8 (d : Mx κ G c xb s b a m vt vp vs vi va vb wt wp a.e env p3 p4 p5 p6 p7) (f0 : Fr κ0 H0 κ G) (hs : Srt s) (ms : mayS s = true) (ok : Okd s b a) (hk : a.kind = 8#8) (hK : ∀ r, DoR κ0 H0 c (madeP s b a) r → K r) : wC Tryz.prog cx80 n80_3 (retW (fun s => (bnd (some (s.env.get 2)) fun v => bnd (some []) fun vs => some (v :: vs))) K) ⟨env, G⟩ := by
 have sx0 := blk_of d.x.st
 have wb0 := blk_of d.x.w.cell
 have wc0 := d.x.w.cells
 have d0 := d
 obtain ⟨x, c3, c4, c5, c6, c7, e0, e3, e4, e5, e6, e7⟩ := d
 have b4 := c4.blk0
 have ff := aI sx0 (aI hk (aI b4 (aI e0 e4)))
 refine runRp14_1 (x := ?_)
 clear ff
 refine SpecQ.step (c68 x.w hs) ?_
 rintro _ ⟨y, κ', H', q, rfl, _, w2, fr⟩
 cases h1 : hasP fI s.invites b
 ·have hmd : madeP s b a = .error 7 := by simp [madeP, hk, h1]
  have ff := aI hk h1
  refine runRp14_3 (x := ?_)
  clear ff
  exact hK _ (.err hmd (f0.trans fr))
 ·have hmd : madeP s b a = .ok { s with invites := del fI s.invites b } := by simp [madeP, hk, h1]
  have ff := aI hk h1
  refine runRp14_3 (x := ?_)
  clear ff
  exact hK _ (.ok hmd (f0.trans fr) w2)
set_option maxHeartbeats 2000000 in
theorem more_13 (d : Mx κ G c xb s b a m vt vp vs vi va vb wt wp a.e env p3 p4 p5 p6 p7) (f0 : Fr κ0 H0 κ G) (hs : Srt s) (ms : mayS s = true) (ok : Okd s b a) (hk : a.kind = 13#8) (hK : ∀ r, DoR κ0 H0 c (madeP s b a) r → K r) : wC Tryz.prog cx80 n80_3 (retW (fun s => (bnd (some (s.env.get 2)) fun v => bnd (some []) fun vs => some (v :: vs))) K) ⟨env, G⟩ := by
 have sx0 := blk_of d.x.st
 have wb0 := blk_of d.x.w.cell
 have wc0 := d.x.w.cells
 have d0 := d
 obtain ⟨x, c3, c4, c5, c6, c7, e0, e3, e4, e5, e6, e7⟩ := d
 have hm := ok.adm (by simp [hk])
 have b5 := c5.blk0
 have b6 := c6.blk0
 have b7 := c7.blk0
 have ff := aI sx0 (aI hk (aI b5 (aI b6 (aI b7 (aI e0 (aI e5 (aI e6 e7)))))))
 refine runRp14_1 (x := ?_)
 clear ff
 refine SpecQ.step (c69 x.w hs) ?_
 rintro _ ⟨y, κ', H', q, rfl, _, w2, fr⟩
 cases h1 : hasP fA s.asks a.e
 ·have hmd : madeP s b a = .error 7 := by simp [madeP, hk, hm, h1]
  have ff := aI hk h1
  refine runRp14_4 (x := ?_)
  clear ff
  exact hK _ (.err hmd (f0.trans fr))
 ·have hmd : madeP s b a = .ok { s with asks := del fA s.asks a.e } := by simp [madeP, hk, hm, h1]
  have ff := aI hk h1
  refine runRp14_4 (x := ?_)
  clear ff
  exact hK _ (.ok hmd (f0.trans fr) w2)
set_option maxHeartbeats 2000000 in
theorem more_15 (d : Mx κ G c xb s b a m vt vp vs vi va vb wt wp a.e env p3 p4 p5 p6 p7) (f0 : Fr κ0 H0 κ G) (hs : Srt s) (ms : mayS s = true) (ok : Okd s b a) (hk : a.kind = 15#8) (hK : ∀ r, DoR κ0 H0 c (madeP s b a) r → K r) : wC Tryz.prog cx80 n80_3 (retW (fun s => (bnd (some (s.env.get 2)) fun v => bnd (some []) fun vs => some (v :: vs))) K) ⟨env, G⟩ := by
 have sx0 := blk_of d.x.st
 have wb0 := blk_of d.x.w.cell
 have wc0 := d.x.w.cells
 have d0 := d
 obtain ⟨x, c3, c4, c5, c6, c7, e0, e3, e4, e5, e6, e7⟩ := d
 have hm := ok.adm (by simp [hk])
 have b5 := c5.blk0
 have b6 := c6.blk0
 have b7 := c7.blk0
 have ff := aI sx0 (aI hk (aI b5 (aI b6 (aI b7 (aI e0 (aI e5 (aI e6 e7)))))))
 refine runRp14_1 (x := ?_)
 clear ff
 refine SpecQ.step (c112 x.w hs) ?_
 rintro _ ⟨y, κ', H', q, rfl, _, w2, fr⟩
 cases h1 : hasP fB s.bans a.e
 ·have hmd : madeP s b a = .error 7 := by simp [madeP, hk, hm, h1]
  have ff := aI hk h1
  refine runRp14_5 (x := ?_)
  clear ff
  exact hK _ (.err hmd (f0.trans fr))
 ·have hmd : madeP s b a = .ok { s with bans := del fB s.bans a.e } := by simp [madeP, hk, hm, h1]
  have ff := aI hk h1
  refine runRp14_5 (x := ?_)
  clear ff
  exact hK _ (.ok hmd (f0.trans fr) w2)
set_option maxHeartbeats 2000000 in
theorem more_11 (d : Mx κ G c xb s b a m vt vp vs vi va vb wt wp a.e env p3 p4 p5 p6 p7) (f0 : Fr κ0 H0 κ G) (hs : Srt s) (ms : mayS s = true) (ok : Okd s b a) (h6 : κ p7 = 6) (hp7 : H0.length ≤ p7) (h57 : p5 ≠ p7) (hk : a.kind = 11#8) (hK : ∀ r, DoR κ0 H0 c (madeP s b a) r → K r) : wC Tryz.prog cx80 n80_3 (retW (fun s => (bnd (some (s.env.get 2)) fun v => bnd (some []) fun vs => some (v :: vs))) K) ⟨env, G⟩ := by
 have sx0 := blk_of d.x.st
 have wb0 := blk_of d.x.w.cell
 have wc0 := d.x.w.cells
 have d0 := d
 obtain ⟨x, c3, c4, c5, c6, c7, e0, e3, e4, e5, e6, e7⟩ := d
 have b7 := c7.blk0
 obtain ⟨G1, hG1⟩ : ∃ G1, G.set p7 ⟨pt b, 0, .own⟩ = G1 := ⟨_, rfl⟩
 have ff := aI sx0 (aI hk (aI b7 (aI hG1 (aI e0 e7))))
 refine runRp14_1 (x := ?_)
 clear ff
 have x1 := x.wr h6 ⟨pt b, 0, .own⟩
 have c51 := c5.wr (q := p7) (fun q => h57 q.symm) ⟨pt b, 0, .own⟩
 have c71 := c7.set (pt b)
 have f1 := f0.wr hp7 ⟨pt b, 0, .own⟩
 rw [hG1] at x1 c51 c71 f1
 have b51 := c51.blk0
 have b71 := c71.blk0
 have ff := aI b51 (aI b71 (aI hk (aI e5 e7)))
 refine runRp14_1 (x := ?_)
 clear ff
 refine SpecQ.step (c69 x1.w hs) ?_
 rintro _ ⟨y, κ', H', q, rfl, _, w2, fr⟩
 cases h1 : hasP fA s.asks b
 ·have hmd : madeP s b a = .error 7 := by simp [madeP, hk, h1]
  have ff := aI hk h1
  refine runRp14_4 (x := ?_)
  clear ff
  exact hK _ (.err hmd (f1.trans fr))
 ·have hmd : madeP s b a = .ok { s with asks := del fA s.asks b } := by simp [madeP, hk, h1]
  have ff := aI hk h1
  refine runRp14_4 (x := ?_)
  clear ff
  exact hK _ (.ok hmd (f1.trans fr) w2)
set_option maxHeartbeats 2000000 in
theorem more_16 (d : Mx κ G c xb s b a m vt vp vs vi va vb wt wp a.e env p3 p4 p5 p6 p7) (f0 : Fr κ0 H0 κ G) (hs : Srt s) (ms : mayS s = true) (ok : Okd s b a) (hk : a.kind = 16#8) (hK : ∀ r, DoR κ0 H0 c (madeP s b a) r → K r) : wC Tryz.prog cx80 n80_3 (retW (fun s => (bnd (some (s.env.get 2)) fun v => bnd (some []) fun vs => some (v :: vs))) K) ⟨env, G⟩ := by
 have sx0 := blk_of d.x.st
 have wb0 := blk_of d.x.w.cell
 have wc0 := d.x.w.cells
 have d0 := d
 obtain ⟨x, c3, c4, c5, c6, c7, e0, e3, e4, e5, e6, e7⟩ := d
 have hm := ok.tit (by simp [hk])
 have wt0 := x.ra.cells
 have hmd : madeP s b a = .ok { s with title := a.title } := by simp [madeP, hk]; simpa using hm
 obtain ⟨w2, fr⟩ := x.w.put (s' := { s with title := a.title }) x.ra.t x.w.fp x.kt x.w.kp x.w.fs x.w.fi x.w.fa x.w.fb
 obtain ⟨G1, hG1⟩ : ∃ G1, G.set c ⟨eStH s.version s.key s.acc wt vp vs vi va vb, 0, .own⟩ = G1 := ⟨_, rfl⟩
 have ff := aI sx0 (aI wb0 (aI wc0 (aI wt0 (aI hk (aI hG1 e0)))))
 refine runRp14_1 (x := ?_)
 clear ff
 rw [← hG1]
 exact hK _ (.ok hmd (f0.trans fr) w2)
set_option maxHeartbeats 2000000 in
theorem more_17 (d : Mx κ G c xb s b a m vt vp vs vi va vb wt wp a.e env p3 p4 p5 p6 p7) (f0 : Fr κ0 H0 κ G) (hs : Srt s) (ms : mayS s = true) (ok : Okd s b a) (hk : a.kind = 17#8) (hK : ∀ r, DoR κ0 H0 c (madeP s b a) r → K r) : wC Tryz.prog cx80 n80_3 (retW (fun s => (bnd (some (s.env.get 2)) fun v => bnd (some []) fun vs => some (v :: vs))) K) ⟨env, G⟩ := by
 have sx0 := blk_of d.x.st
 have wb0 := blk_of d.x.w.cell
 have wc0 := d.x.w.cells
 have d0 := d
 obtain ⟨x, c3, c4, c5, c6, c7, e0, e3, e4, e5, e6, e7⟩ := d
 have hm := ok.adm (by simp [hk])
 have hmd : madeP s b a = .ok { s with acc := a.acc } := by simp [madeP, hk, hm]
 obtain ⟨w2, fr⟩ := x.w.put (s' := { s with acc := a.acc }) x.w.ft x.w.fp x.w.kt x.w.kp x.w.fs x.w.fi x.w.fa x.w.fb
 obtain ⟨G1, hG1⟩ : ∃ G1, G.set c ⟨eStH s.version s.key a.acc vt vp vs vi va vb, 0, .own⟩ = G1 := ⟨_, rfl⟩
 have ff := aI sx0 (aI wb0 (aI wc0 (aI hk (aI hG1 e0))))
 refine runRp14_1 (x := ?_)
 clear ff
 rw [← hG1]
 exact hK _ (.ok hmd (f0.trans fr) w2)
set_option maxHeartbeats 2000000 in
theorem more_18 (d : Mx κ G c xb s b a m vt vp vs vi va vb wt wp a.e env p3 p4 p5 p6 p7) (f0 : Fr κ0 H0 κ G) (hs : Srt s) (ms : mayS s = true) (ok : Okd s b a) (hk : a.kind = 18#8) (hK : ∀ r, DoR κ0 H0 c (madeP s b a) r → K r) : wC Tryz.prog cx80 n80_3 (retW (fun s => (bnd (some (s.env.get 2)) fun v => bnd (some []) fun vs => some (v :: vs))) K) ⟨env, G⟩ := by
 have sx0 := blk_of d.x.st
 have wb0 := blk_of d.x.w.cell
 have wc0 := d.x.w.cells
 have d0 := d
 obtain ⟨x, c3, c4, c5, c6, c7, e0, e3, e4, e5, e6, e7⟩ := d
 have hm := ok.adm (by simp [hk])
 have wt0 := x.ra.cells
 have hmd : madeP s b a = .ok { s with pass := a.pass } := by simp [madeP, hk, hm]
 obtain ⟨w2, fr⟩ := x.w.put (s' := { s with pass := a.pass }) x.w.ft x.ra.p x.w.kt x.kp x.w.fs x.w.fi x.w.fa x.w.fb
 obtain ⟨G1, hG1⟩ : ∃ G1, G.set c ⟨eStH s.version s.key s.acc vt wp vs vi va vb, 0, .own⟩ = G1 := ⟨_, rfl⟩
 have ff := aI sx0 (aI wb0 (aI wc0 (aI wt0 (aI hk (aI hG1 e0)))))
 refine runRp14_1 (x := ?_)
 clear ff
 rw [← hG1]
 exact hK _ (.ok hmd (f0.trans fr) w2)
set_option maxHeartbeats 2000000 in
theorem more_12 (d : Mx κ G c xb s b a m vt vp vs vi va vb wt wp a.e env p3 p4 p5 p6 p7) (f0 : Fr κ0 H0 κ G) (hs : Srt s) (ms : mayS s = true) (ok : Okd s b a) (hk : a.kind = 12#8) (hK : ∀ r, DoR κ0 H0 c (madeP s b a) r → K r) : wC Tryz.prog cx80 n80_3 (retW (fun s => (bnd (some (s.env.get 2)) fun v => bnd (some []) fun vs => some (v :: vs))) K) ⟨env, G⟩ := by
 have sx0 := blk_of d.x.st
 have wb0 := blk_of d.x.w.cell
 have wc0 := d.x.w.cells
 have d0 := d
 obtain ⟨x, c3, c4, c5, c6, c7, e0, e3, e4, e5, e6, e7⟩ := d
 have hA := ok.add (by simp [hk])
 have b5 := c5.blk0
 have b7 := c7.blk0
 have hl := (may_lens ms).1
 have ff := aI sx0 (aI hk (aI b5 (aI b7 (aI e0 (aI e5 e7)))))
 refine runRp14_1 (x := ?_)
 clear ff
 refine SpecQ.step (c69 x.w hs) ?_
 rintro _ ⟨y, κ', H', q, rfl, hy, w2, fr⟩
 have d1 := d0.next fr w2
 have b31 := d1.c3.blk
 have sx1 := d1.x.blk
 cases h1 : hasP fA s.asks a.e
 ·have hmd : madeP s b a = .error 7 := by simp [madeP, hk, hA, hasP_fnd h1]
  have ff := aI hk h1
  refine runRp14_1 (x := ?_)
  clear ff
  exact hK _ (.err hmd (f0.trans (fr.trans (Fr.refl _ _).app)))
 obtain ⟨_, _, hf⟩ := low_yes hs.a h1
 have hyf := hy _ hf
 rw [← hyf] at hf
 by_cases h3 : 40 ≤ s.seats.length
 ·have hmd : madeP s b a = .error 9 := by simp [madeP, hk, hA, hf, h3]
  have ff := aI hk (aI h1 (aI h3 (aI b31 e3)))
  refine runRp14_6 (x := ?_)
  clear ff
  exact hK _ (.err hmd (f0.trans (fr.trans (Fr.refl _ _).app)))
 have hmd : madeP s b a = .ok { s with asks := del fA s.asks a.e, seats := ins fS s.seats ⟨y.who, a.role, a.version⟩ } := by simp [madeP, hk, hA, hf, h3]
 have ff := aI sx1 (aI hk (aI h1 (aI h3 (aI b31 (aI e0 e3)))))
 refine runRp14_6 (x := ?_)
 clear ff
 refine SpecQ.step (c70 (d1.x.app _) (hs.a' _) (by simp only; omega)) ?_
 rintro _ ⟨κ3, H3, q3, rfl, w3, fr3⟩
 have ff := hk
 refine runRp14_1 (x := ?_)
 clear ff
 exact hK _ (.ok hmd (f0.trans (fr.trans fr3.app)) w3)
end
end Go.Vab

/-
  A step is done, for oneself, or to what waits: accept, ban; walked.
-/
namespace Go.Vab
open Go Go.Proofs
theorem runRp15_0 {G X : Prop} (f : Hd X → G := by
 intro xX
 repeat' (first | ((with_reducible refine evs_of (a := ?_) ?_ ?_); rotate_left; (focus ((conv => lhs; simp (disch := omega) [ff]); done)); try dsimp only) | ((with_reducible refine gW_do ?_ ?_); (focus (simp (disch := omega) [ff]; done))) | ((with_reducible refine gW_no ?_ ?_); (focus (simp (disch := omega) [ff]; done)); try dsimp only) | ((with_reducible refine gW_un ?_ ?_); (focus (simp (disch := omega) [ff]; done)); try dsimp only) | ((with_reducible refine cndW_T ?_ ?_); (focus (simp (disch := omega) [ff] <;> omega))) | ((with_reducible refine cndW_F ?_ ?_); (focus (simp (disch := omega) [ff] <;> omega))) | ((with_reducible refine stabP_i ?_ ?_); (focus (simp (disch := omega) [ff]; done))) | (with_reducible refine bothP_i ?_ ?_) | (with_reducible refine wL_i ?_) | ((with_reducible refine ValW_do ?_ ?_); (focus (simp (disch := omega) [ff]; done)); try dsimp only) | ((with_reducible refine ValW_no ?_ ?_); (focus (simp (disch := omega) [ff]; done)); try dsimp only) | ((with_reducible refine ValW_un ?_ ?_); (focus (simp (disch := omega) [ff]; done)); try dsimp only) | ((with_reducible refine SpecA_i (args' := ?_) ?_ ?_); rotate_left; (focus ((conv => lhs; simp (disch := omega) [ff]); done))) | ((with_reducible refine ValA_i (args' := ?_) ?_ ?_); rotate_left; (focus ((conv => lhs; simp (disch := omega) [ff]); done))) | ((with_reducible refine stabA_i (args' := ?_) ?_ ?_); rotate_left; (focus ((conv => lhs; simp (disch := omega) [ff]); done))) | ((with_reducible refine ValA_fn (g := ?_) (caps := ?_) ?_ ?_); rotate_left; rotate_left; (focus ((conv => lhs; simp (disch := omega) [ff]); done))) | ((with_reducible refine stabA_fn (g := ?_) (caps := ?_) ?_ ?_); rotate_left; rotate_left; (focus ((conv => lhs; simp (disch := omega) [ff]); done))) | ((with_reducible refine stab_do ?_ ?_); (focus (simp (disch := omega) [ff]; done))) | (simp (decide := true) only [sn80, sqW_nrm, sqW_exit, sqW_ret, inBlk_nrm, inBlk_ret, inBlk_same, inBlk_exit, if_true, if_false, retW_nrm, retW_ret]))
 exact xX.get) (x : X) : G := f ⟨x⟩
theorem runRp15_1 {G X : Prop} (f : Hd X → G := by
 intro xX
 repeat' (first | ((with_reducible refine evs_of (a := ?_) ?_ ?_); rotate_left; (focus ((conv => lhs; simp (disch := omega) [ff]); done)); try dsimp only) | ((with_reducible refine gW_do ?_ ?_); (focus (simp (disch := omega) [ff]; done))) | ((with_reducible refine gW_no ?_ ?_); (focus (simp (disch := omega) [ff]; done)); try dsimp only) | ((with_reducible refine gW_un ?_ ?_); (focus (simp (disch := omega) [ff]; done)); try dsimp only) | ((with_reducible refine cndW_T ?_ ?_); (focus (simp (disch := omega) [ff] <;> omega))) | ((with_reducible refine cndW_F ?_ ?_); (focus (simp (disch := omega) [ff] <;> omega))) | ((with_reducible refine stabP_i ?_ ?_); (focus (simp (disch := omega) [ff]; done))) | (with_reducible refine bothP_i ?_ ?_) | (with_reducible refine wL_i ?_) | ((with_reducible refine ValW_do ?_ ?_); (focus (simp (disch := omega) [ff]; done)); try dsimp only) | ((with_reducible refine ValW_no ?_ ?_); (focus (simp (disch := omega) [ff]; done)); try dsimp only) | ((with_reducible refine ValW_un ?_ ?_); (focus (simp (disch := omega) [ff]; done)); try dsimp only) | ((with_reducible refine SpecA_i (args' := ?_) ?_ ?_); rotate_left; (focus ((conv => lhs; simp (disch := omega) [ff]); done))) | ((with_reducible refine ValA_i (args' := ?_) ?_ ?_); rotate_left; (focus ((conv => lhs; simp (disch := omega) [ff]); done))) | ((with_reducible refine stabA_i (args' := ?_) ?_ ?_); rotate_left; (focus ((conv => lhs; simp (disch := omega) [ff]); done))) | ((with_reducible refine ValA_fn (g := ?_) (caps := ?_) ?_ ?_); rotate_left; rotate_left; (focus ((conv => lhs; simp (disch := omega) [ff]); done))) | ((with_reducible refine stabA_fn (g := ?_) (caps := ?_) ?_ ?_); rotate_left; rotate_left; (focus ((conv => lhs; simp (disch := omega) [ff]); done))) | ((with_reducible refine stab_do ?_ ?_); (focus (simp (disch := omega) [ff]; done))) | (simp (decide := true) only [sn80, sqW_nrm, sqW_exit, sqW_ret, inBlk_nrm, inBlk_ret, inBlk_same, inBlk_exit, if_true, if_false, retW_nrm, retW_ret]) | (with_reducible refine n80_98_w _ _ _ ?_) | (with_reducible refine n80_109_w _ _ _ ?_) | (with_reducible refine n80_117_w _ _ _ ?_) | (with_reducible refine n80_147_w _ _ _ ?_) | (with_reducible refine n80_151_w _ _ _ ?_) | (with_reducible refine n80_166_w _ _ _ ?_) | (with_reducible refine n80_199_w _ _ _ ?_) | (with_reducible refine n80_201_w _ _ _ ?_) | (with_reducible refine n80_203_w _ _ _ ?_) | (with_reducible refine n80_1_w _ _ _ ?_))
 exact xX.get) (x : X) : G := f ⟨x⟩
theorem runRp15_2 {G X : Prop} (f : Hd X → G := by
 intro xX
 repeat' (first | ((with_reducible refine evs_of (a := ?_) ?_ ?_); rotate_left; (focus ((conv => lhs; simp (disch := omega) [ff]); done)); try dsimp only) | ((with_reducible refine gW_do ?_ ?_); (focus (simp (disch := omega) [ff]; done))) | ((with_reducible refine gW_no ?_ ?_); (focus (simp (disch := omega) [ff]; done)); try dsimp only) | ((with_reducible refine gW_un ?_ ?_); (focus (simp (disch := omega) [ff]; done)); try dsimp only) | ((with_reducible refine cndW_T ?_ ?_); (focus (simp (disch := omega) [ff] <;> omega))) | ((with_reducible refine cndW_F ?_ ?_); (focus (simp (disch := omega) [ff] <;> omega))) | ((with_reducible refine stabP_i ?_ ?_); (focus (simp (disch := omega) [ff]; done))) | (with_reducible refine bothP_i ?_ ?_) | (with_reducible refine wL_i ?_) | ((with_reducible refine ValW_do ?_ ?_); (focus (simp (disch := omega) [ff]; done)); try dsimp only) | ((with_reducible refine ValW_no ?_ ?_); (focus (simp (disch := omega) [ff]; done)); try dsimp only) | ((with_reducible refine ValW_un ?_ ?_); (focus (simp (disch := omega) [ff]; done)); try dsimp only) | (with_reducible refine ValW_i (c67 (d1.x.w.app _)) ?_; try dsimp only) | (with_reducible refine SpecQ.step (c67 (d1.x.w.app _)) ?_; rintro _ rfl; try dsimp only) | (with_reducible refine stabP_i (c67 (d1.x.w.app _)) ?_) | ((with_reducible refine SpecA_i (args' := ?_) ?_ ?_); rotate_left; (focus ((conv => lhs; simp (disch := omega) [ff]); done))) | ((with_reducible refine ValA_i (args' := ?_) ?_ ?_); rotate_left; (focus ((conv => lhs; simp (disch := omega) [ff]); done))) | ((with_reducible refine stabA_i (args' := ?_) ?_ ?_); rotate_left; (focus ((conv => lhs; simp (disch := omega) [ff]); done))) | ((with_reducible refine ValA_fn (g := ?_) (caps := ?_) ?_ ?_); rotate_left; rotate_left; (focus ((conv => lhs; simp (disch := omega) [ff]); done))) | ((with_reducible refine stabA_fn (g := ?_) (caps := ?_) ?_ ?_); rotate_left; rotate_left; (focus ((conv => lhs; simp (disch := omega) [ff]); done))) | ((with_reducible refine stab_do ?_ ?_); (focus (simp (disch := omega) [ff]; done))) | (simp (decide := true) only [sn80, sqW_nrm, sqW_exit, sqW_ret, inBlk_nrm, inBlk_ret, inBlk_same, inBlk_exit, if_true, if_false, retW_nrm, retW_ret]) | (with_reducible refine n80_98_w _ _ _ ?_) | (with_reducible refine n80_109_w _ _ _ ?_) | (with_reducible refine n80_117_w _ _ _ ?_) | (with_reducible refine n80_147_w _ _ _ ?_) | (with_reducible refine n80_151_w _ _ _ ?_) | (with_reducible refine n80_166_w _ _ _ ?_) | (with_reducible refine n80_199_w _ _ _ ?_) | (with_reducible refine n80_201_w _ _ _ ?_) | (with_reducible refine n80_203_w _ _ _ ?_) | (with_reducible refine n80_1_w _ _ _ ?_))
 exact xX.get) (x : X) : G := f ⟨x⟩
theorem runRp15_3 {G X : Prop} (f : Hd X → G := by
 intro xX
 repeat' (first | ((with_reducible refine evs_of (a := ?_) ?_ ?_); rotate_left; (focus ((conv => lhs; simp (disch := omega) [ff]); done)); try dsimp only) | ((with_reducible refine gW_do ?_ ?_); (focus (simp (disch := omega) [ff]; done))) | ((with_reducible refine gW_no ?_ ?_); (focus (simp (disch := omega) [ff]; done)); try dsimp only) | ((with_reducible refine gW_un ?_ ?_); (focus (simp (disch := omega) [ff]; done)); try dsimp only) | ((with_reducible refine cndW_T ?_ ?_); (focus (simp (disch := omega) [ff] <;> omega))) | ((with_reducible refine cndW_F ?_ ?_); (focus (simp (disch := omega) [ff] <;> omega))) | ((with_reducible refine stabP_i ?_ ?_); (focus (simp (disch := omega) [ff]; done))) | (with_reducible refine bothP_i ?_ ?_) | (with_reducible refine wL_i ?_) | ((with_reducible refine ValW_do ?_ ?_); (focus (simp (disch := omega) [ff]; done)); try dsimp only) | ((with_reducible refine ValW_no ?_ ?_); (focus (simp (disch := omega) [ff]; done)); try dsimp only) | ((with_reducible refine ValW_un ?_ ?_); (focus (simp (disch := omega) [ff]; done)); try dsimp only) | (with_reducible refine ValW_i (c67 d4.x.w) ?_; try dsimp only) | (with_reducible refine SpecQ.step (c67 d4.x.w) ?_; rintro _ rfl; try dsimp only) | (with_reducible refine stabP_i (c67 d4.x.w) ?_) | ((with_reducible refine SpecA_i (args' := ?_) ?_ ?_); rotate_left; (focus ((conv => lhs; simp (disch := omega) [ff]); done))) | ((with_reducible refine ValA_i (args' := ?_) ?_ ?_); rotate_left; (focus ((conv => lhs; simp (disch := omega) [ff]); done))) | ((with_reducible refine stabA_i (args' := ?_) ?_ ?_); rotate_left; (focus ((conv => lhs; simp (disch := omega) [ff]); done))) | ((with_reducible refine ValA_fn (g := ?_) (caps := ?_) ?_ ?_); rotate_left; rotate_left; (focus ((conv => lhs; simp (disch := omega) [ff]); done))) | ((with_reducible refine stabA_fn (g := ?_) (caps := ?_) ?_ ?_); rotate_left; rotate_left; (focus ((conv => lhs; simp (disch := omega) [ff]); done))) | ((with_reducible refine stab_do ?_ ?_); (focus (simp (disch := omega) [ff]; done))) | (simp (decide := true) only [sn80, sqW_nrm, sqW_exit, sqW_ret, inBlk_nrm, inBlk_ret, inBlk_same, inBlk_exit, if_true, if_false, retW_nrm, retW_ret]) | (with_reducible refine n80_98_w _ _ _ ?_) | (with_reducible refine n80_109_w _ _ _ ?_) | (with_reducible refine n80_117_w _ _ _ ?_) | (with_reducible refine n80_147_w _ _ _ ?_) | (with_reducible refine n80_151_w _ _ _ ?_) | (with_reducible refine n80_166_w _ _ _ ?_) | (with_reducible refine n80_199_w _ _ _ ?_) | (with_reducible refine n80_201_w _ _ _ ?_) | (with_reducible refine n80_203_w _ _ _ ?_) | (with_reducible refine n80_1_w _ _ _ ?_))
 exact xX.get) (x : X) : G := f ⟨x⟩
theorem runRp15_4 {G X : Prop} (f : Hd X → G := by
 intro xX
 repeat' (first | ((with_reducible refine evs_of (a := ?_) ?_ ?_); rotate_left; (focus ((conv => lhs; simp (disch := omega) [ff]); done)); try dsimp only) | ((with_reducible refine gW_do ?_ ?_); (focus (simp (disch := omega) [ff]; done))) | ((with_reducible refine gW_no ?_ ?_); (focus (simp (disch := omega) [ff]; done)); try dsimp only) | ((with_reducible refine gW_un ?_ ?_); (focus (simp (disch := omega) [ff]; done)); try dsimp only) | ((with_reducible refine cndW_T ?_ ?_); (focus (simp (disch := omega) [ff] <;> omega))) | ((with_reducible refine cndW_F ?_ ?_); (focus (simp (disch := omega) [ff] <;> omega))) | ((with_reducible refine stabP_i ?_ ?_); (focus (simp (disch := omega) [ff]; done))) | (with_reducible refine bothP_i ?_ ?_) | (with_reducible refine wL_i ?_) | ((with_reducible refine ValW_do ?_ ?_); (focus (simp (disch := omega) [ff]; done)); try dsimp only) | ((with_reducible refine ValW_no ?_ ?_); (focus (simp (disch := omega) [ff]; done)); try dsimp only) | ((with_reducible refine ValW_un ?_ ?_); (focus (simp (disch := omega) [ff]; done)); try dsimp only) | (with_reducible refine ValW_i (c95 x.w hs) ?_; try dsimp only) | (with_reducible refine SpecQ.step (c95 x.w hs) ?_; rintro _ rfl; try dsimp only) | (with_reducible refine stabP_i (c95 x.w hs) ?_) | ((with_reducible refine SpecA_i (args' := ?_) ?_ ?_); rotate_left; (focus ((conv => lhs; simp (disch := omega) [ff]); done))) | ((with_reducible refine ValA_i (args' := ?_) ?_ ?_); rotate_left; (focus ((conv => lhs; simp (disch := omega) [ff]); done))) | ((with_reducible refine stabA_i (args' := ?_) ?_ ?_); rotate_left; (focus ((conv => lhs; simp (disch := omega) [ff]); done))) | ((with_reducible refine ValA_fn (g := ?_) (caps := ?_) ?_ ?_); rotate_left; rotate_left; (focus ((conv => lhs; simp (disch := omega) [ff]); done))) | ((with_reducible refine stabA_fn (g := ?_) (caps := ?_) ?_ ?_); rotate_left; rotate_left; (focus ((conv => lhs; simp (disch := omega) [ff]); done))) | ((with_reducible refine stab_do ?_ ?_); (focus (simp (disch := omega) [ff]; done))) | (simp (decide := true) only [sn80, sqW_nrm, sqW_exit, sqW_ret, inBlk_nrm, inBlk_ret, inBlk_same, inBlk_exit, if_true, if_false, retW_nrm, retW_ret]) | (with_reducible refine n80_98_w _ _ _ ?_) | (with_reducible refine n80_109_w _ _ _ ?_) | (with_reducible refine n80_117_w _ _ _ ?_) | (with_reducible refine n80_147_w _ _ _ ?_) | (with_reducible refine n80_151_w _ _ _ ?_) | (with_reducible refine n80_166_w _ _ _ ?_) | (with_reducible refine n80_199_w _ _ _ ?_) | (with_reducible refine n80_201_w _ _ _ ?_) | (with_reducible refine n80_203_w _ _ _ ?_) | (with_reducible refine n80_1_w _ _ _ ?_))
 exact xX.get) (x : X) : G := f ⟨x⟩
theorem runRp15_5 {G X : Prop} (f : Hd X → G := by
 intro xX
 repeat' (first | ((with_reducible refine evs_of (a := ?_) ?_ ?_); rotate_left; (focus ((conv => lhs; simp (disch := omega) [ff]); done)); try dsimp only) | ((with_reducible refine gW_do ?_ ?_); (focus (simp (disch := omega) [ff]; done))) | ((with_reducible refine gW_no ?_ ?_); (focus (simp (disch := omega) [ff]; done)); try dsimp only) | ((with_reducible refine gW_un ?_ ?_); (focus (simp (disch := omega) [ff]; done)); try dsimp only) | ((with_reducible refine cndW_T ?_ ?_); (focus (simp (disch := omega) [ff] <;> omega))) | ((with_reducible refine cndW_F ?_ ?_); (focus (simp (disch := omega) [ff] <;> omega))) | ((with_reducible refine stabP_i ?_ ?_); (focus (simp (disch := omega) [ff]; done))) | (with_reducible refine bothP_i ?_ ?_) | (with_reducible refine wL_i ?_) | ((with_reducible refine ValW_do ?_ ?_); (focus (simp (disch := omega) [ff]; done)); try dsimp only) | ((with_reducible refine ValW_no ?_ ?_); (focus (simp (disch := omega) [ff]; done)); try dsimp only) | ((with_reducible refine ValW_un ?_ ?_); (focus (simp (disch := omega) [ff]; done)); try dsimp only) | (with_reducible refine ValW_i (c95 x.w hs) ?_; try dsimp only) | (with_reducible refine SpecQ.step (c95 x.w hs) ?_; rintro _ rfl; try dsimp only) | (with_reducible refine stabP_i (c95 x.w hs) ?_) | (with_reducible refine ValW_i (c73 x hs hme) ?_; try dsimp only) | (with_reducible refine SpecQ.step (c73 x hs hme) ?_; rintro _ rfl; try dsimp only) | (with_reducible refine stabP_i (c73 x hs hme) ?_) | ((with_reducible refine SpecA_i (args' := ?_) ?_ ?_); rotate_left; (focus ((conv => lhs; simp (disch := omega) [ff]); done))) | ((with_reducible refine ValA_i (args' := ?_) ?_ ?_); rotate_left; (focus ((conv => lhs; simp (disch := omega) [ff]); done))) | ((with_reducible refine stabA_i (args' := ?_) ?_ ?_); rotate_left; (focus ((conv => lhs; simp (disch := omega) [ff]); done))) | ((with_reducible refine ValA_fn (g := ?_) (caps := ?_) ?_ ?_); rotate_left; rotate_left; (focus ((conv => lhs; simp (disch := omega) [ff]); done))) | ((with_reducible refine stabA_fn (g := ?_) (caps := ?_) ?_ ?_); rotate_left; rotate_left; (focus ((conv => lhs; simp (disch := omega) [ff]); done))) | ((with_reducible refine stab_do ?_ ?_); (focus (simp (disch := omega) [ff]; done))) | (simp (decide := true) only [sn80, sqW_nrm, sqW_exit, sqW_ret, inBlk_nrm, inBlk_ret, inBlk_same, inBlk_exit, if_true, if_false, retW_nrm, retW_ret]) | (with_reducible refine n80_98_w _ _ _ ?_) | (with_reducible refine n80_109_w _ _ _ ?_) | (with_reducible refine n80_117_w _ _ _ ?_) | (with_reducible refine n80_147_w _ _ _ ?_) | (with_reducible refine n80_151_w _ _ _ ?_) | (with_reducible refine n80_166_w _ _ _ ?_) | (with_reducible refine n80_199_w _ _ _ ?_) | (with_reducible refine n80_201_w _ _ _ ?_) | (with_reducible refine n80_203_w _ _ _ ?_) | (with_reducible refine n80_1_w _ _ _ ?_))
 exact xX.get) (x : X) : G := f ⟨x⟩
theorem runRp15_6 {G X : Prop} (f : Hd X → G := by
 intro xX
 repeat' (first | ((with_reducible refine evs_of (a := ?_) ?_ ?_); rotate_left; (focus ((conv => lhs; simp (disch := omega) [ff]); done)); try dsimp only) | ((with_reducible refine gW_do ?_ ?_); (focus (simp (disch := omega) [ff]; done))) | ((with_reducible refine gW_no ?_ ?_); (focus (simp (disch := omega) [ff]; done)); try dsimp only) | ((with_reducible refine gW_un ?_ ?_); (focus (simp (disch := omega) [ff]; done)); try dsimp only) | ((with_reducible refine cndW_T ?_ ?_); (focus (simp (disch := omega) [ff] <;> omega))) | ((with_reducible refine cndW_F ?_ ?_); (focus (simp (disch := omega) [ff] <;> omega))) | ((with_reducible refine stabP_i ?_ ?_); (focus (simp (disch := omega) [ff]; done))) | (with_reducible refine bothP_i ?_ ?_) | (with_reducible refine wL_i ?_) | ((with_reducible refine ValW_do ?_ ?_); (focus (simp (disch := omega) [ff]; done)); try dsimp only) | ((with_reducible refine ValW_no ?_ ?_); (focus (simp (disch := omega) [ff]; done)); try dsimp only) | ((with_reducible refine ValW_un ?_ ?_); (focus (simp (disch := omega) [ff]; done)); try dsimp only) | (with_reducible refine ValW_i (c113 (d3.x.w.app _)) ?_; try dsimp only) | (with_reducible refine SpecQ.step (c113 (d3.x.w.app _)) ?_; rintro _ rfl; try dsimp only) | (with_reducible refine stabP_i (c113 (d3.x.w.app _)) ?_) | ((with_reducible refine SpecA_i (args' := ?_) ?_ ?_); rotate_left; (focus ((conv => lhs; simp (disch := omega) [ff]); done))) | ((with_reducible refine ValA_i (args' := ?_) ?_ ?_); rotate_left; (focus ((conv => lhs; simp (disch := omega) [ff]); done))) | ((with_reducible refine stabA_i (args' := ?_) ?_ ?_); rotate_left; (focus ((conv => lhs; simp (disch := omega) [ff]); done))) | ((with_reducible refine ValA_fn (g := ?_) (caps := ?_) ?_ ?_); rotate_left; rotate_left; (focus ((conv => lhs; simp (disch := omega) [ff]); done))) | ((with_reducible refine stabA_fn (g := ?_) (caps := ?_) ?_ ?_); rotate_left; rotate_left; (focus ((conv => lhs; simp (disch := omega) [ff]); done))) | ((with_reducible refine stab_do ?_ ?_); (focus (simp (disch := omega) [ff]; done))) | (simp (decide := true) only [sn80, sqW_nrm, sqW_exit, sqW_ret, inBlk_nrm, inBlk_ret, inBlk_same, inBlk_exit, if_true, if_false, retW_nrm, retW_ret]) | (with_reducible refine n80_98_w _ _ _ ?_) | (with_reducible refine n80_109_w _ _ _ ?_) | (with_reducible refine n80_117_w _ _ _ ?_) | (with_reducible refine n80_147_w _ _ _ ?_) | (with_reducible refine n80_151_w _ _ _ ?_) | (with_reducible refine n80_166_w _ _ _ ?_) | (with_reducible refine n80_199_w _ _ _ ?_) | (with_reducible refine n80_201_w _ _ _ ?_) | (with_reducible refine n80_203_w _ _ _ ?_) | (with_reducible refine n80_1_w _ _ _ ?_))
 exact xX.get) (x : X) : G := f ⟨x⟩
theorem Srt.s' {s : Stt} (h : Srt s) (e : Pt) : Srt { s with seats := del fS s.seats e } := ⟨srt_del h.s, h.i, h.a, h.b⟩
section
variable {κ κ0 : Nat → Nat} {G H0 : Heap} {c xb : Nat} {s : Stt} {b : Pt} {a : Actn} {m : BitVec 8} {vt vp vs vi va vb wt wp : AV} {pe : Pt} {env : Env} {p3 p4 p5 p6 p7 : Nat} {K : AV × Heap → Prop}
theorem Mx.scr (d : Mx κ G c xb s b a m vt vp vs vi va vb wt wp pe env p3 p4 p5 p6 p7) (v : Blk) : Mx (Go.Vab.scr κ G.length) (G ++ [v]) c xb s b a m vt vp vs vi va vb wt wp pe env p3 p4 p5 p6 p7 :=
 ⟨d.x.scr v, d.c3.scr v, d.c4.scr v, d.c5.scr v, d.c6.scr v, d.c7.scr v, d.e0, d.e3, d.e4, d.e5, d.e6, d.e7⟩
theorem Mx.wr (d : Mx κ G c xb s b a m vt vp vs vi va vb wt wp pe env p3 p4 p5 p6 p7) {p : Nat} (hp : κ p = 6) (h3 : p ≠ p3) (h4 : p ≠ p4) (h5 : p ≠ p5) (h6 : p ≠ p6) (h7 : p ≠ p7) (v : Blk) : Mx κ (G.set p v) c xb s b a m vt vp vs vi va vb wt wp pe env p3 p4 p5 p6 p7 :=
 ⟨d.x.wr hp v, d.c3.wr h3 v, d.c4.wr h4 v, d.c5.wr h5 v, d.c6.wr h6 v, d.c7.wr h7 v, d.e0, d.e3, d.e4, d.e5, d.e6, d.e7⟩
set_option maxHeartbeats 8000000 in
theorem more_7 (d : Mx κ G c xb s b a m vt vp vs vi va vb wt wp a.e env p3 p4 p5 p6 p7) (f0 : Fr κ0 H0 κ G) (hs : Srt s) (ms : mayS s = true) (ok : Okd s b a) (hk : a.kind = 7#8) (hK : ∀ r, DoR κ0 H0 c (madeP s b a) r → K r) : wC Tryz.prog cx80 n80_3 (retW (fun s => (bnd (some (s.env.get 2)) fun v => bnd (some []) fun vs => some (v :: vs))) K) ⟨env, G⟩ := by
 have sx0 := blk_of d.x.st
 have wb0 := blk_of d.x.w.cell
 have wc0 := d.x.w.cells
 have d0 := d
 obtain ⟨x, c3, c4, c5, c6, c7, e0, e3, e4, e5, e6, e7⟩ := d
 have b4 := c4.blk0
 have b4l := c4.blk
 have sxl := d0.x.blk
 have hl := (may_lens ms).1
 have ff := aI sx0 (aI hk (aI b4 (aI e0 e4)))
 refine runRp15_0 (x := ?_)
 clear ff
 refine n80_117_w _ _ _ ?_
 repeat' (first | ((with_reducible refine evs_of (a := ?_) ?_ ?_); rotate_left; (focus ((conv => lhs; simp (disch := omega) [sx0, sxl, hk, b4, b4l, e0, e4]); done)); try dsimp only) | ((with_reducible refine gW_do ?_ ?_); (focus (simp (disch := omega) [sx0, sxl, hk, b4, b4l, e0, e4]; done))) | ((with_reducible refine gW_no ?_ ?_); (focus (simp (disch := omega) [sx0, sxl, hk, b4, b4l, e0, e4]; done)); try dsimp only) | ((with_reducible refine gW_un ?_ ?_); (focus (simp (disch := omega) [sx0, sxl, hk, b4, b4l, e0, e4]; done)); try dsimp only) | ((with_reducible refine cndW_T ?_ ?_); (focus (simp (disch := omega) [sx0, sxl, hk, b4, b4l, e0, e4] <;> omega))) | ((with_reducible refine cndW_F ?_ ?_); (focus (simp (disch := omega) [sx0, sxl, hk, b4, b4l, e0, e4] <;> omega))) | ((with_reducible refine stabP_i ?_ ?_); (focus (simp (disch := omega) [sx0, sxl, hk, b4, b4l, e0, e4]; done))) | (with_reducible refine bothP_i ?_ ?_) | (with_reducible refine wL_i ?_) | ((with_reducible refine ValW_do ?_ ?_); (focus (simp (disch := omega) [sx0, sxl, hk, b4, b4l, e0, e4]; done)); try dsimp only) | ((with_reducible refine ValW_no ?_ ?_); (focus (simp (disch := omega) [sx0, sxl, hk, b4, b4l, e0, e4]; done)); try dsimp only) | ((with_reducible refine ValW_un ?_ ?_); (focus (simp (disch := omega) [sx0, sxl, hk, b4, b4l, e0, e4]; done)); try dsimp only) | ((with_reducible refine SpecA_i (args' := ?_) ?_ ?_); rotate_left; (focus ((conv => lhs; simp (disch := omega) [sx0, sxl, hk, b4, b4l, e0, e4]); done))) | ((with_reducible refine ValA_i (args' := ?_) ?_ ?_); rotate_left; (focus ((conv => lhs; simp (disch := omega) [sx0, sxl, hk, b4, b4l, e0, e4]); done))) | ((with_reducible refine stabA_i (args' := ?_) ?_ ?_); rotate_left; (focus ((conv => lhs; simp (disch := omega) [sx0, sxl, hk, b4, b4l, e0, e4]); done))) | ((with_reducible refine ValA_fn (g := ?_) (caps := ?_) ?_ ?_); rotate_left; rotate_left; (focus ((conv => lhs; simp (disch := omega) [sx0, sxl, hk, b4, b4l, e0, e4]); done))) | ((with_reducible refine stabA_fn (g := ?_) (caps := ?_) ?_ ?_); rotate_left; rotate_left; (focus ((conv => lhs; simp (disch := omega) [sx0, sxl, hk, b4, b4l, e0, e4]); done))) | ((with_reducible refine stab_do ?_ ?_); (focus (simp (disch := omega) [sx0, sxl, hk, b4, b4l, e0, e4]; done))) | (simp (decide := true) only [sn80, sqW_nrm, sqW_exit, sqW_ret, inBlk_nrm, inBlk_ret, inBlk_same, inBlk_exit, if_true, if_false, retW_nrm, retW_ret]) | ((with_reducible refine cndW_splitE (b := ?_) ?_ ?_ ?_); rotate_left; (focus ((conv => lhs; simp (disch := omega) [sx0, sxl, hk, b4, b4l, e0, e4]); done)); all_goals ((intro hb; try simp only [Bool.not_true, Bool.not_false] at hb); try simp only [hb])) | ((with_reducible refine gv_splitE (b := ?_) ?_ ?_ ?_); rotate_left; (focus ((conv => lhs; simp (disch := omega) [sx0, sxl, hk, b4, b4l, e0, e4]); done)); all_goals ((intro hb; try simp only [Bool.not_true, Bool.not_false] at hb); try simp only [hb])) | ((with_reducible refine gW_splitE (b := ?_) ?_ ?_ ?_); rotate_left; (focus ((conv => lhs; simp (disch := omega) [sx0, sxl, hk, b4, b4l, e0, e4]); done)); all_goals ((intro hb; try simp only [Bool.not_true, Bool.not_false] at hb); try simp only [hb])) | (with_reducible refine gv_split ?_ ?_ <;> (intro hb; try simp only [Bool.not_true, Bool.not_false] at hb) <;> try simp only [hb]) | (with_reducible refine gW_split ?_ ?_ <;> (intro hb; try simp only [Bool.not_true, Bool.not_false] at hb) <;> try simp only [hb]) | (with_reducible refine cndW_split ?_ ?_ <;> (intro hb; try simp only [Bool.not_true, Bool.not_false] at hb) <;> try simp only [hb]) | (with_reducible refine ValW_split ?_ ?_ <;> (intro hb; try simp only [Bool.not_true, Bool.not_false] at hb) <;> try simp only [hb]))
 ·refine SpecQ.step (c68 x.w hs) ?_
  rintro _ ⟨y, κ', H', q, rfl, hy, w2, fr⟩
  have d1 := d0.next fr w2
  have b31 := d1.c3.blk
  have b41 := d1.c4.blk
  have sx1 := d1.x.blk
  have ff := aI b41 (aI sx1 e4)
  refine runRp15_0 (x := ?_)
  clear ff
  cases h1 : hasP fI s.invites b
  ·have hmd : madeP s b a = .error 7 := by simp [madeP, hk, hasP_fnd h1]
   have ff := aI b31 (aI sx1 (aI hk h1))
   refine runRp15_1 (x := ?_)
   clear ff
   exact hK _ (.err hmd (f0.trans (fr.trans (Fr.refl _ _).app)))
  obtain ⟨_, _, hf⟩ := low_yes hs.i h1
  have hyf := hy _ hf
  rw [← hyf] at hf
  by_cases h3 : 40 ≤ s.seats.length
  ·have hmd : madeP s b a = .error 9 := by simp [madeP, hk, hf, h3]
   have ff := aI b31 (aI sx1 (aI hk (aI h1 (aI h3 e3))))
   refine runRp15_2 (x := ?_)
   clear ff
   exact hK _ (.err hmd (f0.trans (fr.trans (Fr.refl _ _).app)))
  have hmd : madeP s b a = .ok { s with invites := del fI s.invites b, seats := ins fS s.seats ⟨y.who, y.role, a.version⟩ } := by simp [madeP, hk, hf, h3]
  have ff := aI b31 (aI sx1 (aI hk (aI h1 (aI h3 (aI e0 e3)))))
  refine runRp15_2 (x := ?_)
  clear ff
  refine SpecQ.step (c70 (d1.x.app _) (hs.i' _) (by simp only; omega)) ?_
  rintro _ ⟨κ3, H3, q3, rfl, w3, fr3⟩
  have ff := hk
  refine runRp15_1 (x := ?_)
  clear ff
  exact hK _ (.ok hmd (f0.trans (fr.trans fr3.app)) w3)
 ·have d2 := d0.scr ⟨eInv ⟨ci0, 0#8, ci0⟩, 0, .own⟩
  refine SpecQ.step (c68 d2.x.w hs) ?_
  rintro _ ⟨y, κ', H', q, rfl, hy, w2, fr⟩
  have d3 := d2.next fr w2
  have c10 := (Cel.own κ G (eInv ⟨ci0, 0#8, ci0⟩)).next fr
  have b10 := c10.blk0
  have k10 : κ' G.length = 6 := by rw [fr.old _ (by simp), scr_self]
  obtain ⟨H2, hH2⟩ : ∃ H2, H'.set G.length ⟨eInv y, 0, .own⟩ = H2 := ⟨_, rfl⟩
  have ff := aI b10 hH2
  refine runRp15_0 (x := ?_)
  clear ff
  have n3 := c3.lt
  have n4 := c4.lt
  have n5 := c5.lt
  have n6 := c6.lt
  have n7 := c7.lt
  have d4 := d3.wr k10 (by omega) (by omega) (by omega) (by omega) (by omega) ⟨eInv y, 0, .own⟩
  have c11 := c10.set (eInv y)
  have f4 : Fr κ G κ' (H'.set G.length ⟨eInv y, 0, .own⟩) := (Fr.scr fr (Nat.le_refl _)).wr (Nat.le_refl _) _
  rw [hH2] at d4 c11 f4
  have b31 := d4.c3.blk0
  have sx1 := blk_of d4.x.st
  have b11 := c11.blk0
  cases h1 : hasP fI s.invites b
  ·have hmd : madeP s b a = .error 7 := by simp [madeP, hk, hasP_fnd h1]
   have ff := aI b31 (aI sx1 (aI b11 (aI hk h1)))
   refine runRp15_1 (x := ?_)
   clear ff
   exact hK _ (.err hmd (f0.trans f4))
  obtain ⟨_, _, hf⟩ := low_yes hs.i h1
  have hyf := hy _ hf
  rw [← hyf] at hf
  by_cases h3 : 40 ≤ s.seats.length
  ·have hmd : madeP s b a = .error 9 := by simp [madeP, hk, hf, h3]
   have ff := aI b31 (aI sx1 (aI b11 (aI hk (aI h1 (aI h3 e3)))))
   refine runRp15_3 (x := ?_)
   clear ff
   exact hK _ (.err hmd (f0.trans f4))
  have hmd : madeP s b a = .ok { s with invites := del fI s.invites b, seats := ins fS s.seats ⟨y.who, y.role, a.version⟩ } := by simp [madeP, hk, hf, h3]
  have ff := aI b31 (aI sx1 (aI b11 (aI hk (aI h1 (aI h3 (aI e0 e3))))))
  refine runRp15_3 (x := ?_)
  clear ff
  refine SpecQ.step (c70 d4.x (hs.i' _) (by simp only; omega)) ?_
  rintro _ ⟨κ3, H3, q3, rfl, w3, fr3⟩
  have ff := hk
  refine runRp15_1 (x := ?_)
  clear ff
  exact hK _ (.ok hmd (f0.trans (f4.trans fr3)) w3)
set_option maxHeartbeats 8000000 in
theorem more_14 (d : Mx κ G c xb s b a m vt vp vs vi va vb wt wp a.e env p3 p4 p5 p6 p7) (f0 : Fr κ0 H0 κ G) (hs : Srt s) (ms : mayS s = true) (ok : Okd s b a) (hk : a.kind = 14#8) (hK : ∀ r, DoR κ0 H0 c (madeP s b a) r → K r) : wC Tryz.prog cx80 n80_3 (retW (fun s => (bnd (some (s.env.get 2)) fun v => bnd (some []) fun vs => some (v :: vs))) K) ⟨env, G⟩ := by
 have sx0 := blk_of d.x.st
 have wb0 := blk_of d.x.w.cell
 have wc0 := d.x.w.cells
 have d0 := d
 obtain ⟨x, c3, c4, c5, c6, c7, e0, e3, e4, e5, e6, e7⟩ := d
 have hm := ok.adm (by simp [hk])
 have hme := role_has ms (b := b) (by rw [hm]; decide)
 have b3 := c3.blk
 have b60 := c6.blk0
 have b7 := c7.blk
 have b70 := c7.blk0
 have hl := (may_lens ms).2.2.2
 by_cases hb : a.e = b
 ·have hmd : madeP s b a = .error 195 := by simp [madeP, hk, hm, hb]
  have ff := aI sx0 (aI hk (aI hb (aI b70 (aI e0 e7))))
  refine runRp15_1 (x := ?_)
  clear ff
  exact hK _ (.err hmd f0)
 cases h1 : hasP fB s.bans a.e
 rotate_left
 ·have hmd : madeP s b a = .error 8 := by simp [madeP, hk, hm, hb, h1]
  have ff := aI sx0 (aI hk (aI hb (aI h1 (aI b60 (aI b70 (aI e0 (aI e6 e7)))))))
  refine runRp15_4 (x := ?_)
  clear ff
  exact hK _ (.err hmd f0)
 have ff := aI sx0 (aI hk (aI hb (aI h1 (aI b3 (aI b60 (aI b7 (aI b70 (aI e0 (aI e3 (aI e6 e7))))))))))
 refine runRp15_5 (x := ?_)
 clear ff
 have d2 := d0.scr ⟨eBan ⟨ci0, meOf s b⟩, 0, .own⟩
 refine SpecQ.step (c77 d2.x.w hs) ?_
 rintro _ ⟨y, κ1, H1, q1, rfl, hy, w1, fr1⟩
 have d1 := d2.next fr1 w1
 have c14 := (Cel.own κ G (eBan ⟨ci0, meOf s b⟩)).next fr1
 have k14 : κ1 G.length = 6 := by rw [fr1.old _ (by simp), scr_self]
 have f1 : Fr κ G κ1 H1 := Fr.scr fr1 (Nat.le_refl _)
 have n3 := c3.lt
 have n4 := c4.lt
 have n5 := c5.lt
 have n6 := c6.lt
 have n7 := c7.lt
 cases hS : hasP fS s.seats a.e
 rotate_left
 ·obtain ⟨_, _, hf⟩ := low_yes hs.s hS
  have hyf := hy _ hf
  rw [← hyf] at hf
  have hwho : whoOf s a.e = some y.who := by simp [whoOf, hf]
  obtain ⟨hI, hA, _⟩ := (apart ms a.e).1 hS
  have ff := aI hk hS
  refine runRp15_1 (x := ?_)
  clear ff
  obtain ⟨H2, hH2⟩ : ∃ H2, H1.set G.length ⟨eBan ⟨y.who, meOf s b⟩, 0, .own⟩ = H2 := ⟨_, rfl⟩
  have st14 : ∀ l v, (H1 ++ l).set G.length v = H1.set G.length v ++ l := fun l v => set_appL c14.1 l v
  have b14 := c14.blk
  have ff := aI hk (aI b14 (aI st14 hH2))
  refine runRp15_1 (x := ?_)
  clear ff
  have d3 := d1.wr k14 (by omega) (by omega) (by omega) (by omega) (by omega) ⟨eBan ⟨y.who, meOf s b⟩, 0, .own⟩
  have c14n := c14.set (eBan ⟨y.who, meOf s b⟩)
  have f3 := f1.wr (p := G.length) (Nat.le_refl _) ⟨eBan ⟨y.who, meOf s b⟩, 0, .own⟩
  rw [hH2] at d3 c14n f3
  have b62 := d3.c6.blk
  have b14n := c14n.blk
  by_cases h40 : 40 ≤ s.bans.length
  ·have hmd : madeP s b a = .error 9 := by simp [madeP, hk, hm, hb, h1, hwho, h40]
   have ff := aI hk (aI h40 (aI b62 (aI b14n e6)))
   refine runRp15_6 (x := ?_)
   clear ff
   exact hK _ (.err hmd (f0.trans (f3.trans (Fr.refl _ _).app)))
  have hmd : madeP s b a = .ok { s with seats := del fS s.seats a.e, invites := s.invites, asks := s.asks, bans := ins fB s.bans ⟨y.who, meOf s b⟩ } := by simp [madeP, hk, hm, hb, h1, hwho, h40, del_no hI, del_no hA]
  have ff := aI hk (aI h40 (aI b62 (aI b14n e6)))
  refine runRp15_6 (x := ?_)
  clear ff
  refine SpecQ.step (c114 (x := ⟨y.who, meOf s b⟩) (d3.x.w.app _) (hs.s' _) (by simp only; omega)) ?_
  rintro _ ⟨_, κ9, H9, q9, rfl, w9, fr9⟩
  have ff := hk
  refine runRp15_1 (x := ?_)
  clear ff
  exact hK _ (.ok hmd (f0.trans (f3.trans fr9.app)) w9)
 have b41 := d1.c4.blk
 have b71 := d1.c7.blk
 have ff := aI hk (aI hS (aI b41 (aI b71 (aI e4 e7))))
 refine runRp15_1 (x := ?_)
 clear ff
 refine SpecQ.step (c68 (d1.x.w.app _) (hs.s' _)) ?_
 rintro _ ⟨y2, κ2, H2', q2, rfl, hy2, w2, fr2⟩
 have d12 := d1.next fr2.app w2
 have c142 := c14.next fr2.app
 have k142 : κ2 G.length = 6 := by rw [fr2.app.old _ c14.lt]; exact k14
 have f2 : Fr κ G κ2 H2' := f1.trans fr2.app
 cases hI : hasP fI s.invites a.e
 rotate_left
 ·obtain ⟨_, _, hf⟩ := low_yes hs.i hI
  have hyf := hy2 _ hf
  rw [← hyf] at hf
  have hwho : whoOf s a.e = some y2.who := by simp [whoOf, hasP_fnd hS, hf]
  obtain ⟨hA, _⟩ := (apart ms a.e).2.1 hI
  have ff := aI hk hI
  refine runRp15_1 (x := ?_)
  clear ff
  obtain ⟨H2, hH2⟩ : ∃ H2, H2'.set G.length ⟨eBan ⟨y2.who, meOf s b⟩, 0, .own⟩ = H2 := ⟨_, rfl⟩
  have st14 : ∀ l v, (H2' ++ l).set G.length v = H2'.set G.length v ++ l := fun l v => set_appL c142.1 l v
  have b14 := c142.blk
  have ff := aI hk (aI b14 (aI st14 hH2))
  refine runRp15_1 (x := ?_)
  clear ff
  have d3 := d12.wr k142 (by omega) (by omega) (by omega) (by omega) (by omega) ⟨eBan ⟨y2.who, meOf s b⟩, 0, .own⟩
  have c14n := c142.set (eBan ⟨y2.who, meOf s b⟩)
  have f3 := f2.wr (p := G.length) (Nat.le_refl _) ⟨eBan ⟨y2.who, meOf s b⟩, 0, .own⟩
  rw [hH2] at d3 c14n f3
  have b62 := d3.c6.blk
  have b14n := c14n.blk
  by_cases h40 : 40 ≤ s.bans.length
  ·have hmd : madeP s b a = .error 9 := by simp [madeP, hk, hm, hb, h1, hwho, h40]
   have ff := aI hk (aI h40 (aI b62 (aI b14n e6)))
   refine runRp15_6 (x := ?_)
   clear ff
   exact hK _ (.err hmd (f0.trans (f3.trans (Fr.refl _ _).app)))
  have hmd : madeP s b a = .ok { s with seats := del fS s.seats a.e, invites := del fI s.invites a.e, asks := s.asks, bans := ins fB s.bans ⟨y2.who, meOf s b⟩ } := by simp [madeP, hk, hm, hb, h1, hwho, h40, del_no hA]
  have ff := aI hk (aI h40 (aI b62 (aI b14n e6)))
  refine runRp15_6 (x := ?_)
  clear ff
  refine SpecQ.step (c114 (x := ⟨y2.who, meOf s b⟩) (d3.x.w.app _) ((hs.s' _).i' _) (by simp only; omega)) ?_
  rintro _ ⟨_, κ9, H9, q9, rfl, w9, fr9⟩
  have ff := hk
  refine runRp15_1 (x := ?_)
  clear ff
  exact hK _ (.ok hmd (f0.trans (f3.trans fr9.app)) w9)
 have b52 := d12.c5.blk
 have b72 := d12.c7.blk
 have ff := aI hk (aI hI (aI b52 (aI b72 (aI e5 e7))))
 refine runRp15_1 (x := ?_)
 clear ff
 refine SpecQ.step (c69 (d12.x.w.app _) ((hs.s' _).i' _)) ?_
 rintro _ ⟨y3, κ3, H3', q3, rfl, hy3, w3, fr3⟩
 have d13 := d12.next fr3.app w3
 have c143 := c142.next fr3.app
 have k143 : κ3 G.length = 6 := by rw [fr3.app.old _ c142.lt]; exact k142
 have f4 : Fr κ G κ3 H3' := f2.trans fr3.app
 cases hA : hasP fA s.asks a.e
 ·have hwho : whoOf s a.e = none := by simp [whoOf, hasP_fnd hS, hasP_fnd hI, hasP_fnd hA]
  have hmd : madeP s b a = .error 7 := by simp [madeP, hk, hm, hb, h1, hwho]
  have ff := aI hk hA
  refine runRp15_1 (x := ?_)
  clear ff
  exact hK _ (.err hmd (f0.trans (f4.trans (Fr.refl _ _).app)))
 obtain ⟨_, _, hf⟩ := low_yes hs.a hA
 have hyf := hy3 _ hf
 rw [← hyf] at hf
 have hwho : whoOf s a.e = some y3.who := by simp [whoOf, hasP_fnd hS, hasP_fnd hI, hf]
 have ff := aI hk hA
 refine runRp15_1 (x := ?_)
 clear ff
 obtain ⟨H2, hH2⟩ : ∃ H2, H3'.set G.length ⟨eBan ⟨y3.who, meOf s b⟩, 0, .own⟩ = H2 := ⟨_, rfl⟩
 have st14 : ∀ l v, (H3' ++ l).set G.length v = H3'.set G.length v ++ l := fun l v => set_appL c143.1 l v
 have b14 := c143.blk
 have ff := aI hk (aI b14 (aI st14 hH2))
 refine runRp15_1 (x := ?_)
 clear ff
 have d3 := d13.wr k143 (by omega) (by omega) (by omega) (by omega) (by omega) ⟨eBan ⟨y3.who, meOf s b⟩, 0, .own⟩
 have c14n := c143.set (eBan ⟨y3.who, meOf s b⟩)
 have f3 := f4.wr (p := G.length) (Nat.le_refl _) ⟨eBan ⟨y3.who, meOf s b⟩, 0, .own⟩
 rw [hH2] at d3 c14n f3
 have b62 := d3.c6.blk
 have b14n := c14n.blk
 by_cases h40 : 40 ≤ s.bans.length
 ·have hmd : madeP s b a = .error 9 := by simp [madeP, hk, hm, hb, h1, hwho, h40]
  have ff := aI hk (aI h40 (aI b62 (aI b14n e6)))
  refine runRp15_6 (x := ?_)
  clear ff
  exact hK _ (.err hmd (f0.trans (f3.trans (Fr.refl _ _).app)))
 have hmd : madeP s b a = .ok { s with seats := del fS s.seats a.e, invites := del fI s.invites a.e, asks := del fA s.asks a.e, bans := ins fB s.bans ⟨y3.who, meOf s b⟩ } := by simp [madeP, hk, hm, hb, h1, hwho, h40]
 have ff := aI hk (aI h40 (aI b62 (aI b14n e6)))
 refine runRp15_6 (x := ?_)
 clear ff
 refine SpecQ.step (c114 (x := ⟨y3.who, meOf s b⟩) (d3.x.w.app _) (((hs.s' _).i' _).a' _) (by simp only; omega)) ?_
 rintro _ ⟨_, κ9, H9, q9, rfl, w9, fr9⟩
 have ff := hk
 refine runRp15_1 (x := ?_)
 clear ff
 exact hK _ (.ok hmd (f0.trans (f3.trans fr9.app)) w9)
end
end Go.Vab

/-
  A step is done: all kinds, joined.
-/
namespace Go.Vab
open Go Go.Proofs
theorem runRp16_0 {G X : Prop} (f : Hd X → G := by
 intro xX
 repeat' (first | refine stp (x := ?_) | (with_reducible refine bothP_i ?_ ?_) | (simp (decide := true) only [sn33, snB, if_true, if_false]) | (with_reducible refine n33_12_w _ _ _ ?_) | (with_reducible refine n33_51_w _ _ _ ?_) | (with_reducible refine n33_67_w _ _ _ ?_) | (with_reducible refine n33_77_w _ _ _ ?_) | (with_reducible refine n33_92_w _ _ _ ?_) | (with_reducible refine n33_101_w _ _ _ ?_) | (with_reducible refine n33_2_w _ _ _ ?_) | (with_reducible refine n33_1_w _ _ _ ?_))
 exact xX.get) (x : X) : G := f ⟨x⟩
section
variable {κ : Nat → Nat} {H : Heap} {c xb : Nat} {s : Stt} {b : Pt} {a : Actn} {m : BitVec 8} {vt vp vs vi va vb wt wp : AV}
theorem c80 (x : Sx κ H c xb s b a m vt vp vs vi va vb wt wp) (hs : Srt s) (ms : mayS s = true) (ok : Okd s b a) (hmm : m = roleOf s b)
  (hk : a.kind = 4#8 ∨ a.kind = 6#8 ∨ a.kind = 7#8 ∨ a.kind = 8#8 ∨ a.kind = 11#8 ∨ a.kind = 12#8 ∨ a.kind = 13#8 ∨ a.kind = 14#8 ∨ a.kind = 15#8 ∨ a.kind = 16#8 ∨ a.kind = 17#8 ∨ a.kind = 18#8) :
  SpecQ Tryz.prog 80 [.ptr xb 0 [] tLstep] H (DoR κ H c (madeP s b a)) := by
 refine q80 fun env g0 => ?_
 refine more_start x g0 fun κ' env' G p3 p4 p5 p6 p7 d f0 h6 hp7 h57 => ?_
 rcases hk with hk | hk | hk | hk | hk | hk | hk | hk | hk | hk | hk | hk
 ·exact more_4 d f0 hs ms ok hmm hk fun r h => h
 ·exact more_6 d f0 hs ms ok hmm hk fun r h => h
 ·exact more_7 d f0 hs ms ok hk fun r h => h
 ·exact more_8 d f0 hs ms ok hk fun r h => h
 ·exact more_11 d f0 hs ms ok h6 hp7 h57 hk fun r h => h
 ·exact more_12 d f0 hs ms ok hk fun r h => h
 ·exact more_13 d f0 hs ms ok hk fun r h => h
 ·exact more_14 d f0 hs ms ok hk fun r h => h
 ·exact more_15 d f0 hs ms ok hk fun r h => h
 ·exact more_16 d f0 hs ms ok hk fun r h => h
 ·exact more_17 d f0 hs ms ok hk fun r h => h
 ·exact more_18 d f0 hs ms ok hk fun r h => h
theorem DoR.nat {κ : Nat → Nat} {H : Heap} {c : Nat} {x : Except Nat Stt} {r : AV × Heap} (h : DoR κ H c x r) : ∃ k, r.1 = nat k ∧ (x = .error k ∨ ∃ t, x = .ok t ∧ k = 0) := by
 obtain ⟨κ', H', _, h⟩ := h
 cases x with
 | error k => exact ⟨k, by rw [h], .inl rfl⟩
 | ok t => exact ⟨0, by rw [h.1], .inr ⟨t, rfl, rfl⟩⟩
set_option maxHeartbeats 1000000 in
theorem c33 (x : Sx κ H c xb s b a m vt vp vs vi va vb wt wp) (hs : Srt s) (ms : mayS s = true) (ha : mayA a = true) (ok : Okd s b a) (hmm : m = roleOf s b) : SpecQ Tryz.prog 33 [.ptr xb 0 [] tLstep] H (DoR κ H c (madeP s b a)) := by
 refine q33 fun env g0 => ?_
 refine do_start x g0 fun env' u p3 p4 p5 p6 p7 d => ?_
 rcases mayA_kind ha with hk | hk | hk | hk | hk | hk | hk | hk | hk | hk | hk | hk | hk | hk | hk | hk | hk | hk
 ·exact do_1 d hs ms ok hk fun r h => h.app
 ·exact do_2 d hs ok hk fun r h => h.app
 ·exact do_3 d hs ms ok hk fun r h => h.app
 ·have sx0 := blk_of d.x.st
  have e0 := d.e0
  have ff := aI sx0 (aI hk e0)
  refine runRp16_0 (x := ?_)
  clear ff
  refine SpecQ.step (c80 d.x hs ms ok hmm (by simp [hk])) ?_
  rintro ⟨v, H'⟩ hr
  obtain ⟨k, hv, _⟩ := hr.nat
  subst hv
  have ff := hk
  refine runRp16_0 (x := ?_)
  clear ff
  exact hr.app
 ·exact do_5 d hs ms ok hk fun r h => h.app
 ·have sx0 := blk_of d.x.st
  have e0 := d.e0
  have ff := aI sx0 (aI hk e0)
  refine runRp16_0 (x := ?_)
  clear ff
  refine SpecQ.step (c80 d.x hs ms ok hmm (by simp [hk])) ?_
  rintro ⟨v, H'⟩ hr
  obtain ⟨k, hv, _⟩ := hr.nat
  subst hv
  have ff := hk
  refine runRp16_0 (x := ?_)
  clear ff
  exact hr.app
 ·have sx0 := blk_of d.x.st
  have e0 := d.e0
  have ff := aI sx0 (aI hk e0)
  refine runRp16_0 (x := ?_)
  clear ff
  refine SpecQ.step (c80 d.x hs ms ok hmm (by simp [hk])) ?_
  rintro ⟨v, H'⟩ hr
  obtain ⟨k, hv, _⟩ := hr.nat
  subst hv
  have ff := hk
  refine runRp16_0 (x := ?_)
  clear ff
  exact hr.app
 ·have sx0 := blk_of d.x.st
  have e0 := d.e0
  have ff := aI sx0 (aI hk e0)
  refine runRp16_0 (x := ?_)
  clear ff
  refine SpecQ.step (c80 d.x hs ms ok hmm (by simp [hk])) ?_
  rintro ⟨v, H'⟩ hr
  obtain ⟨k, hv, _⟩ := hr.nat
  subst hv
  have ff := hk
  refine runRp16_0 (x := ?_)
  clear ff
  exact hr.app
 ·exact do_9 d hs ms ok hk fun r h => h.app
 ·exact do_10 d hs ms ok hk fun r h => h.app
 ·have sx0 := blk_of d.x.st
  have e0 := d.e0
  have ff := aI sx0 (aI hk e0)
  refine runRp16_0 (x := ?_)
  clear ff
  refine SpecQ.step (c80 d.x hs ms ok hmm (by simp [hk])) ?_
  rintro ⟨v, H'⟩ hr
  obtain ⟨k, hv, _⟩ := hr.nat
  subst hv
  have ff := hk
  refine runRp16_0 (x := ?_)
  clear ff
  exact hr.app
 ·have sx0 := blk_of d.x.st
  have e0 := d.e0
  have ff := aI sx0 (aI hk e0)
  refine runRp16_0 (x := ?_)
  clear ff
  refine SpecQ.step (c80 d.x hs ms ok hmm (by simp [hk])) ?_
  rintro ⟨v, H'⟩ hr
  obtain ⟨k, hv, _⟩ := hr.nat
  subst hv
  have ff := hk
  refine runRp16_0 (x := ?_)
  clear ff
  exact hr.app
 ·have sx0 := blk_of d.x.st
  have e0 := d.e0
  have ff := aI sx0 (aI hk e0)
  refine runRp16_0 (x := ?_)
  clear ff
  refine SpecQ.step (c80 d.x hs ms ok hmm (by simp [hk])) ?_
  rintro ⟨v, H'⟩ hr
  obtain ⟨k, hv, _⟩ := hr.nat
  subst hv
  have ff := hk
  refine runRp16_0 (x := ?_)
  clear ff
  exact hr.app
 ·have sx0 := blk_of d.x.st
  have e0 := d.e0
  have ff := aI sx0 (aI hk e0)
  refine runRp16_0 (x := ?_)
  clear ff
  refine SpecQ.step (c80 d.x hs ms ok hmm (by simp [hk])) ?_
  rintro ⟨v, H'⟩ hr
  obtain ⟨k, hv, _⟩ := hr.nat
  subst hv
  have ff := hk
  refine runRp16_0 (x := ?_)
  clear ff
  exact hr.app
 ·have sx0 := blk_of d.x.st
  have e0 := d.e0
  have ff := aI sx0 (aI hk e0)
  refine runRp16_0 (x := ?_)
  clear ff
  refine SpecQ.step (c80 d.x hs ms ok hmm (by simp [hk])) ?_
  rintro ⟨v, H'⟩ hr
  obtain ⟨k, hv, _⟩ := hr.nat
  subst hv
  have ff := hk
  refine runRp16_0 (x := ?_)
  clear ff
  exact hr.app
 ·have sx0 := blk_of d.x.st
  have e0 := d.e0
  have ff := aI sx0 (aI hk e0)
  refine runRp16_0 (x := ?_)
  clear ff
  refine SpecQ.step (c80 d.x hs ms ok hmm (by simp [hk])) ?_
  rintro ⟨v, H'⟩ hr
  obtain ⟨k, hv, _⟩ := hr.nat
  subst hv
  have ff := hk
  refine runRp16_0 (x := ?_)
  clear ff
  exact hr.app
 ·have sx0 := blk_of d.x.st
  have e0 := d.e0
  have ff := aI sx0 (aI hk e0)
  refine runRp16_0 (x := ?_)
  clear ff
  refine SpecQ.step (c80 d.x hs ms ok hmm (by simp [hk])) ?_
  rintro ⟨v, H'⟩ hr
  obtain ⟨k, hv, _⟩ := hr.nat
  subst hv
  have ff := hk
  refine runRp16_0 (x := ?_)
  clear ff
  exact hr.app
 ·have sx0 := blk_of d.x.st
  have e0 := d.e0
  have ff := aI sx0 (aI hk e0)
  refine runRp16_0 (x := ?_)
  clear ff
  refine SpecQ.step (c80 d.x hs ms ok hmm (by simp [hk])) ?_
  rintro ⟨v, H'⟩ hr
  obtain ⟨k, hv, _⟩ := hr.nat
  subst hv
  have ff := hk
  refine runRp16_0 (x := ?_)
  clear ff
  exact hr.app
end
end Go.Vab

/- How the code of a function is read. Printed by wip/tools/gen2.py and gen3.py (own work). -/
namespace Go.Vab
open Go Go.Proofs
noncomputable section
def cx17 : Ctx := ⟨fun _ _ _ => none,TT,22,[7,12,13,14,15,16,17,19,20,21]⟩
def n17_0 := bodyOf Tryz.f17
def n17_1 := cR n17_0
def n17_2 := cL n17_1
def n17_3 := cR n17_2
def n17_4 := cB n17_3
def n17_5 := cB n17_4
def n17_6 := cR n17_5
def n17_7 := cL n17_6
def n17_8 := cL n17_7
def n17_9 := cR n17_7
def n17_10 := cR n17_6
def n17_11 := cL n17_10
def n17_12 := cB n17_11
def n17_13 := cR n17_12
def n17_14 := cR n17_13
def n17_15 := cL n17_14
def n17_16 := cR n17_15
def n17_17 := cR n17_14
def n17_18 := cR n17_10
def n17_19 := cR n17_1
def n17_20 := cR n17_19
def q17 := zQ2 cx17 17 Tryz.f17 n17_0 fun s => (bnd (some (s.env.get 4)) fun v => bnd (some []) fun vs => some (v :: vs))
set_option maxRecDepth 20000
set_option maxHeartbeats 4000000
def sn17 := zAll cx17 [[n17_8],[n17_9],[n17_8,n17_9,n17_7],[n17_16],[n17_16,n17_15],[n17_17],[n17_15,n17_17,n17_14],[n17_14,n17_13],[n17_13,n17_12],[n17_12,n17_11],[n17_18],[n17_11,n17_18,n17_10],[n17_7,n17_10,n17_6],[n17_6,n17_5],[n17_5,n17_4],[n17_4,n17_3],[n17_3,n17_2],[n17_20],[n17_20,n17_19],[n17_2,n17_19,n17_1],[n17_1,n17_0]]
end
end Go.Vab

/-
  The program's look at a state: somebody's role, walked.
-/
namespace Go.Vab
open Go Go.Proofs
theorem runRp1_0 {G X : Prop} (f : Hd X → G := by
 intro xX
 repeat' (first | refine stp (x := ?_) | (simp (decide := true) only [sn17, snB, if_true, if_false]))
 exact xX.get) (x : X) : G := f ⟨x⟩
section
variable {X : Type} (f : X → Pt)
theorem fnd_yes {l : List X} {e : Pt} {i : Nat} (hi : i < l.length) (hq : f l[i] = e) (hne : ∀ j (hj : j < l.length), j < i → f l[j] ≠ e) : fnd f l e = some l[i] := by
 unfold fnd
 rw [List.find?_eq_some_iff_getElem]
 exact ⟨by simp [hq], i, hi, rfl, fun j hj => by simp [hne j (by omega) hj]⟩
theorem fnd_no {l : List X} {e : Pt} (hne : ∀ j (hj : j < l.length), f l[j] ≠ e) : fnd f l e = none := by
 unfold fnd
 rw [List.find?_eq_none]
 intro x hx
 obtain ⟨j, hj, rfl⟩ := List.mem_iff_getElem.1 hx
 simp [hne j hj]
end
theorem c17 {h : Heap} {s : Stt} {vt vp vs vi va vb : AV} {e : Pt} (ra : StR h s vt vp vs vi va vb) : SpecQ Tryz.prog 17 [eSt s vt vp vs vi va vb, pt e] h fun r => r = (u8 (roleOf s e), h) := by
 have ta := ra.cells
 have lx := ra.fs.len
 have bx := ra.fs.bound
 rw [List.length_map] at lx bx
 refine SpecQ.drop1 rfl (q17 fun env g0 g1 => ?_)
 have ff := aI g0 (aI g1 (aI ta lx))
 refine runRp1_0 (x := ?_)
 clear ff
 refine loop_up s.seats.length (fun i st => ∃ env' t, st = ⟨env', h ++ ⟨eSt s vt vp vs vi va vb, 0, .own⟩ :: ⟨pt e, 0, .own⟩ :: t⟩ ∧ env'.get 2 = .ptr h.length 0 [] tState ∧ env'.get 3 = .ptr (h.length + 1) 0 [] (.arr 32 (.int .u8)) ∧ env'.get 8 = vs ∧ env'.get 9 = nat s.seats.length ∧ env'.get 10 = nat i ∧ ∀ j (hj : j < s.seats.length), j < i → fS s.seats[j] ≠ e) ?_ ?_ ⟨_, [], rfl, by simp, by simp, by simp, by simp, by simp, fun j _ hj => absurd hj (by omega)⟩
 ·rintro i st hi ⟨env', t, rfl, e2, e3, e8, e9, e10, hne⟩
  obtain ⟨pb, pv, pp, bb, p1, p2, p3, p4⟩ := ra.fs.idxE hi
  by_cases hq : s.seats[i].who.e = e
  ·have ff := aI e2 (aI e3 (aI e8 (aI e9 (aI e10 (aI ta (aI lx (aI hi (aI p1 (aI p2 (aI p3 (aI p4 hq)))))))))))
   refine runRp1_0 (x := ?_)
   clear ff
   refine .inr ⟨by simp, ?_⟩
   have ff := e10
   refine runRp1_0 (x := ?_)
   clear ff
   exact ⟨_, (by simp only [roleOf, fnd_yes fS hi hq hne]; rfl)⟩
  ·have ff := aI e2 (aI e3 (aI e8 (aI e9 (aI e10 (aI ta (aI lx (aI hi (aI p1 (aI p2 (aI p3 (aI p4 hq)))))))))))
   refine runRp1_0 (x := ?_)
   clear ff
   refine .inl ⟨by simp, _, _, rfl, by simp [e2], by simp [e3], by simp [e8], by simp [e9], by simp, fun j hj hji => ?_⟩
   by_cases hji' : j = i
   ·subst hji'; exact hq
   ·exact hne j hj (by omega)
 ·rintro st ⟨env', t, rfl, e2, e3, e8, e9, e10, hne⟩
  have ff := aI e2 (aI e8 (aI e9 (aI e10 (aI lx ta))))
  refine runRp1_0 (x := ?_)
  clear ff
  refine ⟨by simp, ?_⟩
  have ff := e2
  refine runRp1_0 (x := ?_)
  clear ff
  exact ⟨_, (by simp only [roleOf, fnd_no fS fun j hj => hne j hj hj]; rfl)⟩
end Go.Vab

/- How the code of a function is read. Printed by wip/tools/gen2.py and gen3.py (own work). -/
namespace Go.Vab
open Go Go.Proofs
noncomputable section
def cx59 : Ctx := ⟨fun _ _ _ => none,TT,8,[3,5,6,7]⟩
def n59_0 := bodyOf Tryz.f59
def n59_1 := cR n59_0
def n59_2 := cL n59_1
def n59_3 := cR n59_2
def n59_4 := cL n59_3
def n59_5 := cR n59_4
def n59_6 := cR n59_3
def n59_7 := cR n59_1
def n59_8 := cR n59_7
def q59 := zQ1 cx59 59 Tryz.f59 n59_0 fun s => (bnd (some (s.env.get 2)) fun v => bnd (some []) fun vs => some (v :: vs))
set_option maxRecDepth 20000
set_option maxHeartbeats 4000000
def sn59 := zAll cx59 [[n59_5],[n59_5,n59_4],[n59_6],[n59_4,n59_6,n59_3],[n59_3,n59_2],[n59_8],[n59_8,n59_7],[n59_2,n59_7,n59_1],[n59_1,n59_0]]
end
end Go.Vab

/- How the code of a function is read. Printed by wip/tools/gen2.py and gen3.py (own work). -/
namespace Go.Vab
open Go Go.Proofs
noncomputable section
def cx60 : Ctx := ⟨fun _ _ _ => none,TT,8,[3,5,6,7]⟩
def n60_0 := bodyOf Tryz.f60
def n60_1 := cR n60_0
def n60_2 := cL n60_1
def n60_3 := cR n60_2
def n60_4 := cL n60_3
def n60_5 := cR n60_4
def n60_6 := cR n60_3
def n60_7 := cR n60_1
def n60_8 := cR n60_7
def q60 := zQ1 cx60 60 Tryz.f60 n60_0 fun s => (bnd (some (s.env.get 2)) fun v => bnd (some []) fun vs => some (v :: vs))
set_option maxRecDepth 20000
set_option maxHeartbeats 4000000
def sn60 := zAll cx60 [[n60_5],[n60_5,n60_4],[n60_6],[n60_4,n60_6,n60_3],[n60_3,n60_2],[n60_8],[n60_8,n60_7],[n60_2,n60_7,n60_1],[n60_1,n60_0]]
end
end Go.Vab

/- How the code of a function is read. Printed by wip/tools/gen2.py and gen3.py (own work). -/
namespace Go.Vab
open Go Go.Proofs
noncomputable section
def cx61 : Ctx := ⟨fun _ _ _ => none,TT,8,[3,5,6,7]⟩
def n61_0 := bodyOf Tryz.f61
def n61_1 := cR n61_0
def n61_2 := cL n61_1
def n61_3 := cR n61_2
def n61_4 := cL n61_3
def n61_5 := cR n61_4
def n61_6 := cR n61_3
def n61_7 := cR n61_1
def n61_8 := cR n61_7
def q61 := zQ1 cx61 61 Tryz.f61 n61_0 fun s => (bnd (some (s.env.get 2)) fun v => bnd (some []) fun vs => some (v :: vs))
set_option maxRecDepth 20000
set_option maxHeartbeats 4000000
def sn61 := zAll cx61 [[n61_5],[n61_5,n61_4],[n61_6],[n61_4,n61_6,n61_3],[n61_3,n61_2],[n61_8],[n61_8,n61_7],[n61_2,n61_7,n61_1],[n61_1,n61_0]]
end
end Go.Vab

/- How the code of a function is read. Printed by wip/tools/gen2.py and gen3.py (own work). -/
namespace Go.Vab
open Go Go.Proofs
noncomputable section
def cx62 : Ctx := ⟨fun _ _ _ => none,TT,8,[3,5,6,7]⟩
def n62_0 := bodyOf Tryz.f62
def n62_1 := cR n62_0
def n62_2 := cL n62_1
def n62_3 := cR n62_2
def n62_4 := cL n62_3
def n62_5 := cR n62_4
def n62_6 := cR n62_3
def n62_7 := cR n62_1
def n62_8 := cR n62_7
def q62 := zQ1 cx62 62 Tryz.f62 n62_0 fun s => (bnd (some (s.env.get 2)) fun v => bnd (some []) fun vs => some (v :: vs))
set_option maxRecDepth 20000
set_option maxHeartbeats 4000000
def sn62 := zAll cx62 [[n62_5],[n62_5,n62_4],[n62_6],[n62_4,n62_6,n62_3],[n62_3,n62_2],[n62_8],[n62_8,n62_7],[n62_2,n62_7,n62_1],[n62_1,n62_0]]
end
end Go.Vab

/- How the code of a function is read. Printed by wip/tools/gen2.py and gen3.py (own work). -/
namespace Go.Vab
open Go Go.Proofs
noncomputable section
def cx31 : Ctx := ⟨fun _ _ _ => none,TT,8,[3,5,6,7]⟩
def n31_0 := bodyOf Tryz.f31
def n31_1 := cR n31_0
def n31_2 := cL n31_1
def n31_3 := cR n31_2
def n31_4 := cL n31_3
def n31_5 := cR n31_4
def n31_6 := cR n31_3
def n31_7 := cR n31_1
def n31_8 := cR n31_7
def q31 := zQ1 cx31 31 Tryz.f31 n31_0 fun s => (bnd (some (s.env.get 2)) fun v => bnd (some []) fun vs => some (v :: vs))
set_option maxRecDepth 20000
set_option maxHeartbeats 4000000
def sn31 := zAll cx31 [[n31_5],[n31_5,n31_4],[n31_6],[n31_4,n31_6,n31_3],[n31_3,n31_2],[n31_8],[n31_8,n31_7],[n31_2,n31_7,n31_1],[n31_1,n31_0]]
end
end Go.Vab

/- How the code of a function is read. Printed by wip/tools/gen2.py and gen3.py (own work). -/
namespace Go.Vab
open Go Go.Proofs
noncomputable section
def cx30 : Ctx := ⟨fun _ _ _ => none,TT,28,[3,4,5,6,7,8,9,10,11,12,13,14,15,16,17,18,19,20,21,22,23,24,25,26,27]⟩
def n30_0 := bodyOf Tryz.f30
def n30_1 := cR n30_0
def n30_2 := cR n30_1
def n30_3 := cR n30_2
def n30_4 := cR n30_3
def q30 := zQ1 cx30 30 Tryz.f30 n30_0 fun s => (bnd (mLoad tState (s.env.get 2) s.heap) fun v => bnd (some []) fun vs => some (v :: vs))
set_option maxRecDepth 20000
set_option maxHeartbeats 4000000
def n30_2_w := zDr cx30 [n30_3,n30_2] [2,5,8,11,13,15,17,19] [0,1,3,0,8,31,0,64,255,0,512,2047,1759,8191,16383,32767,65535,131071,262143,524287] [0,1,3,4,6,7,9,10] (.o 2 [12] [4,7,10] (.o 5 [] [7,10] (.o 8 [] [10] (.o 11 [] [] (.o 13 [14] [] (.o 15 [16] [] (.o 17 [18] [] (.o 19 [] [] .f))))))))
def n30_1_w := zDr cx30 [n30_2,n30_1] [2,5,7,9] [0,1,3,0,8,31,31,127,255,511] [0,1,3,4] (.o 2 [6] [4] (.o 5 [] [] (.o 7 [8] [] (.o 9 [] [] .f))))
def sn30 := zAll cx30 [[n30_4],[n30_4,n30_3],[n30_1,n30_0]]
end
end Go.Vab

/-
  Clones; a state in memory of its own; walked.
-/
namespace Go.Vab
open Go Go.Proofs
theorem runRp17_0 {G X : Prop} (f : Hd X → G := by
 intro xX
 repeat' (first | refine stp (x := ?_) | (simp (decide := true) only [sn59, snB, if_true, if_false]))
 exact xX.get) (x : X) : G := f ⟨x⟩
theorem runRp17_1 {G X : Prop} (f : Hd X → G := by
 intro xX
 repeat' (first | refine stp (x := ?_) | (simp (decide := true) only [sn60, snB, if_true, if_false]))
 exact xX.get) (x : X) : G := f ⟨x⟩
theorem runRp17_2 {G X : Prop} (f : Hd X → G := by
 intro xX
 repeat' (first | refine stp (x := ?_) | (simp (decide := true) only [sn61, snB, if_true, if_false]))
 exact xX.get) (x : X) : G := f ⟨x⟩
theorem runRp17_3 {G X : Prop} (f : Hd X → G := by
 intro xX
 repeat' (first | refine stp (x := ?_) | (simp (decide := true) only [sn62, snB, if_true, if_false]))
 exact xX.get) (x : X) : G := f ⟨x⟩
theorem runRp17_4 {G X : Prop} (f : Hd X → G := by
 intro xX
 repeat' (first | refine stp (x := ?_) | (simp (decide := true) only [sn31, snB, if_true, if_false]))
 exact xX.get) (x : X) : G := f ⟨x⟩
theorem runRp17_5 {G X : Prop} (f : Hd X → G := by
 intro xX
 repeat' (first | refine stp (x := ?_) | (simp (decide := true) only [sn30, snB, if_true, if_false]) | (with_reducible refine n30_2_w _ _ _ ?_) | (with_reducible refine n30_1_w _ _ _ ?_))
 exact xX.get) (x : X) : G := f ⟨x⟩
theorem slice_or {t : Ty} {h : Heap} {x : AV} {vs : List AV} (hx : Row t h x vs) : x = .nilslice ∨ (mBinS .eql x .nilslice = some (.bool false)) := by
 have h2 := hx.2.1
 cases x with
 | nilslice => exact .inl rfl
 | slice i ver path t' off len cap => exact .inr rfl
 | _ => exact h2.elim
theorem bslice_or {h : Heap} {x : AV} {l : Bs} (hx : BytL h x l) : (x = .nilslice ∧ l = []) ∨ (mBinS .eql x .nilslice = some (.bool false)) := by
 have h2 := hx.1.2
 cases x with
 | nilslice => exact .inl ⟨rfl, List.eq_nil_of_length_eq_zero h2⟩
 | slice i ver path t' off len cap => exact .inr rfl
 | _ => unfold slOk at h2; simp at h2
theorem c59 {κ : Nat → Nat} {k : Nat} {H : Heap} {x : AV} {l : List Seat} (hx : Row tSeat H x (l.map eSeat)) (hl : l.length ≤ 1000) (top : ∀ i, H.length ≤ i → κ i = 0) : SpecQ Tryz.prog 59 [x] H fun r => ∃ x' H' κ', r = (x', H') ∧ KRow κ' k tSeat eSeat H' x' l ∧ Chg κ k H κ' H' := by
 refine q59 fun env g0 => ?_
 rcases slice_or hx with rfl | hn
 ·have hl0 : l = [] := by have := hx.2.1; simp only [rowOk, List.length_map] at this; exact List.eq_nil_of_length_eq_zero this
  subst hl0
  have ff := g0
  refine runRp17_0 (x := ?_)
  clear ff
  refine ⟨_, H, κ, rfl, ⟨by simp, .inl ⟨rfl, hx, rfl, fun b hb => by cases hb⟩⟩, Nat.le_refl _, fun _ _ => rfl, fun _ _ _ => rfl, fun h => h⟩
 ·have ff := aI g0 hn
  refine runRp17_0 (x := ?_)
  clear ff
  refine clone_k (k := k) (E := eSeat) (t := tSeat) (z := (⟨ci0, 0#8, 0#32⟩ : Seat)) (fun _ => rfl) top (hx.app _).1 hl ?_ fun x' H' κ' w1 w2 => ?_
  ·decide
  have ff := g0
  refine runRp17_0 (x := ?_)
  clear ff
  exact ⟨x', H', κ', rfl, w1, w2⟩
theorem c60 {κ : Nat → Nat} {k : Nat} {H : Heap} {x : AV} {l : List Inv} (hx : Row tInvite H x (l.map eInv)) (hl : l.length ≤ 1000) (top : ∀ i, H.length ≤ i → κ i = 0) : SpecQ Tryz.prog 60 [x] H fun r => ∃ x' H' κ', r = (x', H') ∧ KRow κ' k tInvite eInv H' x' l ∧ Chg κ k H κ' H' := by
 refine q60 fun env g0 => ?_
 rcases slice_or hx with rfl | hn
 ·have hl0 : l = [] := by have := hx.2.1; simp only [rowOk, List.length_map] at this; exact List.eq_nil_of_length_eq_zero this
  subst hl0
  have ff := g0
  refine runRp17_1 (x := ?_)
  clear ff
  refine ⟨_, H, κ, rfl, ⟨by simp, .inl ⟨rfl, hx, rfl, fun b hb => by cases hb⟩⟩, Nat.le_refl _, fun _ _ => rfl, fun _ _ _ => rfl, fun h => h⟩
 ·have ff := aI g0 hn
  refine runRp17_1 (x := ?_)
  clear ff
  refine clone_k (k := k) (E := eInv) (t := tInvite) (z := (⟨ci0, 0#8, ci0⟩ : Inv)) (fun _ => rfl) top (hx.app _).1 hl ?_ fun x' H' κ' w1 w2 => ?_
  ·decide
  have ff := g0
  refine runRp17_1 (x := ?_)
  clear ff
  exact ⟨x', H', κ', rfl, w1, w2⟩
theorem c61 {κ : Nat → Nat} {k : Nat} {H : Heap} {x : AV} {l : List Ask} (hx : Row tAsk H x (l.map eAsk)) (hl : l.length ≤ 1000) (top : ∀ i, H.length ≤ i → κ i = 0) : SpecQ Tryz.prog 61 [x] H fun r => ∃ x' H' κ', r = (x', H') ∧ KRow κ' k tAsk eAsk H' x' l ∧ Chg κ k H κ' H' := by
 refine q61 fun env g0 => ?_
 rcases slice_or hx with rfl | hn
 ·have hl0 : l = [] := by have := hx.2.1; simp only [rowOk, List.length_map] at this; exact List.eq_nil_of_length_eq_zero this
  subst hl0
  have ff := g0
  refine runRp17_2 (x := ?_)
  clear ff
  refine ⟨_, H, κ, rfl, ⟨by simp, .inl ⟨rfl, hx, rfl, fun b hb => by cases hb⟩⟩, Nat.le_refl _, fun _ _ => rfl, fun _ _ _ => rfl, fun h => h⟩
 ·have ff := aI g0 hn
  refine runRp17_2 (x := ?_)
  clear ff
  refine clone_k (k := k) (E := eAsk) (t := tAsk) (z := (⟨ci0, 0#32⟩ : Ask)) (fun _ => rfl) top (hx.app _).1 hl ?_ fun x' H' κ' w1 w2 => ?_
  ·decide
  have ff := g0
  refine runRp17_2 (x := ?_)
  clear ff
  exact ⟨x', H', κ', rfl, w1, w2⟩
theorem c62 {κ : Nat → Nat} {k : Nat} {H : Heap} {x : AV} {l : List Ban} (hx : Row tBan H x (l.map eBan)) (hl : l.length ≤ 1000) (top : ∀ i, H.length ≤ i → κ i = 0) : SpecQ Tryz.prog 62 [x] H fun r => ∃ x' H' κ', r = (x', H') ∧ KRow κ' k tBan eBan H' x' l ∧ Chg κ k H κ' H' := by
 refine q62 fun env g0 => ?_
 rcases slice_or hx with rfl | hn
 ·have hl0 : l = [] := by have := hx.2.1; simp only [rowOk, List.length_map] at this; exact List.eq_nil_of_length_eq_zero this
  subst hl0
  have ff := g0
  refine runRp17_3 (x := ?_)
  clear ff
  refine ⟨_, H, κ, rfl, ⟨by simp, .inl ⟨rfl, hx, rfl, fun b hb => by cases hb⟩⟩, Nat.le_refl _, fun _ _ => rfl, fun _ _ _ => rfl, fun h => h⟩
 ·have ff := aI g0 hn
  refine runRp17_3 (x := ?_)
  clear ff
  refine clone_k (k := k) (E := eBan) (t := tBan) (z := (⟨ci0, ci0⟩ : Ban)) (fun _ => rfl) top (hx.app _).1 hl ?_ fun x' H' κ' w1 w2 => ?_
  ·decide
  have ff := g0
  refine runRp17_3 (x := ?_)
  clear ff
  exact ⟨x', H', κ', rfl, w1, w2⟩
theorem c31 {H : Heap} {x : AV} {l : Bs} (hx : BytL H x l) : SpecQ Tryz.prog 31 [x] H fun r => ∃ y t, r = (y, H ++ t) ∧ BytL (H ++ t) y l ∧ ∀ b, rb y = some b → H.length ≤ b := by
 refine q31 fun env g0 => ?_
 rcases bslice_or hx with ⟨rfl, rfl⟩ | hn
 ·have ff := g0
  refine runRp17_4 (x := ?_)
  clear ff
  exact ⟨_, [], by simp [oneOrTuple], BytL.nil _, fun b hb => by cases hb⟩
 ·have ff := aI g0 hn
  refine runRp17_4 (x := ?_)
  clear ff
  refine copyB0 (by simp [mElems_slc]) (hx.app _) (Nat.le_refl _) fun y e f => ?_
  have ff := g0
  refine runRp17_4 (x := ?_)
  clear ff
  exact ⟨y, _, rfl, f.at_ rfl, f.rb_ge⟩
set_option maxHeartbeats 4000000 in
theorem c30 {κ : Nat → Nat} {H : Heap} {s : Stt} {vt vp vs vi va vb : AV} (ra : StR H s vt vp vs vi va vb) (top : ∀ i, H.length ≤ i → κ i = 0) (hz : ∀ i, i < H.length → κ i = 0 ∨ 6 ≤ κ i) (l1 : s.seats.length ≤ 1000) (l2 : s.invites.length ≤ 1000) (l3 : s.asks.length ≤ 1000) (l4 : s.bans.length ≤ 1000) :
  SpecQ Tryz.prog 30 [eSt s vt vp vs vi va vb] H fun r => ∃ κ' H' ut up us ui ua ub, r = (eSt s ut up us ui ua ub, H') ∧ Wp κ' H' s ut up us ui ua ub ∧ Fr κ H κ' H' := by
 have ta := ra.cells
 have lt := ra.rb_lt
 refine q30 fun env g0 => ?_
 have ff := aI g0 ta
 refine runRp17_5 (x := ?_)
 clear ff
 refine SpecQ.step (c31 (ra.ft.app _)) ?_
 rintro _ ⟨ut, t1, rfl, f1, r1⟩
 have y1 := f1.cell
 simp only [List.append_assoc, List.cons_append, List.nil_append] at f1 ⊢
 have ff := aI g0 (aI ta y1)
 refine runRp17_5 (x := ?_)
 clear ff
 refine SpecQ.step (c31 (ra.fp.app _)) ?_
 rintro _ ⟨up, t2, rfl, f2, r2⟩
 have y2 := f2.cell
 simp only [List.append_assoc, List.cons_append, List.nil_append] at f2 ⊢
 have ff := aI g0 (aI ta (aI y1 y2))
 refine runRp17_5 (x := ?_)
 clear ff
 obtain ⟨G, hG⟩ : ∃ G, G = H ++ ⟨eStH s.version s.key s.acc ut up vs vi va vb, 0, .own⟩ :: ⟨eStH 0#32 ci0 acc0 .nilslice .nilslice .nilslice .nilslice .nilslice .nilslice, 0, .own⟩ :: (t1 ++ t2) := ⟨_, rfl⟩
 rw [← hG]
 have gl : G.length = H.length + (2 + (t1 ++ t2).length) := by rw [hG]; simp; omega
 obtain ⟨κ1, hκ⟩ : ∃ κ1 : Nat → Nat, κ1 = fun i => if i = H.length ∨ i = H.length + 1 then 6 else if H.length ≤ i ∧ i < G.length then 7 else κ i := ⟨_, rfl⟩
 have kold : ∀ i, i < H.length → κ1 i = κ i := fun i hi => by rw [hκ]; simp only; rw [if_neg (by omega), if_neg (by omega)]
 have k0 : κ1 H.length = 6 := by rw [hκ]; simp
 have k1 : κ1 (H.length + 1) = 6 := by rw [hκ]; simp
 have kb : ∀ i, H.length + 2 ≤ i → i < G.length → κ1 i = 7 := fun i h1 h2 => by rw [hκ]; simp only; rw [if_neg (by omega), if_pos (by omega)]
 have top1 : ∀ i, G.length ≤ i → κ1 i = 0 := fun i hi => by rw [hκ]; simp only; rw [if_neg (by omega), if_neg (by omega)]; exact top i (by omega)
 have fr0 : Fr κ H κ1 G := ⟨by omega, kold, fun i hi _ => by rw [hG, List.getElem?_append_left hi]⟩
 have cell0 : G[H.length]? = some ⟨eStH s.version s.key s.acc ut up vs vi va vb, 0, .own⟩ := by rw [hG]; simp
 have cell1 : G[H.length + 1]? = some ⟨eStH 0#32 ci0 acc0 .nilslice .nilslice .nilslice .nilslice .nilslice .nilslice, 0, .own⟩ := by rw [hG, List.getElem?_append_right (by omega)]; simp
 have ft : BytL G ut s.title := by
  refine (f1.app t2).other fun b hb => ?_
  have hb2 := r1 b hb
  simp only [List.length_append, List.length_cons, List.length_nil] at hb2
  have e : ∀ c0 c1 : Blk, H ++ c0 :: c1 :: t1 ++ t2 = H ++ ([] ++ c0 :: (c1 :: (t1 ++ t2))) := fun c0 c1 => by simp
  rw [hG, e]
  exact cell_ne (A := []) (by simp; omega)
 have fp : BytL G up s.pass := by
  refine f2.other fun b hb => ?_
  have hb2 := r2 b hb
  simp only [List.length_append, List.length_cons] at hb2
  rw [hG]
  exact cell_ne (A := []) (by simp; omega)
 have kt : ∀ b, rb ut = some b → κ1 b = 7 := fun b hb => kb b (by have := r1 b hb; simp only [List.length_append, List.length_cons, List.length_nil] at this; omega) (ft.rb_lt' b hb)
 have kp : ∀ b, rb up = some b → κ1 b = 7 := fun b hb => kb b (by have := r2 b hb; simp only [List.length_append, List.length_cons] at this; omega) (fp.rb_lt' b hb)
 have rG : StR G s vt vp vs vi va vb := ra.other fun y hy b hb => by rw [hG, List.getElem?_append_left (lt y hy b hb)]
 have nk : ∀ y ∈ [vt, vp, vs, vi, va, vb], ∀ b, rb y = some b → κ1 b = 0 ∨ 6 ≤ κ1 b := fun y hy b hb => by rw [kold b (lt y hy b hb)]; exact hz b (lt y hy b hb)
 refine SpecQ.step (c59 (k := 2) rG.fs l1 top1) ?_
 rintro _ ⟨us, H1, κ2, rfl, ks, ch1⟩
 have g1 : Fr κ1 G κ2 H1 := ch1.fr (by decide)
 have b1 := blk_of (g1.blk cell0 (.inr (by rw [k0]; decide)))
 have ff := b1
 refine runRp17_5 (x := ?_)
 clear ff
 refine SpecQ.step (c60 (k := 3) (rG.fi.fr g1 (nk vi (by simp))) l2 (ch1.top top1)) ?_
 rintro _ ⟨ui, H2, κ3, rfl, ki, ch2⟩
 have g2 : Fr κ1 G κ3 H2 := g1.trans (ch2.fr (by decide))
 have b2 := blk_of (g2.blk cell0 (.inr (by rw [k0]; decide)))
 have ff := b2
 refine runRp17_5 (x := ?_)
 clear ff
 refine SpecQ.step (c61 (k := 4) (rG.fa.fr g2 (nk va (by simp))) l3 (ch2.top (ch1.top top1))) ?_
 rintro _ ⟨ua, H3, κ4, rfl, ka, ch3⟩
 have g3 : Fr κ1 G κ4 H3 := g2.trans (ch3.fr (by decide))
 have b3 := blk_of (g3.blk cell0 (.inr (by rw [k0]; decide)))
 have ff := b3
 refine runRp17_5 (x := ?_)
 clear ff
 refine SpecQ.step (c62 (k := 5) (rG.fb.fr g3 (nk vb (by simp))) l4 (ch3.top (ch2.top (ch1.top top1)))) ?_
 rintro _ ⟨ub, H4, κ5, rfl, kbn, ch4⟩
 have g4 : Fr κ1 G κ5 H4 := g3.trans (ch4.fr (by decide))
 have q4 := g4.blk cell0 (.inr (by rw [k0]; decide))
 have q5 := g4.blk cell1 (.inr (by rw [k1]; decide))
 have b4 := blk_of q4
 have bs : ∀ v, blkAt (H4.set H.length ⟨v, 0, .own⟩) H.length 0 = some ⟨v, 0, .own⟩ := fun v => blk_of (List.getElem?_set_self (List.getElem?_eq_some_iff.1 q4).1)
 have bs1 : ∀ v, blkAt (H4.set H.length v) (H.length + 1) 0 = some ⟨eStH 0#32 ci0 acc0 .nilslice .nilslice .nilslice .nilslice .nilslice .nilslice, 0, .own⟩ := fun v => blk_of (by rw [List.getElem?_set_ne (by omega)]; exact q5)
 have l5 : H.length + 1 < (H4.set H.length (⟨eSt s ut up us ui ua ub, 0, .own⟩ : Blk)).length := by rw [List.length_set]; exact (List.getElem?_eq_some_iff.1 q5).1
 have bs2 : ∀ v : AV, blkAt ((H4.set H.length ⟨eSt s ut up us ui ua ub, 0, .own⟩).set (H.length + 1) ⟨v, 0, .own⟩) (H.length + 1) 0 = some ⟨v, 0, .own⟩ := fun v => blk_of (List.getElem?_set_self l5)
 have x1 := ks.cell
 have x2 := ki.cell
 have x3 := ka.cell
 have x4 := kbn.cell
 have ff := aI b4 (aI bs (aI bs1 (aI bs2 (aI ta (aI y1 (aI y2 (aI x1 (aI x2 (aI x3 x4)))))))))
 refine runRp17_5 (x := ?_)
 clear ff
 have kk : κ5 H.length = 6 := (g4.old _ (by omega)).trans k0
 have kk1 : κ5 (H.length + 1) = 6 := (g4.old _ (by omega)).trans k1
 have wp : Wp κ5 H4 s ut up us ui ua ub := ⟨ch4.top (ch3.top (ch2.top (ch1.top top1))), ft.fr g4 (fun b hb => .inr (by rw [kt b hb]; decide)), fp.fr g4 (fun b hb => .inr (by rw [kp b hb]; decide)), fun b hb => (g4.old b (ft.rb_lt' b hb)).trans (kt b hb), fun b hb => (g4.old b (fp.rb_lt' b hb)).trans (kp b hb),
  ((ks.chg ch2 (by decide) (by decide)).chg ch3 (by decide) (by decide)).chg ch4 (by decide) (by decide), (ki.chg ch3 (by decide) (by decide)).chg ch4 (by decide) (by decide), ka.chg ch4 (by decide) (by decide), kbn⟩
 exact ⟨κ5, _, ut, up, us, ui, ua, ub, rfl, (wp.wr (.inl kk) _).wr (.inl kk1) _, ((fr0.trans g4).wr (Nat.le_refl _) _).wr (by omega) _⟩
end Go.Vab

/- How the code of a function is read. Printed by wip/tools/gen2.py and gen3.py (own work). -/
namespace Go.Vab
open Go Go.Proofs
noncomputable section
def cx32 : Ctx := ⟨fun _ _ _ => none,TT,78,[4,5,6,7,10,11,12,13,14,15,16,17,18,19,20,21,22,23,24,26,27,28,29,30,31,32,33,35,36,37,38,39,40,41,42,43,45,46,48,49,50,52,53,54,55,56,57,58,59,60,61,62,63,65,66,67,68,69,70,71,72,73,74,75,76]⟩
def n32_0 := bodyOf Tryz.f32
def n32_1 := cR n32_0
def n32_2 := cR n32_1
def n32_3 := cL n32_2
def n32_4 := cR n32_3
def n32_5 := cB n32_4
def n32_6 := cL n32_5
def n32_7 := cR n32_6
def n32_8 := cL n32_7
def n32_9 := cR n32_7
def n32_10 := cR n32_9
def n32_11 := cL n32_10
def n32_12 := cR n32_10
def n32_13 := cR n32_5
def n32_14 := cL n32_13
def n32_15 := cL n32_14
def n32_16 := cR n32_15
def n32_17 := cL n32_16
def n32_18 := cR n32_17
def n32_19 := cR n32_16
def n32_20 := cR n32_14
def n32_21 := cR n32_13
def n32_22 := cR n32_21
def n32_23 := cL n32_22
def n32_24 := cR n32_22
def n32_25 := cL n32_24
def n32_26 := cR n32_25
def n32_27 := cL n32_26
def n32_28 := cR n32_26
def n32_29 := cR n32_24
def n32_30 := cL n32_29
def n32_31 := cR n32_29
def n32_32 := cL n32_31
def n32_33 := cR n32_32
def n32_34 := cL n32_33
def n32_35 := cR n32_33
def n32_36 := cR n32_35
def n32_37 := cL n32_36
def n32_38 := cR n32_36
def n32_39 := cR n32_31
def n32_40 := cL n32_39
def n32_41 := cR n32_40
def n32_42 := cR n32_39
def n32_43 := cL n32_42
def n32_44 := cR n32_43
def n32_45 := cL n32_44
def n32_46 := cR n32_44
def n32_47 := cR n32_42
def n32_48 := cL n32_47
def n32_49 := cL n32_48
def n32_50 := cR n32_49
def n32_51 := cL n32_50
def n32_52 := cR n32_51
def n32_53 := cR n32_50
def n32_54 := cR n32_48
def n32_55 := cR n32_54
def n32_56 := cR n32_47
def n32_57 := cR n32_2
def n32_58 := cL n32_57
def n32_59 := cR n32_58
def n32_60 := cL n32_59
def n32_61 := cR n32_60
def n32_62 := cR n32_59
def n32_63 := cR n32_57
def n32_64 := cR n32_63
def q32 := zQ1 cx32 32 Tryz.f32 n32_0 fun s => (bnd (some (s.env.get 2)) fun v => bnd (some []) fun vs => some (v :: vs))
set_option maxRecDepth 20000
set_option maxHeartbeats 4000000
def n32_49_w := zDr cx32 [n32_50,n32_49] [] [0,1,3,7,15,31,0,64,192,448,1023] [0,1,2,3,4,5,6,7,8,9,10] .f
def sn32 := zAll cx32 [[n32_8],[n32_11],[n32_12],[n32_11,n32_12,n32_10],[n32_10,n32_9],[n32_8,n32_9,n32_7],[n32_7,n32_6],[n32_18],[n32_18,n32_17],[n32_19],[n32_17,n32_19,n32_16],[n32_16,n32_15],[n32_20],[n32_15,n32_20,n32_14],[n32_23],[n32_27],[n32_28],[n32_27,n32_28,n32_26],[n32_26,n32_25],[n32_30],[n32_34],[n32_37],[n32_38],[n32_37,n32_38,n32_36],[n32_36,n32_35],[n32_34,n32_35,n32_33],[n32_33,n32_32],[n32_41],[n32_41,n32_40],[n32_45],[n32_46],[n32_45,n32_46,n32_44],[n32_44,n32_43],[n32_52],[n32_52,n32_51],[n32_53],[n32_51,n32_53,n32_50],[n32_55],[n32_55,n32_54],[n32_49,n32_54,n32_48],[n32_56],[n32_48,n32_56,n32_47],[n32_43,n32_47,n32_42],[n32_40,n32_42,n32_39],[n32_32,n32_39,n32_31],[n32_30,n32_31,n32_29],[n32_25,n32_29,n32_24],[n32_23,n32_24,n32_22],[n32_22,n32_21],[n32_14,n32_21,n32_13],[n32_6,n32_13,n32_5],[n32_5,n32_4],[n32_4,n32_3],[n32_61],[n32_61,n32_60],[n32_62],[n32_60,n32_62,n32_59],[n32_59,n32_58],[n32_64],[n32_64,n32_63],[n32_58,n32_63,n32_57],[n32_3,n32_57,n32_2],[n32_2,n32_1],[n32_1,n32_0]]
end
end Go.Vab

/-
  A step: whether who asks has the right; walked.
-/
namespace Go.Vab
open Go Go.Proofs
theorem runRp10_0 {G X : Prop} (f : Hd X → G := by
 intro xX
 repeat' (first | refine stp (x := ?_) | (simp (decide := true) only [sn32, snB, if_true, if_false]) | (with_reducible refine n32_49_w _ _ _ ?_))
 exact xX.get) (x : X) : G := f ⟨x⟩
theorem lt1 {m : BitVec 8} (h : ¬ m = 0#8) : ¬ m < 1#8 := by
 rw [BitVec.lt_def]
 intro q
 exact h (BitVec.eq_of_toNat_eq (by simpa using q))
set_option maxHeartbeats 4000000 in
theorem c32 {κ : Nat → Nat} {H : Heap} {c xb : Nat} {s : Stt} {b : Pt} {a : Actn} {m : BitVec 8} {vt vp vs vi va vb wt wp : AV} (x : Sx κ H c xb s b a m vt vp vs vi va vb wt wp) : SpecQ Tryz.prog 32 [.ptr xb 0 [] tLstep] H fun r => r = (nat (mayWhy m s b a), H) := by
 refine q32 fun env g0 => ?_
 have sx0 := blk_of x.st
 have wb0 := blk_of x.w.cell
 by_cases k7 : a.kind = 7#8
 ·have ff := aI g0 (aI sx0 (aI wb0 k7))
  refine runRp10_0 (x := ?_)
  clear ff
  first | (simp only [mayWhy, k7]; rfl) | simp [mayWhy, oneOrTuple, k7]
 by_cases k8 : a.kind = 8#8
 ·have ff := aI g0 (aI sx0 (aI wb0 k8))
  refine runRp10_0 (x := ?_)
  clear ff
  first | (simp only [mayWhy, k8]; rfl) | simp [mayWhy, oneOrTuple, k8]
 by_cases k11 : a.kind = 11#8
 ·have ff := aI g0 (aI sx0 (aI wb0 k11))
  refine runRp10_0 (x := ?_)
  clear ff
  first | (simp only [mayWhy, k11]; rfl) | simp [mayWhy, oneOrTuple, k11]
 by_cases k9 : a.kind = 9#8
 ·by_cases hw : a.who.e = b
  ·have ff := aI g0 (aI sx0 (aI wb0 (aI k9 hw)))
   refine runRp10_0 (x := ?_)
   clear ff
   first | (simp only [mayWhy, k9, hw]; rfl) | simp [mayWhy, oneOrTuple, k9, hw]
  ·have ff := aI g0 (aI sx0 (aI wb0 (aI k9 hw)))
   refine runRp10_0 (x := ?_)
   clear ff
   first | (simp only [mayWhy, k9, hw]; rfl) | simp [mayWhy, oneOrTuple, k9, hw]
 by_cases k10 : a.kind = 10#8
 ·by_cases hw : a.who.e = b
  ·have ff := aI g0 (aI sx0 (aI wb0 (aI k10 hw)))
   refine runRp10_0 (x := ?_)
   clear ff
   first | (simp only [mayWhy, k10, hw]; rfl) | simp [mayWhy, oneOrTuple, k10, hw]
  ·have ff := aI g0 (aI sx0 (aI wb0 (aI k10 hw)))
   refine runRp10_0 (x := ?_)
   clear ff
   first | (simp only [mayWhy, k10, hw]; rfl) | simp [mayWhy, oneOrTuple, k10, hw]
 by_cases k1 : a.kind = 1#8
 ·by_cases m0 : m = 0#8
  ·subst m0
   by_cases r2 : a.role = 2#8
   ·have ff := aI g0 (aI sx0 (aI wb0 (aI k1 r2)))
    refine runRp10_0 (x := ?_)
    clear ff
    first | (simp only [mayWhy, k1, r2]; rfl) | simp [mayWhy, oneOrTuple, k1, r2]
   ·have ff := aI g0 (aI sx0 (aI wb0 (aI k1 r2)))
    refine runRp10_0 (x := ?_)
    clear ff
    first | (simp only [mayWhy, k1, r2]; rfl) | simp [mayWhy, oneOrTuple, k1, r2]
  ·by_cases r2 : a.role = 2#8
   ·by_cases m2 : m = 2#8
    ·subst m2
     by_cases ml : 2#8 < s.acc.members
     ·have ff := aI g0 (aI sx0 (aI wb0 (aI k1 (aI r2 ml))))
      refine runRp10_0 (x := ?_)
      clear ff
      first | (simp only [mayWhy, k1, r2, ml]; rfl) | simp [mayWhy, oneOrTuple, k1, r2, ml]
     ·have ff := aI g0 (aI sx0 (aI wb0 (aI k1 (aI r2 ml))))
      refine runRp10_0 (x := ?_)
      clear ff
      first | (simp only [mayWhy, k1, r2, ml]; rfl) | simp [mayWhy, oneOrTuple, k1, r2, ml]
    ·have ff := aI g0 (aI sx0 (aI wb0 (aI k1 (aI r2 (aI m0 m2)))))
     refine runRp10_0 (x := ?_)
     clear ff
     first | (simp only [mayWhy, k1, r2, m0, m2]; rfl) | simp [mayWhy, oneOrTuple, k1, r2, m0, m2]
   ·by_cases ml : m < s.acc.members
    ·have ff := aI g0 (aI sx0 (aI wb0 (aI k1 (aI r2 (aI m0 ml)))))
     refine runRp10_0 (x := ?_)
     clear ff
     first | (simp only [mayWhy, k1, r2, m0, ml]; rfl) | simp [mayWhy, oneOrTuple, k1, r2, m0, ml]
    ·have ff := aI g0 (aI sx0 (aI wb0 (aI k1 (aI r2 (aI m0 ml)))))
     refine runRp10_0 (x := ?_)
     clear ff
     first | (simp only [mayWhy, k1, r2, m0, ml]; rfl) | simp [mayWhy, oneOrTuple, k1, r2, m0, ml]
 by_cases k5 : a.kind = 5#8
 ·by_cases m0 : m = 0#8
  ·subst m0
   by_cases r2 : a.role = 2#8
   ·have ff := aI g0 (aI sx0 (aI wb0 (aI k5 r2)))
    refine runRp10_0 (x := ?_)
    clear ff
    first | (simp only [mayWhy, k5, r2]; rfl) | simp [mayWhy, oneOrTuple, k5, r2]
   ·have ff := aI g0 (aI sx0 (aI wb0 (aI k5 r2)))
    refine runRp10_0 (x := ?_)
    clear ff
    first | (simp only [mayWhy, k5, r2]; rfl) | simp [mayWhy, oneOrTuple, k5, r2]
  ·by_cases r2 : a.role = 2#8
   ·by_cases m2 : m = 2#8
    ·subst m2
     by_cases ml : 2#8 < s.acc.members
     ·have ff := aI g0 (aI sx0 (aI wb0 (aI k5 (aI r2 ml))))
      refine runRp10_0 (x := ?_)
      clear ff
      first | (simp only [mayWhy, k5, r2, ml]; rfl) | simp [mayWhy, oneOrTuple, k5, r2, ml]
     ·have ff := aI g0 (aI sx0 (aI wb0 (aI k5 (aI r2 ml))))
      refine runRp10_0 (x := ?_)
      clear ff
      first | (simp only [mayWhy, k5, r2, ml]; rfl) | simp [mayWhy, oneOrTuple, k5, r2, ml]
    ·have ff := aI g0 (aI sx0 (aI wb0 (aI k5 (aI r2 (aI m0 m2)))))
     refine runRp10_0 (x := ?_)
     clear ff
     first | (simp only [mayWhy, k5, r2, m0, m2]; rfl) | simp [mayWhy, oneOrTuple, k5, r2, m0, m2]
   ·by_cases ml : m < s.acc.members
    ·have ff := aI g0 (aI sx0 (aI wb0 (aI k5 (aI r2 (aI m0 ml)))))
     refine runRp10_0 (x := ?_)
     clear ff
     first | (simp only [mayWhy, k5, r2, m0, ml]; rfl) | simp [mayWhy, oneOrTuple, k5, r2, m0, ml]
    ·have ff := aI g0 (aI sx0 (aI wb0 (aI k5 (aI r2 (aI m0 ml)))))
     refine runRp10_0 (x := ?_)
     clear ff
     first | (simp only [mayWhy, k5, r2, m0, ml]; rfl) | simp [mayWhy, oneOrTuple, k5, r2, m0, ml]
 by_cases k12 : a.kind = 12#8
 ·by_cases m0 : m = 0#8
  ·subst m0
   by_cases r2 : a.role = 2#8
   ·have ff := aI g0 (aI sx0 (aI wb0 (aI k12 r2)))
    refine runRp10_0 (x := ?_)
    clear ff
    first | (simp only [mayWhy, k12, r2]; rfl) | simp [mayWhy, oneOrTuple, k12, r2]
   ·have ff := aI g0 (aI sx0 (aI wb0 (aI k12 r2)))
    refine runRp10_0 (x := ?_)
    clear ff
    first | (simp only [mayWhy, k12, r2]; rfl) | simp [mayWhy, oneOrTuple, k12, r2]
  ·by_cases r2 : a.role = 2#8
   ·by_cases m2 : m = 2#8
    ·subst m2
     by_cases ml : 2#8 < s.acc.members
     ·have ff := aI g0 (aI sx0 (aI wb0 (aI k12 (aI r2 ml))))
      refine runRp10_0 (x := ?_)
      clear ff
      first | (simp only [mayWhy, k12, r2, ml]; rfl) | simp [mayWhy, oneOrTuple, k12, r2, ml]
     ·have ff := aI g0 (aI sx0 (aI wb0 (aI k12 (aI r2 ml))))
      refine runRp10_0 (x := ?_)
      clear ff
      first | (simp only [mayWhy, k12, r2, ml]; rfl) | simp [mayWhy, oneOrTuple, k12, r2, ml]
    ·have ff := aI g0 (aI sx0 (aI wb0 (aI k12 (aI r2 (aI m0 m2)))))
     refine runRp10_0 (x := ?_)
     clear ff
     first | (simp only [mayWhy, k12, r2, m0, m2]; rfl) | simp [mayWhy, oneOrTuple, k12, r2, m0, m2]
   ·by_cases ml : m < s.acc.members
    ·have ff := aI g0 (aI sx0 (aI wb0 (aI k12 (aI r2 (aI m0 ml)))))
     refine runRp10_0 (x := ?_)
     clear ff
     first | (simp only [mayWhy, k12, r2, m0, ml]; rfl) | simp [mayWhy, oneOrTuple, k12, r2, m0, ml]
    ·have ff := aI g0 (aI sx0 (aI wb0 (aI k12 (aI r2 (aI m0 ml)))))
     refine runRp10_0 (x := ?_)
     clear ff
     first | (simp only [mayWhy, k12, r2, m0, ml]; rfl) | simp [mayWhy, oneOrTuple, k12, r2, m0, ml]
 by_cases m0 : m = 0#8
 ·subst m0
  by_cases k4 : a.kind = 4#8
  ·have ff := aI g0 (aI sx0 (aI wb0 k4))
   refine runRp10_0 (x := ?_)
   clear ff
   first | (simp only [mayWhy, k4]; rfl) | simp [mayWhy, oneOrTuple, k4]
  by_cases k6 : a.kind = 6#8
  ·have ff := aI g0 (aI sx0 (aI wb0 k6))
   refine runRp10_0 (x := ?_)
   clear ff
   first | (simp only [mayWhy, k6]; rfl) | simp [mayWhy, oneOrTuple, k6]
  by_cases k16 : a.kind = 16#8
  ·have ff := aI g0 (aI sx0 (aI wb0 k16))
   refine runRp10_0 (x := ?_)
   clear ff
   first | (simp only [mayWhy, k16]; rfl) | simp [mayWhy, oneOrTuple, k16]
  have ff := aI g0 (aI sx0 (aI wb0 (aI k1 (aI k4 (aI k5 (aI k6 (aI k7 (aI k8 (aI k9 (aI k10 (aI k11 (aI k12 k16))))))))))))
  refine runRp10_0 (x := ?_)
  clear ff
  first | (simp only [mayWhy, k1, k4, k5, k6, k7, k8, k9, k10, k11, k12, k16, false_and, or_self, if_false, if_true]; rfl) | simp [mayWhy, oneOrTuple, k1, k4, k5, k6, k7, k8, k9, k10, k11, k12, k16, false_and, or_self, if_false, if_true]
 have m1 := lt1 m0
 by_cases k4 : a.kind = 4#8
 ·have ff := aI g0 (aI sx0 (aI wb0 (aI k4 (aI m0 m1))))
  refine runRp10_0 (x := ?_)
  clear ff
  simp [mayWhy, oneOrTuple, k4, m0, m1]
 by_cases k6 : a.kind = 6#8
 ·have ff := aI g0 (aI sx0 (aI wb0 (aI k6 (aI m0 m1))))
  refine runRp10_0 (x := ?_)
  clear ff
  simp [mayWhy, oneOrTuple, k6, m0, m1]
 by_cases k16 : a.kind = 16#8
 ·by_cases ml : m < s.acc.title
  ·have ff := aI g0 (aI sx0 (aI wb0 (aI k16 (aI m0 ml))))
   refine runRp10_0 (x := ?_)
   clear ff
   first | (simp only [mayWhy, k16, m0, ml]; rfl) | simp [mayWhy, oneOrTuple, k16, m0, ml]
  ·have ff := aI g0 (aI sx0 (aI wb0 (aI k16 (aI m0 ml))))
   refine runRp10_0 (x := ?_)
   clear ff
   first | (simp only [mayWhy, k16, m0, ml]; rfl) | simp [mayWhy, oneOrTuple, k16, m0, ml]
 by_cases ml : m < 2#8
 ·have ff := aI g0 (aI sx0 (aI wb0 (aI k1 (aI k4 (aI k5 (aI k6 (aI k7 (aI k8 (aI k9 (aI k10 (aI k11 (aI k12 (aI k16 (aI m0 ml))))))))))))))
  refine runRp10_0 (x := ?_)
  clear ff
  first | (simp only [mayWhy, k1, k4, k5, k6, k7, k8, k9, k10, k11, k12, k16, m0, ml, false_and, or_self, if_false, if_true]; rfl) | simp [mayWhy, oneOrTuple, k1, k4, k5, k6, k7, k8, k9, k10, k11, k12, k16, m0, ml, false_and, or_self, if_false, if_true]
 ·have ff := aI g0 (aI sx0 (aI wb0 (aI k1 (aI k4 (aI k5 (aI k6 (aI k7 (aI k8 (aI k9 (aI k10 (aI k11 (aI k12 (aI k16 (aI m0 ml))))))))))))))
  refine runRp10_0 (x := ?_)
  clear ff
  first | (simp only [mayWhy, k1, k4, k5, k6, k7, k8, k9, k10, k11, k12, k16, m0, ml, false_and, or_self, if_false, if_true]; rfl) | simp [mayWhy, oneOrTuple, k1, k4, k5, k6, k7, k8, k9, k10, k11, k12, k16, m0, ml, false_and, or_self, if_false, if_true]
end Go.Vab

/- How the code of a function is read. Printed by wip/tools/gen2.py and gen3.py (own work). -/
namespace Go.Vab
open Go Go.Proofs
noncomputable section
def cx55 : Ctx := ⟨fun _ _ _ => none,TT,9,[3,4,5,6,7,8]⟩
def n55_0 := bodyOf Tryz.f55
def n55_1 := cR n55_0
def n55_2 := cR n55_1
def q55 := zQ1 cx55 55 Tryz.f55 n55_0 fun s => (bnd (some (s.env.get 2)) fun v => bnd (some []) fun vs => some (v :: vs))
set_option maxRecDepth 20000
set_option maxHeartbeats 4000000
def sn55 := zAll cx55 [[n55_2],[n55_2,n55_1],[n55_1,n55_0]]
end
end Go.Vab

/- How the code of a function is read. Printed by wip/tools/gen2.py and gen3.py (own work). -/
namespace Go.Vab
open Go Go.Proofs
noncomputable section
def cx44 : Ctx := ⟨fun _ _ _ => none,TT,16,[3,4,5,6,7,8,9,10,11,12,13,14,15]⟩
def n44_0 := bodyOf Tryz.f44
def n44_1 := cR n44_0
def n44_2 := cR n44_1
def q44 := zQ1 cx44 44 Tryz.f44 n44_0 fun s => (bnd (some (s.env.get 2)) fun v => bnd (some []) fun vs => some (v :: vs))
set_option maxRecDepth 20000
set_option maxHeartbeats 4000000
def sn44 := zAll cx44 [[n44_2],[n44_2,n44_1],[n44_1,n44_0]]
end
end Go.Vab

/- How the code of a function is read. Printed by wip/tools/gen2.py and gen3.py (own work). -/
namespace Go.Vab
open Go Go.Proofs
noncomputable section
def cx58 : Ctx := ⟨fun _ _ _ => none,TT,34,[5,6,8,9,11,13,14,16,17,18,19,20,22,24,25,26,27,28,29,30,31,32,33]⟩
def n58_0 := bodyOf Tryz.f58
def n58_1 := cR n58_0
def n58_2 := cL n58_1
def n58_3 := cR n58_2
def n58_4 := cB n58_3
def n58_5 := cL n58_4
def n58_6 := cB n58_5
def n58_7 := cL n58_6
def n58_8 := cB n58_7
def n58_9 := cL n58_8
def n58_10 := cB n58_9
def n58_11 := cL n58_10
def n58_12 := cB n58_11
def n58_13 := cL n58_12
def n58_14 := cB n58_13
def n58_15 := cL n58_14
def n58_16 := cB n58_15
def n58_17 := cL n58_16
def n58_18 := cB n58_17
def n58_19 := cL n58_18
def n58_20 := cL n58_19
def n58_21 := cL n58_20
def n58_22 := cR n58_21
def n58_23 := cL n58_22
def n58_24 := cR n58_22
def n58_25 := cR n58_20
def n58_26 := cL n58_25
def n58_27 := cR n58_25
def n58_28 := cR n58_19
def n58_29 := cL n58_28
def n58_30 := cL n58_29
def n58_31 := cR n58_30
def n58_32 := cL n58_31
def n58_33 := cR n58_31
def n58_34 := cR n58_29
def n58_35 := cL n58_34
def n58_36 := cR n58_34
def n58_37 := cR n58_28
def n58_38 := cL n58_37
def n58_39 := cR n58_38
def n58_40 := cL n58_39
def n58_41 := cR n58_39
def n58_42 := cR n58_37
def n58_43 := cL n58_42
def n58_44 := cL n58_43
def n58_45 := cR n58_44
def n58_46 := cL n58_45
def n58_47 := cR n58_45
def n58_48 := cR n58_43
def n58_49 := cL n58_48
def n58_50 := cR n58_48
def n58_51 := cR n58_42
def n58_52 := cL n58_51
def n58_53 := cL n58_52
def n58_54 := cR n58_53
def n58_55 := cL n58_54
def n58_56 := cR n58_54
def n58_57 := cR n58_56
def n58_58 := cL n58_57
def n58_59 := cR n58_57
def n58_60 := cR n58_59
def n58_61 := cL n58_60
def n58_62 := cR n58_60
def n58_63 := cR n58_62
def n58_64 := cL n58_63
def n58_65 := cR n58_63
def n58_66 := cR n58_52
def n58_67 := cL n58_66
def n58_68 := cR n58_66
def n58_69 := cR n58_51
def n58_70 := cL n58_69
def n58_71 := cR n58_70
def n58_72 := cL n58_71
def n58_73 := cR n58_71
def n58_74 := cR n58_69
def n58_75 := cR n58_74
def n58_76 := cL n58_75
def n58_77 := cR n58_75
def n58_78 := cR n58_18
def n58_79 := cR n58_16
def n58_80 := cR n58_79
def n58_81 := cR n58_14
def n58_82 := cR n58_12
def n58_83 := cR n58_82
def n58_84 := cR n58_10
def n58_85 := cR n58_8
def n58_86 := cR n58_85
def n58_87 := cR n58_6
def n58_88 := cR n58_87
def n58_89 := cR n58_4
def n58_90 := cR n58_89
def n58_91 := cR n58_1
def n58_92 := cR n58_91
def q58 := zQ1 cx58 58 Tryz.f58 n58_0 fun s => (bnd (mLoad tLhas (s.env.get 2) s.heap) fun v => bnd (some []) fun vs => some (v :: vs))
set_option maxRecDepth 20000
set_option maxHeartbeats 4000000
def sn58 := zAll cx58 [[n58_23],[n58_24],[n58_23,n58_24,n58_22],[n58_22,n58_21],[n58_26],[n58_27],[n58_26,n58_27,n58_25],[n58_21,n58_25,n58_20],[n58_32],[n58_33],[n58_32,n58_33,n58_31],[n58_31,n58_30],[n58_35],[n58_36],[n58_35,n58_36,n58_34],[n58_30,n58_34,n58_29],[n58_40],[n58_41],[n58_40,n58_41,n58_39],[n58_39,n58_38],[n58_46],[n58_47],[n58_46,n58_47,n58_45],[n58_45,n58_44],[n58_49],[n58_50],[n58_49,n58_50,n58_48],[n58_44,n58_48,n58_43],[n58_55],[n58_58],[n58_61],[n58_64],[n58_65],[n58_64,n58_65,n58_63],[n58_63,n58_62],[n58_61,n58_62,n58_60],[n58_60,n58_59],[n58_58,n58_59,n58_57],[n58_57,n58_56],[n58_55,n58_56,n58_54],[n58_54,n58_53],[n58_67],[n58_68],[n58_67,n58_68,n58_66],[n58_53,n58_66,n58_52],[n58_72],[n58_73],[n58_72,n58_73,n58_71],[n58_71,n58_70],[n58_76],[n58_77],[n58_76,n58_77,n58_75],[n58_75,n58_74],[n58_70,n58_74,n58_69],[n58_52,n58_69,n58_51],[n58_43,n58_51,n58_42],[n58_38,n58_42,n58_37],[n58_29,n58_37,n58_28],[n58_20,n58_28,n58_19],[n58_78],[n58_19,n58_78,n58_18],[n58_18,n58_17],[n58_80],[n58_80,n58_79],[n58_17,n58_79,n58_16],[n58_16,n58_15],[n58_81],[n58_15,n58_81,n58_14],[n58_14,n58_13],[n58_83],[n58_83,n58_82],[n58_13,n58_82,n58_12],[n58_12,n58_11],[n58_84],[n58_11,n58_84,n58_10],[n58_10,n58_9],[n58_86],[n58_86,n58_85],[n58_9,n58_85,n58_8],[n58_8,n58_7],[n58_88],[n58_88,n58_87],[n58_7,n58_87,n58_6],[n58_6,n58_5],[n58_90],[n58_90,n58_89],[n58_5,n58_89,n58_4],[n58_4,n58_3],[n58_3,n58_2],[n58_92],[n58_92,n58_91],[n58_2,n58_91,n58_1],[n58_1,n58_0]]
end
end Go.Vab

/- How the code of a function is read. Printed by wip/tools/gen2.py and gen3.py (own work). -/
namespace Go.Vab
open Go Go.Proofs
noncomputable section
def cx29 : Ctx := ⟨fun _ _ _ => none,TT,116,[5,6,7,9,10,11,12,13,14,15,16,17,18,19,20,21,22,24,25,26,27,28,29,30,31,32,33,34,35,36,37,38,39,40,41,42,43,44,45,46,47,48,49,50,51,52,53,54,55,56,57,58,59,60,61,63,64,65,66,67,68,69,70,71,72,73,74,75,76,77,78,79,80,81,82,83,84,85,86,87,88,89,90,91,92,93,94,95,96,97,98,99,100,101,102,103,104,105,106,107,108,109,110,111,112,113,114,115]⟩
def n29_0 := bodyOf Tryz.f29
def n29_1 := cR n29_0
def n29_2 := cR n29_1
def n29_3 := cL n29_2
def n29_4 := cB n29_3
def n29_5 := cR n29_4
def n29_6 := cL n29_5
def n29_7 := cR n29_6
def n29_8 := cR n29_5
def n29_9 := cR n29_8
def n29_10 := cL n29_9
def n29_11 := cR n29_10
def n29_12 := cR n29_9
def n29_13 := cR n29_12
def n29_14 := cL n29_13
def n29_15 := cR n29_14
def n29_16 := cR n29_13
def n29_17 := cR n29_2
def n29_18 := cR n29_17
def n29_19 := cR n29_18
def q29 := zQ1 cx29 29 Tryz.f29 n29_0 fun s => (bnd (some (s.env.get 2)) fun v => bnd (some []) fun vs => some (v :: vs))
set_option maxRecDepth 20000
set_option maxHeartbeats 4000000
def n29_8_w := zDr cx29 [n29_9,n29_8] [] [0,1,3,7,15,31,15,127,255,511,1023,2047,4095,8191,16383,32767,16383,131071,262143,524287,1048575,2097151,4194303,2097151,10485759,27262975,67108863,134217727,268435455,536870911,1073741823,2147483647,4294967295,8589934591,17179869183,34359738367,68719476735,137438953471,274877906943] [0,1,2,3,4,5,6,7,8,9,10,11,12,13,14,15,16,17,18,19,20,21,22,23,24,25,26,27,28,29,30,31,32,33,34,35,36,37,38] .f
def sn29 := zAll cx29 [[n29_7],[n29_7,n29_6],[n29_11],[n29_11,n29_10],[n29_15],[n29_15,n29_14],[n29_16],[n29_14,n29_16,n29_13],[n29_13,n29_12],[n29_10,n29_12,n29_9],[n29_6,n29_8,n29_5],[n29_5,n29_4],[n29_4,n29_3],[n29_19],[n29_19,n29_18],[n29_18,n29_17],[n29_3,n29_17,n29_2],[n29_2,n29_1],[n29_1,n29_0]]
end
end Go.Vab

/-
  What may be, walked: role, mayAccess, fields, MayAction.
-/
namespace Go.Vab
open Go Go.Proofs
theorem c55 {h : Heap} {r : BitVec 8} : SpecQ Tryz.prog 55 [u8 r] h fun x => x = (.bool (roleOk r), h) := by
 refine SpecQ.drop1 rfl (q55 fun env g0 => ?_)
 repeat' (first | ((with_reducible refine evs_of (a := ?_) ?_ ?_); rotate_left; (focus ((conv => lhs; simp (disch := omega) [g0]); done)); try dsimp only) | (simp (decide := true) only [sn55, sqW_nrm, sqW_exit, sqW_ret, inBlk_nrm, inBlk_ret, inBlk_same, inBlk_exit, if_true, if_false, retW_nrm, retW_ret]) | ((with_reducible refine gv_splitE (b := ?_) ?_ ?_ ?_); rotate_left; (focus ((conv => lhs; simp (disch := omega) [g0]); done)); all_goals ((intro hb; try simp only [Bool.not_true, Bool.not_false] at hb); try simp only [hb])) | (with_reducible refine gv_split ?_ ?_ <;> (intro hb; try simp only [Bool.not_true, Bool.not_false] at hb) <;> try simp only [hb]))
 all_goals refine fin_b0 ?_
 all_goals (unfold roleOk; simp_all)
theorem c44 {h : Heap} {a : Acc} : SpecQ Tryz.prog 44 [eAcc a] h fun x => x = (.bool (accOk a), h) := by
 refine SpecQ.drop1 rfl (q44 fun env g0 => ?_)
 repeat' (first | ((with_reducible refine evs_of (a := ?_) ?_ ?_); rotate_left; (focus ((conv => lhs; simp (disch := omega) [g0]); done)); try dsimp only) | ((with_reducible refine gW_do ?_ ?_); (focus (simp (disch := omega) [g0]; done))) | ((with_reducible refine gW_no ?_ ?_); (focus (simp (disch := omega) [g0]; done)); try dsimp only) | ((with_reducible refine gW_un ?_ ?_); (focus (simp (disch := omega) [g0]; done)); try dsimp only) | (with_reducible refine SpecQ.step (c55) ?_; rintro _ rfl; try dsimp only) | ((with_reducible refine SpecA_i (args' := ?_) ?_ ?_); rotate_left; (focus ((conv => lhs; simp (disch := omega) [g0]); done))) | (simp (decide := true) only [sn44, sqW_nrm, sqW_exit, sqW_ret, inBlk_nrm, inBlk_ret, inBlk_same, inBlk_exit, if_true, if_false, retW_nrm, retW_ret]) | ((with_reducible refine gv_splitE (b := ?_) ?_ ?_ ?_); rotate_left; (focus ((conv => lhs; simp (disch := omega) [g0]); done)); all_goals ((intro hb; try simp only [Bool.not_true, Bool.not_false] at hb); try simp only [hb])) | ((with_reducible refine gW_splitE (b := ?_) ?_ ?_ ?_); rotate_left; (focus ((conv => lhs; simp (disch := omega) [g0]); done)); all_goals ((intro hb; try simp only [Bool.not_true, Bool.not_false] at hb); try simp only [hb])) | (with_reducible refine gv_split ?_ ?_ <;> (intro hb; try simp only [Bool.not_true, Bool.not_false] at hb) <;> try simp only [hb]) | (with_reducible refine gW_split ?_ ?_ <;> (intro hb; try simp only [Bool.not_true, Bool.not_false] at hb) <;> try simp only [hb]))
 all_goals refine fin_b ?_
 all_goals (unfold accOk; simp_all)
set_option maxHeartbeats 2000000 in
theorem c58 {h : Heap} {k : BitVec 8} : SpecQ Tryz.prog 58 [u8 k] h fun x => x = (hasV k, h) := by
 refine SpecQ.drop1 rfl (q58 fun env g0 => ?_)
 repeat' (first | ((with_reducible refine evs_of (a := ?_) ?_ ?_); rotate_left; (focus ((conv => lhs; simp (disch := omega) [g0]); done)); try dsimp only) | ((with_reducible refine cndW_T ?_ ?_); (focus (simp (disch := omega) [g0] <;> omega))) | ((with_reducible refine cndW_F ?_ ?_); (focus (simp (disch := omega) [g0] <;> omega))) | (with_reducible refine wL_i ?_) | (simp (decide := true) only [sn58, sqW_nrm, sqW_exit, sqW_ret, inBlk_nrm, inBlk_ret, inBlk_same, inBlk_exit, if_true, if_false, retW_nrm, retW_ret]) | ((with_reducible refine cndW_splitE (b := ?_) ?_ ?_ ?_); rotate_left; (focus ((conv => lhs; simp (disch := omega) [g0]); done)); all_goals ((intro hb; try simp only [Bool.not_true, Bool.not_false] at hb); try simp only [hb])) | (with_reducible refine cndW_split ?_ ?_ <;> (intro hb; try simp only [Bool.not_true, Bool.not_false] at hb) <;> try simp only [hb]))
 all_goals refine fin_v ?_
 all_goals (unfold hasV; simp only [decide_eq_true_eq, decide_eq_false_iff_not] at *; first | (subst_vars; rfl) | (simp_all [hW, hE, hR, hT, hA, hP]; done))
set_option maxHeartbeats 2000000 in
theorem c29 {h : Heap} {a : Actn} {vt vp : AV} (ra : ActR h a vt vp) : SpecQ Tryz.prog 29 [eAct a vt vp] h fun x => x = (.bool (mayA a), h) := by
 have ta := ra.cells
 have l1 := ra.t.len
 have l2 := ra.p.len
 refine SpecQ.drop1 rfl (q29 fun env g0 => ?_)
 repeat' (first | ((with_reducible refine evs_of (a := ?_) ?_ ?_); rotate_left; (focus ((conv => lhs; simp (disch := omega) [g0, ta, l1, l2, hasV]); done)); try dsimp only) | ((with_reducible refine gW_do ?_ ?_); (focus (simp (disch := omega) [g0, ta, l1, l2, hasV]; done))) | ((with_reducible refine gW_no ?_ ?_); (focus (simp (disch := omega) [g0, ta, l1, l2, hasV]; done)); try dsimp only) | ((with_reducible refine gW_un ?_ ?_); (focus (simp (disch := omega) [g0, ta, l1, l2, hasV]; done)); try dsimp only) | ((with_reducible refine cndW_T ?_ ?_); (focus (simp (disch := omega) [g0, ta, l1, l2, hasV] <;> omega))) | ((with_reducible refine cndW_F ?_ ?_); (focus (simp (disch := omega) [g0, ta, l1, l2, hasV] <;> omega))) | (with_reducible refine wL_i ?_) | ((with_reducible refine ValW_do ?_ ?_); (focus (simp (disch := omega) [g0, ta, l1, l2, hasV]; done)); try dsimp only) | ((with_reducible refine ValW_no ?_ ?_); (focus (simp (disch := omega) [g0, ta, l1, l2, hasV]; done)); try dsimp only) | ((with_reducible refine ValW_un ?_ ?_); (focus (simp (disch := omega) [g0, ta, l1, l2, hasV]; done)); try dsimp only) | (with_reducible refine ValW_i (c58) ?_; try dsimp only) | (with_reducible refine SpecQ.step (c58) ?_; rintro _ rfl; try dsimp only) | (with_reducible refine ValW_i (c55) ?_; try dsimp only) | (with_reducible refine SpecQ.step (c55) ?_; rintro _ rfl; try dsimp only) | (with_reducible refine ValW_i (c44) ?_; try dsimp only) | (with_reducible refine SpecQ.step (c44) ?_; rintro _ rfl; try dsimp only) | ((with_reducible refine SpecA_i (args' := ?_) ?_ ?_); rotate_left; (focus ((conv => lhs; simp (disch := omega) [g0, ta, l1, l2, hasV]); done))) | ((with_reducible refine ValA_i (args' := ?_) ?_ ?_); rotate_left; (focus ((conv => lhs; simp (disch := omega) [g0, ta, l1, l2, hasV]); done))) | ((with_reducible refine ValA_fn (g := ?_) (caps := ?_) ?_ ?_); rotate_left; rotate_left; (focus ((conv => lhs; simp (disch := omega) [g0, ta, l1, l2, hasV]); done))) | (simp (decide := true) only [sn29, sqW_nrm, sqW_exit, sqW_ret, inBlk_nrm, inBlk_ret, inBlk_same, inBlk_exit, if_true, if_false, retW_nrm, retW_ret]) | (with_reducible refine n29_8_w _ _ _ ?_) | ((with_reducible refine cndW_splitE (b := ?_) ?_ ?_ ?_); rotate_left; (focus ((conv => lhs; simp (disch := omega) [g0, ta, l1, l2, hasV]); done)); all_goals ((intro hb; try simp only [Bool.not_true, Bool.not_false] at hb); try simp only [hb])) | ((with_reducible refine gv_splitE (b := ?_) ?_ ?_ ?_); rotate_left; (focus ((conv => lhs; simp (disch := omega) [g0, ta, l1, l2, hasV]); done)); all_goals ((intro hb; try simp only [Bool.not_true, Bool.not_false] at hb); try simp only [hb])) | ((with_reducible refine gW_splitE (b := ?_) ?_ ?_ ?_); rotate_left; (focus ((conv => lhs; simp (disch := omega) [g0, ta, l1, l2, hasV]); done)); all_goals ((intro hb; try simp only [Bool.not_true, Bool.not_false] at hb); try simp only [hb])) | (with_reducible refine gv_split ?_ ?_ <;> (intro hb; try simp only [Bool.not_true, Bool.not_false] at hb) <;> try simp only [hb]) | (with_reducible refine gW_split ?_ ?_ <;> (intro hb; try simp only [Bool.not_true, Bool.not_false] at hb) <;> try simp only [hb]) | (with_reducible refine cndW_split ?_ ?_ <;> (intro hb; try simp only [Bool.not_true, Bool.not_false] at hb) <;> try simp only [hb]) | (with_reducible refine ValW_split ?_ ?_ <;> (intro hb; try simp only [Bool.not_true, Bool.not_false] at hb) <;> try simp only [hb]))
 all_goals refine fin_b ?_
 all_goals (clear ra ta l1 l2 g0; unfold mayA; simp_all)
end Go.Vab

/- How the code of a function is read. Printed by wip/tools/gen2.py and gen3.py (own work). -/
namespace Go.Vab
open Go Go.Proofs
noncomputable section
def cx54 : Ctx := ⟨fun _ _ _ => none,TT,7,[3,4,5,6]⟩
def n54_0 := bodyOf Tryz.f54
def n54_1 := cR n54_0
def n54_2 := cR n54_1
def q54 := zQ1 cx54 54 Tryz.f54 n54_0 fun s => (bnd (some (s.env.get 2)) fun v => bnd (some []) fun vs => some (v :: vs))
set_option maxRecDepth 20000
set_option maxHeartbeats 4000000
def sn54 := zAll cx54 [[n54_2],[n54_2,n54_1],[n54_1,n54_0]]
end
end Go.Vab

/- How the code of a function is read. Printed by wip/tools/gen2.py and gen3.py (own work). -/
namespace Go.Vab
open Go Go.Proofs
noncomputable section
def cx57 : Ctx := ⟨fun _ _ _ => none,TT,7,[3,4,5,6]⟩
def n57_0 := bodyOf Tryz.f57
def n57_1 := cR n57_0
def n57_2 := cR n57_1
def q57 := zQ1 cx57 57 Tryz.f57 n57_0 fun s => (bnd (some (s.env.get 2)) fun v => bnd (some []) fun vs => some (v :: vs))
set_option maxRecDepth 20000
set_option maxHeartbeats 4000000
def sn57 := zAll cx57 [[n57_2],[n57_2,n57_1],[n57_1,n57_0]]
end
end Go.Vab

/- How the code of a function is read. Printed by wip/tools/gen2.py and gen3.py (own work). -/
namespace Go.Vab
open Go Go.Proofs
noncomputable section
def cx89 : Ctx := ⟨fun _ _ _ => none,TT,19,[6,10,11,12,13,14,15,17,18]⟩
def n89_0 := bodyOf Tryz.f89
def n89_1 := cR n89_0
def n89_2 := cL n89_1
def n89_3 := cR n89_2
def n89_4 := cB n89_3
def n89_5 := cB n89_4
def n89_6 := cR n89_5
def n89_7 := cL n89_6
def n89_8 := cL n89_7
def n89_9 := cR n89_7
def n89_10 := cR n89_6
def n89_11 := cL n89_10
def n89_12 := cB n89_11
def n89_13 := cR n89_12
def n89_14 := cR n89_13
def n89_15 := cL n89_14
def n89_16 := cR n89_15
def n89_17 := cR n89_14
def n89_18 := cR n89_10
def n89_19 := cR n89_1
def n89_20 := cR n89_19
def q89 := zQ2 cx89 89 Tryz.f89 n89_0 fun s => (bnd (some (s.env.get 4)) fun v => bnd (some []) fun vs => some (v :: vs))
set_option maxRecDepth 20000
set_option maxHeartbeats 4000000
def sn89 := zAll cx89 [[n89_8],[n89_9],[n89_8,n89_9,n89_7],[n89_16],[n89_16,n89_15],[n89_17],[n89_15,n89_17,n89_14],[n89_14,n89_13],[n89_13,n89_12],[n89_12,n89_11],[n89_18],[n89_11,n89_18,n89_10],[n89_7,n89_10,n89_6],[n89_6,n89_5],[n89_5,n89_4],[n89_4,n89_3],[n89_3,n89_2],[n89_20],[n89_20,n89_19],[n89_2,n89_19,n89_1],[n89_1,n89_0]]
end
end Go.Vab

/- How the code of a function is read. Printed by wip/tools/gen2.py and gen3.py (own work). -/
namespace Go.Vab
open Go Go.Proofs
noncomputable section
def cx90 : Ctx := ⟨fun _ _ _ => none,TT,19,[6,10,11,12,13,14,15,17,18]⟩
def n90_0 := bodyOf Tryz.f90
def n90_1 := cR n90_0
def n90_2 := cL n90_1
def n90_3 := cR n90_2
def n90_4 := cB n90_3
def n90_5 := cB n90_4
def n90_6 := cR n90_5
def n90_7 := cL n90_6
def n90_8 := cL n90_7
def n90_9 := cR n90_7
def n90_10 := cR n90_6
def n90_11 := cL n90_10
def n90_12 := cB n90_11
def n90_13 := cR n90_12
def n90_14 := cR n90_13
def n90_15 := cL n90_14
def n90_16 := cR n90_15
def n90_17 := cR n90_14
def n90_18 := cR n90_10
def n90_19 := cR n90_1
def n90_20 := cR n90_19
def q90 := zQ2 cx90 90 Tryz.f90 n90_0 fun s => (bnd (some (s.env.get 4)) fun v => bnd (some []) fun vs => some (v :: vs))
set_option maxRecDepth 20000
set_option maxHeartbeats 4000000
def sn90 := zAll cx90 [[n90_8],[n90_9],[n90_8,n90_9,n90_7],[n90_16],[n90_16,n90_15],[n90_17],[n90_15,n90_17,n90_14],[n90_14,n90_13],[n90_13,n90_12],[n90_12,n90_11],[n90_18],[n90_11,n90_18,n90_10],[n90_7,n90_10,n90_6],[n90_6,n90_5],[n90_5,n90_4],[n90_4,n90_3],[n90_3,n90_2],[n90_20],[n90_20,n90_19],[n90_2,n90_19,n90_1],[n90_1,n90_0]]
end
end Go.Vab

/- How the code of a function is read. Printed by wip/tools/gen2.py and gen3.py (own work). -/
namespace Go.Vab
open Go Go.Proofs
noncomputable section
def cx53 : Ctx := ⟨fun _ _ _ => none,TT,9,[5,6,7,8]⟩
def n53_0 := bodyOf Tryz.f53
def n53_1 := cR n53_0
def n53_2 := cR n53_1
def q53 := zQ2 cx53 53 Tryz.f53 n53_0 fun s => (bnd (some (s.env.get 4)) fun v => bnd (some []) fun vs => some (v :: vs))
set_option maxRecDepth 20000
set_option maxHeartbeats 4000000
def sn53 := zAll cx53 [[n53_2],[n53_2,n53_1],[n53_1,n53_0]]
end
end Go.Vab

/- How the code of a function is read. Printed by wip/tools/gen2.py and gen3.py (own work). -/
namespace Go.Vab
open Go Go.Proofs
noncomputable section
def cx56 : Ctx := ⟨fun _ _ _ => none,TT,9,[5,6,7,8]⟩
def n56_0 := bodyOf Tryz.f56
def n56_1 := cR n56_0
def n56_2 := cR n56_1
def q56 := zQ2 cx56 56 Tryz.f56 n56_0 fun s => (bnd (some (s.env.get 4)) fun v => bnd (some []) fun vs => some (v :: vs))
set_option maxRecDepth 20000
set_option maxHeartbeats 4000000
def sn56 := zAll cx56 [[n56_2],[n56_2,n56_1],[n56_1,n56_0]]
end
end Go.Vab

/- How the code of a function is read. Printed by wip/tools/gen2.py and gen3.py (own work). -/
namespace Go.Vab
open Go Go.Proofs
noncomputable section
def cx28 : Ctx := ⟨fun _ _ _ => none,TT,62,[4,5,6,7,8,9,10,11,12,13,14,15,16,17,18,19,20,21,22,23,24,25,27,28,29,30,31,32,33,34,35,36,37,38,39,40,41,42,43,44,45,46,47,48,49,50,51,52,53,54,55,56,57,58,59,60,61]⟩
def n28_0 := bodyOf Tryz.f28
def n28_1 := cR n28_0
def n28_2 := cL n28_1
def n28_3 := cR n28_2
def n28_4 := cL n28_3
def n28_5 := cR n28_4
def n28_6 := cR n28_3
def n28_7 := cR n28_1
def n28_8 := cR n28_7
def n28_9 := cR n28_8
def q28 := zQ1 cx28 28 Tryz.f28 n28_0 fun s => (bnd (some (s.env.get 2)) fun v => bnd (some []) fun vs => some (v :: vs))
set_option maxRecDepth 20000
set_option maxHeartbeats 4000000
def sn28 := zAll cx28 [[n28_5],[n28_5,n28_4],[n28_6],[n28_4,n28_6,n28_3],[n28_3,n28_2],[n28_9],[n28_9,n28_8],[n28_8,n28_7],[n28_2,n28_7,n28_1],[n28_1,n28_0]]
end
end Go.Vab

/-
  forms.MayState, walked.
-/
namespace Go.Vab
open Go Go.Proofs
theorem runMayS_0 {G X : Prop} (f : Hd X → G := by
 intro xX
 repeat' (first | refine stp (x := ?_) | (with_reducible refine SpecQ.step (c55) ?_; rintro _ rfl; try dsimp only) | (simp (decide := true) only [sn54, snB, if_true, if_false]))
 exact xX.get) (x : X) : G := f ⟨x⟩
theorem runMayS_1 {G X : Prop} (f : Hd X → G := by
 intro xX
 repeat' (first | refine stp (x := ?_) | (simp (decide := true) only [sn89, snB, if_true, if_false]))
 exact xX.get) (x : X) : G := f ⟨x⟩
theorem runMayS_2 {G X : Prop} (f : Hd X → G := by
 intro xX
 repeat' (first | refine stp (x := ?_) | (with_reducible refine SpecQ.step (c54) ?_; rintro _ rfl; try dsimp only) | (simp (decide := true) only [sn89, snB, if_true, if_false]))
 exact xX.get) (x : X) : G := f ⟨x⟩
theorem runMayS_3 {G X : Prop} (f : Hd X → G := by
 intro xX
 repeat' (first | refine stp (x := ?_) | (simp (decide := true) only [sn53, snB, if_true, if_false]))
 exact xX.get) (x : X) : G := f ⟨x⟩
theorem runMayS_4 {G X : Prop} (f : Hd X → G := by
 intro xX
 repeat' (first | refine stp (x := ?_) | (with_reducible refine SpecQ.step (c55) ?_; rintro _ rfl; try dsimp only) | (simp (decide := true) only [sn57, snB, if_true, if_false]))
 exact xX.get) (x : X) : G := f ⟨x⟩
theorem runMayS_5 {G X : Prop} (f : Hd X → G := by
 intro xX
 repeat' (first | refine stp (x := ?_) | (simp (decide := true) only [sn90, snB, if_true, if_false]))
 exact xX.get) (x : X) : G := f ⟨x⟩
theorem runMayS_6 {G X : Prop} (f : Hd X → G := by
 intro xX
 repeat' (first | refine stp (x := ?_) | (with_reducible refine SpecQ.step (c57) ?_; rintro _ rfl; try dsimp only) | (simp (decide := true) only [sn90, snB, if_true, if_false]))
 exact xX.get) (x : X) : G := f ⟨x⟩
theorem runMayS_7 {G X : Prop} (f : Hd X → G := by
 intro xX
 repeat' (first | refine stp (x := ?_) | (simp (decide := true) only [sn56, snB, if_true, if_false]))
 exact xX.get) (x : X) : G := f ⟨x⟩
theorem runMayS_8 {G X : Prop} (f : Hd X → G := by
 intro xX
 repeat' (first | refine stp (x := ?_) | (with_reducible refine SpecQ.step (c44) ?_; rintro _ rfl; try dsimp only) | (simp (decide := true) only [sn28, snB, if_true, if_false]))
 exact xX.get) (x : X) : G := f ⟨x⟩
theorem runMayS_9 {G X : Prop} (f : Hd X → G := by
 intro xX
 repeat' (first | refine stp (x := ?_) | (simp (decide := true) only [sn28, snB, if_true, if_false]))
 exact xX.get) (x : X) : G := f ⟨x⟩
theorem runMayS_10 {G X : Prop} (f : Hd X → G := by
 intro xX
 repeat' (first | refine stp (x := ?_) | (with_reducible refine SpecQ.step (c53 (ra.fs.app _)) ?_; rintro _ rfl; try dsimp only) | (with_reducible refine SpecQ.step (c56 (ra.fi.app _)) ?_; rintro _ rfl; try dsimp only) | (simp (decide := true) only [sn28, snB, if_true, if_false]))
 exact xX.get) (x : X) : G := f ⟨x⟩
theorem c54 {h : Heap} {s : Seat} : SpecQ Tryz.prog 54 [eSeat s] h fun r => r = (.bool (!roleOk s.role), h) := by
 refine SpecQ.drop1 rfl (q54 fun env g0 => ?_)
 have ff := g0
 refine runMayS_0 (x := ?_)
 clear ff
 exact ⟨_, rfl⟩
theorem c89 {h : Heap} {x : AV} {l : List Seat} (hx : Row tSeat h x (l.map eSeat)) : SpecQ Tryz.prog 89 [x, .fn 54 []] h fun r => ∃ n : Int, r = (.int .i64 n, h) ∧ (0 ≤ n ↔ (l.any fun s => !roleOk s.role) = true) := by
 have lx := hx.len
 have bx := hx.bound
 rw [List.length_map] at lx bx
 refine q89 fun env g0 g1 => ?_
 have ff := aI g0 (aI g1 lx)
 refine runMayS_1 (x := ?_)
 clear ff
 refine loop_up l.length (fun i st => ∃ env', st = ⟨env', h⟩ ∧ env'.get 0 = x ∧ env'.get 1 = .fn 54 [] ∧ env'.get 7 = nat l.length ∧ env'.get 8 = nat i ∧ ∀ j (hj : j < l.length), j < i → roleOk l[j].role = true) ?_ ?_ ⟨_, rfl, by simp [g0], by simp [g1], by simp, by simp, fun j _ hj => absurd hj (by omega)⟩
 ·rintro i st hi ⟨env', rfl, e0, e1, e7, e8, hgood⟩
  obtain ⟨p, p1, p2⟩ := hx.idx0 (i := i) (by simpa using hi)
  rw [List.getElem?_map, List.getElem?_eq_getElem hi] at p2
  simp only [Option.map_some] at p2
  cases hr : roleOk l[i].role
  ·have ff := aI e0 (aI e1 (aI e7 (aI e8 (aI p1 (aI p2 hr)))))
   refine runMayS_2 (x := ?_)
   clear ff
   refine .inr ⟨by simp, ?_⟩
   have ff := e0
   refine runMayS_1 (x := ?_)
   clear ff
   refine ⟨i, by rw [e8]; rfl, ⟨fun _ => ?_, fun _ => by omega⟩⟩
   rw [List.any_eq_true]
   exact ⟨l[i], List.getElem_mem hi, by rw [hr]; rfl⟩
  ·have ff := aI e0 (aI e1 (aI e7 (aI e8 (aI p1 (aI p2 hr)))))
   refine runMayS_2 (x := ?_)
   clear ff
   refine .inl ⟨by simp, _, rfl, by simp [e0], by simp [e1], by simp [e7], by simp, fun j hj hji => ?_⟩
   by_cases hq : j = i
   ·subst hq; exact hr
   ·exact hgood j hj (by omega)
 ·rintro st ⟨env', rfl, e0, e1, e7, e8, hgood⟩
  have ff := aI e7 e8
  refine runMayS_1 (x := ?_)
  clear ff
  refine ⟨by simp, ?_⟩
  have ff := aI e7 e8
  refine runMayS_1 (x := ?_)
  clear ff
  refine ⟨-1, rfl, ⟨fun h => absurd h (by omega), fun h => ?_⟩⟩
  rw [List.any_eq_true] at h
  obtain ⟨s, hs, hr⟩ := h
  obtain ⟨j, hj, rfl⟩ := List.getElem_of_mem hs
  rw [hgood j hj hj] at hr
  cases hr
theorem c53 {h : Heap} {x : AV} {l : List Seat} (hx : Row tSeat h x (l.map eSeat)) : SpecQ Tryz.prog 53 [x, .fn 54 []] h fun r => r = (.bool (l.any fun s => !roleOk s.role), h) := by
 refine SpecQ.drop1 rfl (q53 fun env g0 g1 => ?_)
 have ff := aI g0 g1
 refine runMayS_3 (x := ?_)
 clear ff
 refine SpecQ.step (c89 hx) ?_
 rintro ⟨v, h2⟩ ⟨n, e, hn⟩
 cases e
 have ff := aI g0 g1
 refine runMayS_3 (x := ?_)
 clear ff
 refine ⟨[], ?_⟩
 simp only [oneOrTuple, List.append_nil]
 congr 2
 rw [Bool.eq_iff_iff, decide_eq_true_eq]
 exact hn
theorem c57 {h : Heap} {s : Inv} : SpecQ Tryz.prog 57 [eInv s] h fun r => r = (.bool (!roleOk s.role), h) := by
 refine SpecQ.drop1 rfl (q57 fun env g0 => ?_)
 have ff := g0
 refine runMayS_4 (x := ?_)
 clear ff
 exact ⟨_, rfl⟩
theorem c90 {h : Heap} {x : AV} {l : List Inv} (hx : Row tInvite h x (l.map eInv)) : SpecQ Tryz.prog 90 [x, .fn 57 []] h fun r => ∃ n : Int, r = (.int .i64 n, h) ∧ (0 ≤ n ↔ (l.any fun s => !roleOk s.role) = true) := by
 have lx := hx.len
 have bx := hx.bound
 rw [List.length_map] at lx bx
 refine q90 fun env g0 g1 => ?_
 have ff := aI g0 (aI g1 lx)
 refine runMayS_5 (x := ?_)
 clear ff
 refine loop_up l.length (fun i st => ∃ env', st = ⟨env', h⟩ ∧ env'.get 0 = x ∧ env'.get 1 = .fn 57 [] ∧ env'.get 7 = nat l.length ∧ env'.get 8 = nat i ∧ ∀ j (hj : j < l.length), j < i → roleOk l[j].role = true) ?_ ?_ ⟨_, rfl, by simp [g0], by simp [g1], by simp, by simp, fun j _ hj => absurd hj (by omega)⟩
 ·rintro i st hi ⟨env', rfl, e0, e1, e7, e8, hgood⟩
  obtain ⟨p, p1, p2⟩ := hx.idx0 (i := i) (by simpa using hi)
  rw [List.getElem?_map, List.getElem?_eq_getElem hi] at p2
  simp only [Option.map_some] at p2
  cases hr : roleOk l[i].role
  ·have ff := aI e0 (aI e1 (aI e7 (aI e8 (aI p1 (aI p2 hr)))))
   refine runMayS_6 (x := ?_)
   clear ff
   refine .inr ⟨by simp, ?_⟩
   have ff := e0
   refine runMayS_5 (x := ?_)
   clear ff
   refine ⟨i, by rw [e8]; rfl, ⟨fun _ => ?_, fun _ => by omega⟩⟩
   rw [List.any_eq_true]
   exact ⟨l[i], List.getElem_mem hi, by rw [hr]; rfl⟩
  ·have ff := aI e0 (aI e1 (aI e7 (aI e8 (aI p1 (aI p2 hr)))))
   refine runMayS_6 (x := ?_)
   clear ff
   refine .inl ⟨by simp, _, rfl, by simp [e0], by simp [e1], by simp [e7], by simp, fun j hj hji => ?_⟩
   by_cases hq : j = i
   ·subst hq; exact hr
   ·exact hgood j hj (by omega)
 ·rintro st ⟨env', rfl, e0, e1, e7, e8, hgood⟩
  have ff := aI e7 e8
  refine runMayS_5 (x := ?_)
  clear ff
  refine ⟨by simp, ?_⟩
  have ff := aI e7 e8
  refine runMayS_5 (x := ?_)
  clear ff
  refine ⟨-1, rfl, ⟨fun h => absurd h (by omega), fun h => ?_⟩⟩
  rw [List.any_eq_true] at h
  obtain ⟨s, hs, hr⟩ := h
  obtain ⟨j, hj, rfl⟩ := List.getElem_of_mem hs
  rw [hgood j hj hj] at hr
  cases hr
theorem c56 {h : Heap} {x : AV} {l : List Inv} (hx : Row tInvite h x (l.map eInv)) : SpecQ Tryz.prog 56 [x, .fn 57 []] h fun r => r = (.bool (l.any fun s => !roleOk s.role), h) := by
 refine SpecQ.drop1 rfl (q56 fun env g0 g1 => ?_)
 have ff := aI g0 g1
 refine runMayS_7 (x := ?_)
 clear ff
 refine SpecQ.step (c90 hx) ?_
 rintro ⟨v, h2⟩ ⟨n, e, hn⟩
 cases e
 have ff := aI g0 g1
 refine runMayS_7 (x := ?_)
 clear ff
 refine ⟨[], ?_⟩
 simp only [oneOrTuple, List.append_nil]
 congr 2
 rw [Bool.eq_iff_iff, decide_eq_true_eq]
 exact hn
set_option maxHeartbeats 2000000 in
theorem c28 {h : Heap} {a : Stt} {vt vp vs vi va vb : AV} (ra : StR h a vt vp vs vi va vb) : SpecQ Tryz.prog 28 [eSt a vt vp vs vi va vb] h fun r => r = (.bool (mayS a), h) := by
 have ta := ra.cells
 have lt := ra.ft.len
 have lp := ra.fp.len
 refine SpecQ.drop1 rfl (q28 fun env g0 => ?_)
 by_cases hs : shapeS a = true
 ·have hs' := hs
  simp only [shapeS, Bool.not_eq_true', Bool.or_eq_false_iff, decide_eq_false_iff_not, Bool.not_eq_false'] at hs'
  obtain ⟨⟨⟨s1, s2⟩, s3⟩, s4⟩ := hs'
  have s2 : a.pass.length % 16 = 0 := by omega
  have ff := aI g0 (aI ta (aI lt (aI lp (aI s1 (aI s2 (aI s3 s4))))))
  refine runMayS_8 (x := ?_)
  clear ff
  refine SpecQ.step (c45 (seen := []) (ra.fs.app _) (map_new (l := []))) ?_
  rintro ⟨v, h2⟩ ⟨seen0, e, hs0⟩
  cases e
  rw [map_put]
  replace hs0 : (decide (a.seats.length ≤ 40) && riseB ([]) (sE a)) = true → seen0 = [] ++ sE a := fun hh => by simp only [Bool.and_eq_true, decide_eq_true_eq] at hh; exact hs0 hh.1 hh.2
  rw [show a.seats.map (·.who.e) = sE a from rfl]
  cases hb0 : (decide (a.seats.length ≤ 40) && riseB ([]) (sE a))
  ·have ff := aI g0 (aI ta (aI lt (aI lp (aI s1 (aI s2 (aI s3 s4))))))
   refine runMayS_9 (x := ?_)
   clear ff
   refine fin_b ?_
   unfold mayS; simp only [hs, hb0, Bool.and_false, Bool.false_and, Bool.true_and]
  have q0 := hs0 hb0
  subst q0
  rw [List.nil_append]
  have ff := aI g0 (aI ta (aI lt (aI lp (aI s1 (aI s2 (aI s3 s4))))))
  refine runMayS_9 (x := ?_)
  clear ff
  refine SpecQ.step (c47 (seen := sE a) (ra.fi.app _) (map_new (l := sE a))) ?_
  rintro ⟨v, h2⟩ ⟨seen1, e, hs1⟩
  cases e
  rw [map_put]
  replace hs1 : (decide (a.invites.length ≤ 40) && riseB (sE a) (iE a)) = true → seen1 = sE a ++ iE a := fun hh => by simp only [Bool.and_eq_true, decide_eq_true_eq] at hh; exact hs1 hh.1 hh.2
  rw [show a.invites.map (·.who.e) = iE a from rfl]
  cases hb1 : (decide (a.invites.length ≤ 40) && riseB (sE a) (iE a))
  ·have ff := aI g0 (aI ta (aI lt (aI lp (aI s1 (aI s2 (aI s3 s4))))))
   refine runMayS_9 (x := ?_)
   clear ff
   refine fin_b ?_
   unfold mayS; simp only [hs, hb0, hb1, Bool.and_false, Bool.false_and, Bool.true_and]
  have q1 := hs1 hb1
  subst q1
  have ff := aI g0 (aI ta (aI lt (aI lp (aI s1 (aI s2 (aI s3 s4))))))
  refine runMayS_9 (x := ?_)
  clear ff
  refine SpecQ.step (c49 (seen := sE a ++ iE a) (ra.fa.app _) (map_new (l := sE a ++ iE a))) ?_
  rintro ⟨v, h2⟩ ⟨seen2, e, hs2⟩
  cases e
  rw [map_put]
  replace hs2 : (decide (a.asks.length ≤ 40) && riseB (sE a ++ iE a) (aE a)) = true → seen2 = sE a ++ iE a ++ aE a := fun hh => by simp only [Bool.and_eq_true, decide_eq_true_eq] at hh; exact hs2 hh.1 hh.2
  rw [show a.asks.map (·.who.e) = aE a from rfl]
  cases hb2 : (decide (a.asks.length ≤ 40) && riseB (sE a ++ iE a) (aE a))
  ·have ff := aI g0 (aI ta (aI lt (aI lp (aI s1 (aI s2 (aI s3 s4))))))
   refine runMayS_9 (x := ?_)
   clear ff
   refine fin_b ?_
   unfold mayS; simp only [hs, hb0, hb1, hb2, Bool.and_false, Bool.false_and, Bool.true_and]
  have q2 := hs2 hb2
  subst q2
  have ff := aI g0 (aI ta (aI lt (aI lp (aI s1 (aI s2 (aI s3 s4))))))
  refine runMayS_9 (x := ?_)
  clear ff
  refine SpecQ.step (c51 (seen := sE a ++ iE a ++ aE a) (ra.fb.app _) (map_new (l := sE a ++ iE a ++ aE a))) ?_
  rintro ⟨v, h2⟩ ⟨seen3, e, hs3⟩
  cases e
  rw [map_put]
  replace hs3 : (decide (a.bans.length ≤ 40) && riseB (sE a ++ iE a ++ aE a) (bE a)) = true → seen3 = sE a ++ iE a ++ aE a ++ bE a := fun hh => by simp only [Bool.and_eq_true, decide_eq_true_eq] at hh; exact hs3 hh.1 hh.2
  rw [show a.bans.map (·.who.e) = bE a from rfl]
  cases hb3 : (decide (a.bans.length ≤ 40) && riseB (sE a ++ iE a ++ aE a) (bE a))
  ·have ff := aI g0 (aI ta (aI lt (aI lp (aI s1 (aI s2 (aI s3 s4))))))
   refine runMayS_9 (x := ?_)
   clear ff
   refine fin_b ?_
   unfold mayS; simp only [hs, hb0, hb1, hb2, hb3, Bool.and_false, Bool.false_and, Bool.true_and]
  have q3 := hs3 hb3
  subst q3
  cases hA : (a.seats.any fun s => !roleOk s.role)
  ·have ff := aI g0 (aI ta (aI lt (aI lp (aI s1 (aI s2 (aI s3 (aI s4 hA)))))))
   refine runMayS_10 (x := ?_)
   clear ff
   refine fin_b ?_
   unfold mayS; simp only [hs, hb0, hb1, hb2, hb3, hA, Bool.not_false, Bool.true_and]
  ·have ff := aI g0 (aI ta (aI lt (aI lp (aI s1 (aI s2 (aI s3 (aI s4 hA)))))))
   refine runMayS_10 (x := ?_)
   clear ff
   refine fin_b ?_
   unfold mayS; simp only [hs, hb0, hb1, hb2, hb3, hA, Bool.not_true, Bool.true_and, Bool.false_and]
 ·have hs0 : shapeS a = false := Bool.eq_false_iff.2 hs
  have hm : mayS a = false := by unfold mayS; rw [hs0]; rfl
  rw [hm]
  unfold shapeS at hs0
  simp only [Bool.not_eq_false'] at hs0
  repeat' (first | ((with_reducible refine evs_of (a := ?_) ?_ ?_); rotate_left; (focus ((conv => lhs; simp (disch := omega) [g0, ta, lt, lp]); done)); try dsimp only) | ((with_reducible refine gW_do ?_ ?_); (focus (simp (disch := omega) [g0, ta, lt, lp]; done))) | ((with_reducible refine gW_no ?_ ?_); (focus (simp (disch := omega) [g0, ta, lt, lp]; done)); try dsimp only) | ((with_reducible refine gW_un ?_ ?_); (focus (simp (disch := omega) [g0, ta, lt, lp]; done)); try dsimp only) | ((with_reducible refine cndW_T ?_ ?_); (focus (simp (disch := omega) [g0, ta, lt, lp] <;> omega))) | ((with_reducible refine cndW_F ?_ ?_); (focus (simp (disch := omega) [g0, ta, lt, lp] <;> omega))) | (with_reducible refine wL_i ?_) | (with_reducible refine SpecQ.step (c44) ?_; rintro _ rfl; try dsimp only) | ((with_reducible refine SpecA_i (args' := ?_) ?_ ?_); rotate_left; (focus ((conv => lhs; simp (disch := omega) [g0, ta, lt, lp]); done))) | (simp (decide := true) only [sn28, sqW_nrm, sqW_exit, sqW_ret, inBlk_nrm, inBlk_ret, inBlk_same, inBlk_exit, if_true, if_false, retW_nrm, retW_ret]) | ((with_reducible refine cndW_splitE (b := ?_) ?_ ?_ ?_); rotate_left; (focus ((conv => lhs; simp (disch := omega) [g0, ta, lt, lp]); done)); all_goals ((intro hb; try simp only [Bool.not_true, Bool.not_false] at hb); try simp only [hb])) | ((with_reducible refine gv_splitE (b := ?_) ?_ ?_ ?_); rotate_left; (focus ((conv => lhs; simp (disch := omega) [g0, ta, lt, lp]); done)); all_goals ((intro hb; try simp only [Bool.not_true, Bool.not_false] at hb); try simp only [hb])) | ((with_reducible refine gW_splitE (b := ?_) ?_ ?_ ?_); rotate_left; (focus ((conv => lhs; simp (disch := omega) [g0, ta, lt, lp]); done)); all_goals ((intro hb; try simp only [Bool.not_true, Bool.not_false] at hb); try simp only [hb])) | (with_reducible refine gv_split ?_ ?_ <;> (intro hb; try simp only [Bool.not_true, Bool.not_false] at hb) <;> try simp only [hb]) | (with_reducible refine gW_split ?_ ?_ <;> (intro hb; try simp only [Bool.not_true, Bool.not_false] at hb) <;> try simp only [hb]) | (with_reducible refine cndW_split ?_ ?_ <;> (intro hb; try simp only [Bool.not_true, Bool.not_false] at hb) <;> try simp only [hb]))
  all_goals first
   | exact fin_b rfl
   | (exfalso; simp_all; done)
   | trace_state
end Go.Vab

/- How the code of a function is read. Printed by wip/tools/gen2.py and gen3.py (own work). -/
namespace Go.Vab
open Go Go.Proofs
noncomputable section
def cx13 : Ctx := ⟨fun _ _ _ => none,TT,64,[10,11,12,13,14,15,16,18,19,20,21,22,23,24,25,27,28,29,30,32,33,34,35,36,37,38,39,40,41,42,43,44,45,46,47,48,49,50,51,52,54,55,56,58,59,60,61,62,63]⟩
def n13_0 := bodyOf Tryz.f13
def n13_1 := cR n13_0
def n13_2 := cL n13_1
def n13_3 := cR n13_2
def n13_4 := cL n13_3
def n13_5 := cR n13_4
def n13_6 := cR n13_3
def n13_7 := cR n13_1
def n13_8 := cL n13_7
def n13_9 := cR n13_8
def n13_10 := cL n13_9
def n13_11 := cR n13_10
def n13_12 := cR n13_9
def n13_13 := cR n13_7
def n13_14 := cL n13_13
def n13_15 := cR n13_14
def n13_16 := cL n13_15
def n13_17 := cR n13_16
def n13_18 := cR n13_15
def n13_19 := cR n13_13
def n13_20 := cR n13_19
def n13_21 := cR n13_20
def n13_22 := cR n13_21
def n13_23 := cR n13_22
def n13_24 := cL n13_23
def n13_25 := cR n13_24
def n13_26 := cL n13_25
def n13_27 := cR n13_25
def n13_28 := cR n13_23
def n13_29 := cL n13_28
def n13_30 := cR n13_29
def n13_31 := cL n13_30
def n13_32 := cR n13_31
def n13_33 := cR n13_30
def n13_34 := cR n13_28
def n13_35 := cR n13_34
def n13_36 := cR n13_35
def q13 := zQ3 cx13 13 Tryz.f13 n13_0 fun s => (bnd (mLoad tState (s.env.get 6) s.heap) fun v => bnd (bnd (some (s.env.get 7)) fun v => bnd (some []) fun vs => some (v :: vs)) fun vs => some (v :: vs))
set_option maxRecDepth 20000
set_option maxHeartbeats 4000000
def n13_21_w := zDr cx13 [n13_22,n13_21] [6] [0,0,0,0,12,31,63,127] [0,1,2,3,4,5] (.o 6 [7] [] .f)
def n13_20_w := zDr cx13 [n13_21,n13_20] [2,5,7,9] [0,1,3,0,8,31,31,127,255,511] [0,1,3,4] (.o 2 [6] [4] (.o 5 [] [] (.o 7 [8] [] (.o 9 [] [] .f))))
def sn13 := zAll cx13 [[n13_5],[n13_5,n13_4],[n13_6],[n13_4,n13_6,n13_3],[n13_3,n13_2],[n13_11],[n13_11,n13_10],[n13_12],[n13_10,n13_12,n13_9],[n13_9,n13_8],[n13_17],[n13_17,n13_16],[n13_18],[n13_16,n13_18,n13_15],[n13_15,n13_14],[n13_26],[n13_27],[n13_26,n13_27,n13_25],[n13_25,n13_24],[n13_32],[n13_32,n13_31],[n13_33],[n13_31,n13_33,n13_30],[n13_30,n13_29],[n13_36],[n13_36,n13_35],[n13_35,n13_34],[n13_29,n13_34,n13_28],[n13_24,n13_28,n13_23],[n13_23,n13_22],[n13_20,n13_19],[n13_14,n13_19,n13_13],[n13_8,n13_13,n13_7],[n13_2,n13_7,n13_1],[n13_1,n13_0]]
end
end Go.Vab

/- How the code of a function is read. Printed by wip/tools/gen2.py and gen3.py (own work). -/
namespace Go.Vab
open Go Go.Proofs
noncomputable section
def cx20 : Ctx := ⟨fun _ _ _ => none,TT,27,[13,14,15,16,17,18,19,20,21,22,24,25,26]⟩
def n20_0 := bodyOf Tryz.f20
def n20_1 := cR n20_0
def n20_2 := cR n20_1
def n20_3 := cL n20_2
def n20_4 := cR n20_3
def n20_5 := cL n20_4
def n20_6 := cR n20_5
def n20_7 := cR n20_4
def n20_8 := cR n20_2
def n20_9 := cR n20_8
def q20 := zQ5 cx20 20 Tryz.f20 n20_0 fun s => (bnd (mLoad tState (s.env.get 10) s.heap) fun v => bnd (bnd (some (s.env.get 11)) fun v => bnd (some []) fun vs => some (v :: vs)) fun vs => some (v :: vs))
set_option maxRecDepth 20000
set_option maxHeartbeats 4000000
def sn20 := zAll cx20 [[n20_6],[n20_6,n20_5],[n20_7],[n20_5,n20_7,n20_4],[n20_4,n20_3],[n20_9],[n20_9,n20_8],[n20_3,n20_8,n20_2],[n20_2,n20_1],[n20_1,n20_0]]
end
end Go.Vab

/-
  The program's step, walked.
-/
namespace Go.Vab
open Go Go.Proofs
theorem runRp18_0 {G X : Prop} (f : Hd X → G := by
 intro xX
 repeat' (first | refine stp (x := ?_) | (with_reducible refine ValW_i (c28 (ra.app _)) ?_; try dsimp only) | (with_reducible refine SpecQ.step (c28 (ra.app _)) ?_; rintro _ rfl; try dsimp only) | (with_reducible refine stabP_i (c28 (ra.app _)) ?_) | (with_reducible refine ValW_i (c29 (rc.app _)) ?_; try dsimp only) | (with_reducible refine SpecQ.step (c29 (rc.app _)) ?_; rintro _ rfl; try dsimp only) | (with_reducible refine stabP_i (c29 (rc.app _)) ?_) | (simp (decide := true) only [sn13, snB, if_true, if_false]) | (with_reducible refine n13_21_w _ _ _ ?_) | (with_reducible refine n13_20_w _ _ _ ?_))
 exact xX.get) (x : X) : G := f ⟨x⟩
theorem runRp18_1 {G X : Prop} (f : Hd X → G := by
 intro xX
 repeat' (first | refine stp (x := ?_) | (simp (decide := true) only [sn13, snB, if_true, if_false]) | (with_reducible refine n13_21_w _ _ _ ?_) | (with_reducible refine n13_20_w _ _ _ ?_))
 exact xX.get) (x : X) : G := f ⟨x⟩
theorem runRp18_2 {G X : Prop} (f : Hd X → G := by
 intro xX
 repeat' (first | refine stp (x := ?_) | (simp (decide := true) only [sn13, snB, if_true, if_false]))
 exact xX.get) (x : X) : G := f ⟨x⟩
theorem runRp18_3 {G X : Prop} (f : Hd X → G := by
 intro xX
 repeat' (first | refine stp (x := ?_) | (with_reducible refine ValW_i (c17 w4.str) ?_; try dsimp only) | (with_reducible refine SpecQ.step (c17 w4.str) ?_; rintro _ rfl; try dsimp only) | (with_reducible refine stabP_i (c17 w4.str) ?_) | (simp (decide := true) only [sn13, snB, if_true, if_false]) | (with_reducible refine n13_21_w _ _ _ ?_))
 exact xX.get) (x : X) : G := f ⟨x⟩
abbrev eSt0 : AV := eStH 0#32 ci0 acc0 .nilslice .nilslice .nilslice .nilslice .nilslice .nilslice
def PR (h : Heap) (x : Except Nat Stt) (r : AV × Heap) : Prop := match x with
 | .error k => ∃ t, r = (.tuple [eSt0, nat k], h ++ t)
 | .ok z => ∃ (κ : Nat → Nat) (t : Heap) (vt vp vs vi va vb : AV), r = (.tuple [eSt z vt vp vs vi va vb, nat 0], h ++ t) ∧ Wp κ (h ++ t) z vt vp vs vi va vb ∧ ∀ i, i < h.length → κ i = 0
@[simp] theorem fillStep {c : Nat} {b : Pt} {a : Actn} {wt wp : AV} {m : BitVec 8} :
  fillRow tLstep (.node [.nilptr, pt pt0, eActH 0#32 0#8 ci0 pt0 0#8 acc0 .nilslice .nilslice, u8 0#8]) [(0, .ptr c 0 [] tState), (1, pt b), (2, eAct a wt wp), (3, u8 m)] = if (hasTy wt .cell && hasTy wp .cell) = true then some (eStep c b a wt wp m) else none := by
 cases h1 : hasTy wt .cell <;> cases h2 : hasTy wp .cell <;> simp [fillRow, eStep, h1, h2, -fold_eStep]
@[simp] theorem hasTy_eStep {c : Nat} {b : Pt} {a : Actn} {wt wp : AV} {m : BitVec 8} : hasTy (eStep c b a wt wp m) tLstep = (hasTy wt .cell && hasTy wp .cell) := by simp [eStep, -fold_eStep]
def NzE' (x : Except Nat Stt) : Prop := ∀ k, x = .error k → k ≠ 0
theorem madeP_err {s : Stt} {b : Pt} {a : Actn} {k : Nat} (h : madeP s b a = .error k) : k ≠ 0 := by
 have nz_ite : ∀ {c : Prop} [Decidable c] {x y : Except Nat Stt}, NzE' x → NzE' y → NzE' (if c then x else y) := fun h1 h2 => by split <;> assumption
 have nz_ok : ∀ t, NzE' (.ok t) := fun t k h => by cases h
 have nz_err : ∀ {n : Nat}, n ≠ 0 → NzE' (.error n) := fun h k e => by cases e; exact h
 have q : NzE' (madeP s b a) := by
  unfold madeP
  dsimp only
  repeat' (first | exact nz_ok _ | exact nz_err (by decide) | refine nz_ite ?_ ?_ | split)
 exact q k h
set_option maxHeartbeats 8000000 in
theorem c13 {h : Heap} {s : Stt} {vt vp vs vi va vb : AV} {b : Pt} {a : Actn} {wt wp : AV} (ra : StR h s vt vp vs vi va vb) (rc : ActR h a wt wp) :
  SpecQ Tryz.prog 13 [eSt s vt vp vs vi va vb, pt b, eAct a wt wp] h (PR h (stepP s b a)) := by
 have ta := ra.cells
 have tc := rc.cells
 have l1 := ra.fs.len
 rw [List.length_map] at l1
 refine q13 fun env g0 g1 g2 => ?_
 cases h1 : mayS s
 ·have hm : stepP s b a = .error 2 := by simp [stepP, h1]
  have ff := aI g0 (aI g1 (aI g2 (aI ta (aI tc (aI l1 h1)))))
  refine runRp18_0 (x := ?_)
  clear ff
  rw [hm]
  exact ⟨_, rfl⟩
 cases h2 : mayA a
 ·have hm : stepP s b a = .error 2 := by simp [stepP, h2]
  have ff := aI g0 (aI g1 (aI g2 (aI ta (aI tc (aI l1 (aI h1 h2))))))
  refine runRp18_0 (x := ?_)
  clear ff
  rw [hm]
  exact ⟨_, rfl⟩
 by_cases h3 : a.version.setWidth 64 = s.version.setWidth 64 + 1#64
 rotate_left
 ·have hm : stepP s b a = .error 190 := by
   have hc : a.version = 0#32 ∨ a.version - 1#32 ≠ s.version := Classical.byContradiction fun q => h3 ((ver_iff _ _).2 q)
   simp only [stepP, h1, h2, Bool.true_eq_false, or_self, if_false]
   rw [if_pos hc]
  have ff := aI g0 (aI g1 (aI g2 (aI ta (aI tc (aI l1 (aI h1 (aI h2 h3)))))))
  refine runRp18_0 (x := ?_)
  clear ff
  rw [hm]
  exact ⟨_, rfl⟩
 have h3' := (ver_iff _ _).1 h3
 by_cases h5 : s.seats.length = 0
 ·have hm : stepP s b a = .error 197 := by simp only [stepP, h1, h2, Bool.true_eq_false, or_self, if_false, if_neg h3', h5, if_true]
  have ff := aI g0 (aI g1 (aI g2 (aI ta (aI tc (aI l1 (aI h1 (aI h2 (aI h3 h5))))))))
  refine runRp18_0 (x := ?_)
  clear ff
  rw [hm]
  exact ⟨_, rfl⟩
 have hst : stepP s b a = match madeP s b a with
  | .error e => .error e
  | .ok t => .ok { t with version := a.version } := by simp only [stepP, h1, h2, Bool.true_eq_false, or_self, if_false, if_neg h3', h5]; cases madeP s b a <;> rfl
 have ff := aI g0 (aI g1 (aI g2 (aI ta (aI tc (aI l1 (aI h1 (aI h2 (aI h3 h5))))))))
 refine runRp18_0 (x := ?_)
 clear ff
 obtain ⟨n, hn⟩ : ∃ n, n = h.length := ⟨_, rfl⟩
 obtain ⟨κ0, hκ⟩ : ∃ κ0 : Nat → Nat, κ0 = fun i => if i = n ∨ i = n + 2 ∨ i = n + 3 then 6 else 0 := ⟨_, rfl⟩
 obtain ⟨m1, m2, m3, m4⟩ := may_lens h1
 have hz0 : ∀ i, κ0 i = 0 ∨ κ0 i = 6 := fun i => by rw [hκ]; simp only; split <;> simp
 have kn : κ0 n = 6 := by rw [hκ]; simp
 have kn1 : κ0 (n + 1) = 0 := by rw [hκ]; simp
 have kn2 : κ0 (n + 2) = 6 := by rw [hκ]; simp
 have kn3 : κ0 (n + 3) = 6 := by rw [hκ]; simp
 have klo : ∀ i, i < n → κ0 i = 0 := fun i hi => by rw [hκ]; simp only; rw [if_neg (by omega)]
 refine SpecQ.step (c30 (κ := κ0) (ra.app _) (fun i hi => by rw [hκ]; simp only [List.length_append, List.length_cons, List.length_nil] at hi ⊢; rw [if_neg (by omega)]) (fun i _ => (hz0 i).imp id fun e => by omega) (by omega) (by omega) (by omega) (by omega)) ?_
 rintro _ ⟨κ1, H1, ut, up, us, ui, ua, ub, rfl, wp1, f1⟩
 have F0 : Fr (fun _ => 0) h κ0 (h ++ [⟨eSt s vt vp vs vi va vb, 0, .own⟩, ⟨pt b, 0, .own⟩, ⟨eAct a wt wp, 0, .own⟩, ⟨eSt0, 0, .own⟩]) := ⟨by simp, fun i hi => klo i (by omega), fun i hi _ => List.getElem?_append_left hi⟩
 have F1 := F0.trans f1
 have lc : (h ++ [⟨eSt s vt vp vs vi va vb, 0, .own⟩, ⟨pt b, 0, .own⟩, ⟨eAct a wt wp, 0, .own⟩, ⟨eSt0, 0, .own⟩] : Heap).length = n + 4 := by simp [hn]
 have cs := f1.blk (i := n) (b := ⟨eSt s vt vp vs vi va vb, 0, .own⟩) (by rw [hn]; simp) (.inr (by rw [kn]; decide))
 have cb := f1.blk (i := n + 1) (b := ⟨pt b, 0, .own⟩) (by rw [hn, List.getElem?_append_right (by omega)]; simp) (.inl kn1)
 have ca := f1.blk (i := n + 2) (b := ⟨eAct a wt wp, 0, .own⟩) (by rw [hn, List.getElem?_append_right (by omega)]; simp) (.inr (by rw [kn2]; decide))
 have cr := f1.blk (i := n + 3) (b := ⟨eSt0, 0, .own⟩) (by rw [hn, List.getElem?_append_right (by omega)]; simp) (.inr (by rw [kn3]; decide))
 have k10 : κ1 n = 6 := (f1.old _ (by rw [lc]; omega)).trans kn
 have k11 : κ1 (n + 1) = 0 := (f1.old _ (by rw [lc]; omega)).trans kn1
 have k12 : κ1 (n + 2) = 6 := (f1.old _ (by rw [lc]; omega)).trans kn2
 have k13 : κ1 (n + 3) = 6 := (f1.old _ (by rw [lc]; omega)).trans kn3
 have tu := wp1.str.cells
 have w2 := wp1.wk (c := n) (List.getElem?_eq_some_iff.1 cs).1 k10
 have F2 : Fr (fun _ => 0) h (fun i => if i = n then 1 else κ1 i) (H1.set n ⟨eSt s ut up us ui ua ub, 0, .own⟩) := (F1.wr (by omega) _).kap fun i hi => if_neg (by omega)
 have cb2 := get_ne cb (j := n) (by omega) ⟨eSt s ut up us ui ua ub, 0, .own⟩
 have ca2 := get_ne ca (j := n) (by omega) ⟨eSt s ut up us ui ua ub, 0, .own⟩
 have cr2 := get_ne cr (j := n) (by omega) ⟨eSt s ut up us ui ua ub, 0, .own⟩
 obtain ⟨κ2, hκ2⟩ : ∃ κ2 : Nat → Nat, κ2 = fun i => if i = n then 1 else κ1 i := ⟨_, rfl⟩
 have k21 : κ2 (n + 1) = 0 := by rw [hκ2]; simp only; rw [if_neg (by omega)]; exact k11
 have k22 : κ2 (n + 2) = 6 := by rw [hκ2]; simp only; rw [if_neg (by omega)]; exact k12
 have k23 : κ2 (n + 3) = 6 := by rw [hκ2]; simp only; rw [if_neg (by omega)]; exact k13
 rw [← hκ2] at w2 F2
 obtain ⟨H2, hH2⟩ : ∃ G, H1.set n ⟨eSt s ut up us ui ua ub, 0, .own⟩ = G := ⟨_, rfl⟩
 rw [hH2] at w2 F2 cb2 ca2 cr2
 have bs1 := blk_of cs
 have ba2 : ∀ l, blkAt (H2 ++ l) (n + 2) 0 = some ⟨eAct a wt wp, 0, .own⟩ := fun l => blkAt_app (blk_of ca2) l
 have ba20 := blk_of ca2
 rw [← hn]
 have ff := aI bs1 (aI ba2 (aI ba20 (aI hH2 (aI tu tc))))
 refine runRp18_1 (x := ?_)
 clear ff
 refine SpecQ.step (c31 (rc.t.fr F2 fun _ _ => .inl rfl)) ?_
 rintro _ ⟨xt, t1, rfl, g1, r1⟩
 have y1 := g1.cell
 have ff := aI ba2 (aI ba20 (aI y1 tc))
 refine runRp18_2 (x := ?_)
 clear ff
 refine SpecQ.step (c31 ((rc.p.fr F2 fun _ _ => .inl rfl).app _)) ?_
 rintro _ ⟨xp, t2, rfl, g2, r2⟩
 have y2 := g2.cell
 simp only [List.append_assoc] at g2 ⊢
 have st2 : ∀ l v, (H2 ++ l).set (n + 2) v = H2.set (n + 2) v ++ l := fun l v => set_appL ca2 l v
 have st3 : ∀ l v w, (H2.set (n + 2) w ++ l).set (n + 2) v = H2.set (n + 2) v ++ l := fun l v w => by rw [set_appL (get_eq ca2 w), List.set_set]
 have ba3 : ∀ (v : AV) l, blkAt (H2.set (n + 2) ⟨v, 0, .own⟩ ++ l) (n + 2) 0 = some ⟨v, 0, .own⟩ := fun v l => blkAt_app (blk_of (get_eq ca2 _)) l
 have ff := aI ba2 (aI st2 (aI st3 (aI ba3 (aI y1 (aI y2 tc)))))
 refine runRp18_2 (x := ?_)
 clear ff
 obtain ⟨H3, hH3⟩ : ∃ G, G = H2.set (n + 2) (⟨eAct a xt xp, 0, .own⟩ : Blk) := ⟨_, rfl⟩
 have w3 := w2.wr (p := n + 2) k22 ⟨eAct a xt xp, 0, .own⟩
 have F3 := F2.wr (p := n + 2) (by omega) ⟨eAct a xt xp, 0, .own⟩
 have cb3 := get_ne cb2 (j := n + 2) (by omega) (⟨eAct a xt xp, 0, .own⟩ : Blk)
 have ca3 := get_eq ca2 (⟨eAct a xt xp, 0, .own⟩ : Blk)
 have cr3 := get_ne cr2 (j := n + 2) (by omega) (⟨eAct a xt xp, 0, .own⟩ : Blk)
 rw [← hH3] at w3 F3 cb3 ca3 cr3 ⊢
 have l32 : H3.length = H2.length := by rw [hH3, List.length_set]
 have ln3 : n + 3 < H3.length := (List.getElem?_eq_some_iff.1 cr3).1
 have w4 := w3.byt (t1 ++ t2)
 have F4 := F3.trans (Fr.byt (t1 ++ t2))
 have cb4 := get_app cb3 (t1 ++ t2)
 have ca4 := get_app ca3 (t1 ++ t2)
 have cr4 := get_app cr3 (t1 ++ t2)
 obtain ⟨κ4, hκ4⟩ : ∃ κ4, κ4 = byt κ2 H3.length (H3 ++ (t1 ++ t2)).length := ⟨_, rfl⟩
 rw [← hκ4] at w4 F4
 obtain ⟨H4, hH4⟩ : ∃ G, G = H3 ++ (t1 ++ t2) := ⟨_, rfl⟩
 rw [← hH4] at w4 F4 cb4 ca4 cr4 hκ4 ⊢
 have k42 : κ4 (n + 2) = 6 := by rw [hκ4, byt_old (by omega)]; exact k22
 have k43 : κ4 (n + 3) = 6 := by rw [hκ4, byt_old (by omega)]; exact k23
 have gx : BytL H4 xt a.title := by
  refine (g1.app t2).other fun i hi => ?_
  have := r1 i hi
  rw [hH4, List.append_assoc, List.getElem?_append_right (l₁ := H3) (by omega), List.getElem?_append_right (l₁ := H2) (by omega), l32]
 have gp : BytL H4 xp a.pass := by
  refine g2.other fun i hi => ?_
  have := r2 i hi
  rw [List.length_append] at this
  rw [hH4, List.getElem?_append_right (l₁ := H3) (by omega), List.getElem?_append_right (l₁ := H2) (by omega), l32]
 have kx : ∀ i, rb xt = some i → κ4 i = 7 := fun i hi => by rw [hκ4]; exact byt_in (by have := r1 i hi; omega) (gx.rb_lt' i hi)
 have kp : ∀ i, rb xp = some i → κ4 i = 7 := fun i hi => by rw [hκ4]; exact byt_in (by have := r2 i hi; rw [List.length_append] at this; omega) (gp.rb_lt' i hi)
 have bn4 := blk_of w4.cell
 have bb4 := blk_of cb4
 have ba4 := blk_of ca4
 have ff := aI bb4 (aI ba4 (aI bn4 (aI y1 (aI y2 tu))))
 refine runRp18_3 (x := ?_)
 clear ff
 have x : Sx κ4 (H4 ++ [⟨eStep n b a xt xp (roleOf s b), 0, .own⟩]) n H4.length s b a (roleOf s b) ut up us ui ua ub xt xp := ⟨w4.app _, by simp, w4.top _ (Nat.le_refl _), ⟨gx.app _, gp.app _⟩, kx, kp⟩
 refine SpecQ.step (c32 x) ?_
 rintro _ rfl
 have br : ∀ l, blkAt (H4 ++ l) (n + 3) 0 = some ⟨eSt0, 0, .own⟩ := fun l => blkAt_app (blk_of cr4) l
 have st4 : ∀ l v, (H4 ++ l).set (n + 3) v = H4.set (n + 3) v ++ l := fun l v => set_appL cr4 l v
 have br2 : ∀ (v : AV) l, blkAt (H4.set (n + 3) ⟨v, 0, .own⟩ ++ l) (n + 3) 0 = some ⟨v, 0, .own⟩ := fun v l => blkAt_app (blk_of (get_eq cr4 _)) l
 have k0 : ∀ i, i < h.length → (fun _ => 0 : Nat → Nat) i = 0 := fun _ _ => rfl
 have F5 : ∀ l, Fr (fun _ => 0) h κ4 (H4 ++ l) := fun l => F4.trans (Fr.refl _ _).app
 rcases may_split (b := b) h1 h2 with ⟨hw, ok⟩ | ⟨hw, hmd⟩
 rotate_left
 ·rw [hmd] at hst
  rw [hst]
  have ff := aI hw (aI br (aI st4 br2))
  refine runRp18_1 (x := ?_)
  clear ff
  obtain ⟨t, ht⟩ := ((F4.wr (p := n + 3) (by omega) (⟨eSt0, 0, .own⟩ : Blk)).trans (Fr.refl _ _).app).pre (H := h) k0
  exact ⟨t, by rw [← ht]; rfl⟩
 have ff := hw
 refine runRp18_1 (x := ?_)
 clear ff
 refine SpecQ.step (c33 x (srt_may h1) h1 h2 ok rfl) ?_
 rintro ⟨v, H9'⟩ ⟨κ9, H9, fr9, hm⟩
 have F9 := (F5 _).trans fr9
 have cr9 := fr9.blk (get_app cr4 _) (.inr (by rw [k43]; decide))
 have ca9 := fr9.blk (get_app ca4 _) (.inr (by rw [k42]; decide))
 cases hmd : madeP s b a with
 | error k =>
  have hk := madeP_err hmd
  rw [hmd] at hst hm
  simp only at hst hm
  cases hm
  rw [hst]
  have b9 := blk_of cr9
  have b9' : ∀ v : AV, blkAt (H9'.set (n + 3) ⟨v, 0, .own⟩) (n + 3) 0 = some ⟨v, 0, .own⟩ := fun v => blk_of (get_eq cr9 _)
  have ff := aI hk (aI b9 b9')
  refine runRp18_1 (x := ?_)
  clear ff
  obtain ⟨t, ht⟩ := (F9.wr (p := n + 3) (by omega) (⟨eSt0, 0, .own⟩ : Blk)).pre (H := h) k0
  exact ⟨t, by rw [← ht]; rfl⟩
 | ok z =>
  rw [hmd] at hst hm
  simp only at hst hm
  obtain ⟨hv, v1, v2, v3, v4, v5, v6, w9⟩ := hm
  cases hv
  rw [hst]
  have bn := blk_of w9.cell
  have ba := blk_of ca9
  have bnv : ∀ v : AV, blkAt (H9'.set n ⟨v, 0, .own⟩) n 0 = some ⟨v, 0, .own⟩ := fun v => blk_of (get_eq w9.cell _)
  have bnr : ∀ v : Blk, blkAt (H9'.set n v) (n + 3) 0 = some ⟨eSt0, 0, .own⟩ := fun v => blk_of (get_ne cr9 (by omega) _)
  have bnw : ∀ (v : Blk) (w : AV), blkAt ((H9'.set n v).set (n + 3) ⟨w, 0, .own⟩) (n + 3) 0 = some ⟨w, 0, .own⟩ := fun v w => blk_of (get_eq (get_ne cr9 (by omega) _) _)
  have tv := w9.cells
  have ff := aI bn (aI ba (aI bnv (aI bnr (aI bnw tv))))
  refine runRp18_1 (x := ?_)
  clear ff
  obtain ⟨t, ht⟩ := ((F9.wr (p := n) (by omega) (⟨eSt { z with version := a.version } v1 v2 v3 v4 v5 v6, 0, .own⟩ : Blk)).wr (p := n + 3) (by omega) (⟨eSt { z with version := a.version } v1 v2 v3 v4 v5 v6, 0, .own⟩ : Blk)).pre (H := h) k0
  have k9n : κ9 n = 1 := w9.kc
  have k93 : κ9 (n + 3) = 6 := (fr9.old _ (by rw [List.length_append, hH4, List.length_append]; omega)).trans k43
  have wz : Wp κ9 H9' { z with version := a.version } v1 v2 v3 v4 v5 v6 := ⟨w9.top, w9.ft, w9.fp, w9.kt, w9.kp, w9.fs, w9.fi, w9.fa, w9.fb⟩
  have wf := (wz.wr (.inr k9n) (⟨eSt { z with version := a.version } v1 v2 v3 v4 v5 v6, 0, .own⟩ : Blk)).wr (p := n + 3) (.inl k93) (⟨eSt { z with version := a.version } v1 v2 v3 v4 v5 v6, 0, .own⟩ : Blk)
  exact ⟨κ9, t, v1, v2, v3, v4, v5, v6, by rw [← ht]; rfl, by rw [← ht]; exact wf, fun i hi => F9.old i hi⟩
end Go.Vab

/- How the code of a function is read. Printed by wip/tools/gen2.py and gen3.py (own work). -/
namespace Go.Vab
open Go Go.Proofs
noncomputable section
def cx27 : Ctx := ⟨fun _ _ _ => none,TT,12,[4,5,6,7,8,9,10,11]⟩
def n27_0 := bodyOf Tryz.f27
def n27_1 := cR n27_0
def n27_2 := cR n27_1
def n27_3 := cR n27_2
def n27_4 := cR n27_3
def n27_5 := cR n27_4
def q27 := zQ1 cx27 27 Tryz.f27 n27_0 fun s => (bnd (mLoad tCipher (s.env.get 2) s.heap) fun v => bnd (some []) fun vs => some (v :: vs))
set_option maxRecDepth 20000
set_option maxHeartbeats 4000000
def sn27 := zAll cx27 [[n27_5],[n27_5,n27_4],[n27_4,n27_3],[n27_3,n27_2],[n27_2,n27_1],[n27_1,n27_0]]
end
end Go.Vab

/- How the code of a function is read. Printed by wip/tools/gen2.py and gen3.py (own work). -/
namespace Go.Vab
open Go Go.Proofs
noncomputable section
def cx22 : Ctx := ⟨fun _ _ _ => none,TT,16,[4,5,6,7,8,9,10,11,12,13,14,15]⟩
def n22_0 := bodyOf Tryz.f22
def n22_1 := cR n22_0
def n22_2 := cR n22_1
def n22_3 := cR n22_2
def q22 := zQ0 cx22 22 Tryz.f22 n22_0 fun s => (bnd (mLoad tState (s.env.get 0) s.heap) fun v => bnd (bnd (some (s.env.get 1)) fun v => bnd (some []) fun vs => some (v :: vs)) fun vs => some (v :: vs))
set_option maxRecDepth 20000
set_option maxHeartbeats 4000000
def sn22 := zAll cx22 [[n22_3],[n22_3,n22_2],[n22_2,n22_1],[n22_1,n22_0]]
end
end Go.Vab

/- How the code of a function is read. Printed by wip/tools/gen2.py and gen3.py (own work). -/
namespace Go.Vab
open Go Go.Proofs
noncomputable section
def cx10 : Ctx := ⟨fun _ _ _ => none,TT,60,[5,7,8,9,10,11,12,13,14,15,16,17,18,19,20,21,22,23,24,25,26,27,28,29,30,31,32,33,34,35,36,37,38,39,40,41,42,43,44,45,46,47,48,49,50,51,52,53,54,55,56,57,58,59]⟩
def n10_0 := bodyOf Tryz.f10
def n10_1 := cR n10_0
def n10_2 := cR n10_1
def n10_3 := cR n10_2
def n10_4 := cR n10_3
def n10_5 := cR n10_4
def q10 := zQ0 cx10 10 Tryz.f10 n10_0 fun s => (bnd (some (s.env.get 0)) fun v => bnd (some []) fun vs => some (v :: vs))
set_option maxRecDepth 20000
set_option maxHeartbeats 4000000
def n10_4_w := zDr cx10 [n10_5,n10_4] [] [0,1,3,7,15,31,63,127,255,511,1023,2047,4095,8191,16383,32767,65535,131071,4095,266239,1048575,2097151,4194303,8388607,16777215,33554431,67108863,134217727,268435455,536870911,1073741823,2147483647] [0,1,2,3,4,5,6,7,8,9,10,11,12,13,14,15,16,17,18,19,20,21,22,23,24,25,26,27,28,29,30,31] .f
def n10_3_w := zDr cx10 [n10_4,n10_3] [5,9,10] [0,0,2,2,10,31,63,127,127,0,767,2047] [0,1,2,3,4] (.b 5 [6,7,8] [] (.o 9 [] [0,1,3] (.o 10 [11] [] .f)) (.o 9 [] [0,1,3] (.o 5 [6,7,8] [] (.o 10 [11] [] .f))))
def n10_2_w := zDr cx10 [n10_3,n10_2] [5,9,10] [0,0,2,2,10,31,63,127,127,0,767,2047] [0,1,2,3,4] (.b 5 [6,7,8] [] (.o 9 [] [0,1,3] (.o 10 [11] [] .f)) (.o 9 [] [0,1,3] (.o 5 [6,7,8] [] (.o 10 [11] [] .f))))
def sn10 := zAll cx10 [[n10_5],[n10_2,n10_1],[n10_1,n10_0]]
end
end Go.Vab

/- How the code of a function is read. Printed by wip/tools/gen2.py and gen3.py (own work). -/
namespace Go.Vab
open Go Go.Proofs
noncomputable section
def cx9 : Ctx := ⟨fun _ _ _ => none,TT,41,[6,7,8,9,10,11,12,13,14,15,16,17,18,19,20,21,22,23,24,25,26,27,28,29,30,31,32,33,34,35,36,37,38,39,40]⟩
def n9_0 := bodyOf Tryz.f9
def n9_1 := cR n9_0
def n9_2 := cR n9_1
def n9_3 := cR n9_2
def q9 := zQ2 cx9 9 Tryz.f9 n9_0 fun s => (bnd (some (s.env.get 4)) fun v => bnd (some []) fun vs => some (v :: vs))
set_option maxRecDepth 20000
set_option maxHeartbeats 4000000
def sn9 := zAll cx9 [[n9_3],[n9_3,n9_2],[n9_2,n9_1],[n9_1,n9_0]]
end
end Go.Vab
