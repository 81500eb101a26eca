import Derived.Test.YtpejdgkaapnekaaGreatPb
import Derived.Test.YtpejdgkaapnekaaGreatKF0
import Derived.Test.YtpejdgkaapnekaaGreatKF1
import Derived.Test.YtpejdgkaapnekaaGreatKF2
import Derived.Test.YtpejdgkaapnekaaGreatKF3
import Derived.Test.YtpejdgkaapnekaaGreatKF4
import Derived.Test.YtpejdgkaapnekaaGreatKF5
import Derived.Test.YtpejdgkaapnekaaGreatKF6
import Derived.Test.YtpejdgkaapnekaaGreatKF7
import Derived.Test.YtpejdgkaapnekaaGreatKF8
import Derived.Test.YtpejdgkaapnekaaGreatKF9
import Derived.Test.YtpejdgkaapnekaaGreatKF10
import Derived.Test.YtpejdgkaapnekaaGreatKF11
import Derived.Test.YtpejdgkaapnekaaGreatKF12
import Derived.Test.YtpejdgkaapnekaaGreatKF13
import Derived.Test.YtpejdgkaapnekaaGreatKF14
set_option linter.unusedVariables false
set_option linter.unusedSimpArgs false

namespace Go.Proofs.YtpejdgkaapnekaaGreat
open Go Go.Abs
set_option maxRecDepth 1000000
theorem k0 : EntOk Tryz.prog e0 := entOk progOk (l := []) trivial b0
theorem k1 : EntOk Tryz.prog e1 := entOk progOk (l := []) trivial b1
theorem k2 : EntOk Tryz.prog e2 := entOk progOk (l := []) trivial b2
theorem k3 : EntOk Tryz.prog e3 := entOk progOk (l := []) trivial b3
theorem k4 : EntOk Tryz.prog e4 := entOk progOk (l := []) trivial b4
theorem k5 : EntOk Tryz.prog e5 := entOk progOk (l := []) trivial b5
theorem k6 : EntOk Tryz.prog e6 := entOk progOk (l := []) trivial b6
theorem k7 : EntOk Tryz.prog e7 := entOk progOk (l := []) trivial b7
theorem k8 : EntOk Tryz.prog e8 := entOk progOk (l := []) trivial b8
theorem k9 : EntOk Tryz.prog e9 := entOk progOk (l := []) trivial b9
theorem k10 : EntOk Tryz.prog e10 := entOk progOk (l := [e0, e1, e2, e3, e4, e5, e6, e7, e8, e9]) ⟨k0, k1, k2, k3, k4, k5, k6, k7, k8, k9, trivial⟩ b10
theorem k11 : EntOk Tryz.prog e11 := entOk progOk (l := []) trivial b11
theorem k12 : EntOk Tryz.prog e12 := entOk progOk (l := [e7]) ⟨k7, trivial⟩ b12
theorem k13 : EntOk Tryz.prog e13 := entOk progOk (l := []) trivial b13
theorem k14 : EntOk Tryz.prog e14 := entOk progOk (l := []) trivial b14
theorem k15 : EntOk Tryz.prog e15 := entOk progOk (l := []) trivial b15
theorem k16 : EntOk Tryz.prog e16 := entOk progOk (l := [e14, e15]) ⟨k14, k15, trivial⟩ b16
theorem k17 : EntOk Tryz.prog e17 := entOk progOk (l := []) trivial b17
theorem k18 : EntOk Tryz.prog e18 := entOk progOk (l := [e16, e17]) ⟨k16, k17, trivial⟩ b18
theorem k19 : EntOk Tryz.prog e19 := entOk progOk (l := []) trivial b19
theorem k20 : EntOk Tryz.prog e20 := entOk progOk (l := []) trivial b20
theorem k21 : EntOk Tryz.prog e21 := entOk progOk (l := [e19, e20]) ⟨k19, k20, trivial⟩ b21
theorem k22 : EntOk Tryz.prog e22 := entOk progOk (l := []) trivial b22
theorem k23 : EntOk Tryz.prog e23 := entOk progOk (l := [e22]) ⟨k22, trivial⟩ b23
theorem k24 : EntOk Tryz.prog e24 := entOk progOk (l := [e23]) ⟨k23, trivial⟩ b24
theorem k25 : EntOk Tryz.prog e25 := entOk progOk (l := [e21, e24]) ⟨k21, k24, trivial⟩ b25
theorem k26 : EntOk Tryz.prog e26 := entOk progOk (l := [e19, e20]) ⟨k19, k20, trivial⟩ b26
theorem k27 : EntOk Tryz.prog e27 := entOk progOk (l := []) trivial b27
theorem k28 : EntOk Tryz.prog e28 := entOk progOk (l := [e27]) ⟨k27, trivial⟩ b28
theorem k29 : EntOk Tryz.prog e29 := entOk progOk (l := [e28]) ⟨k28, trivial⟩ b29
theorem k30 : EntOk Tryz.prog e30 := entOk progOk (l := [e26, e29]) ⟨k26, k29, trivial⟩ b30
theorem k31 : EntOk Tryz.prog e31 := entOk progOk (l := []) trivial b31
theorem k32 : EntOk Tryz.prog e32 := entOk progOk (l := []) trivial b32
theorem k33 : EntOk Tryz.prog e33 := entOk progOk (l := [e31, e32]) ⟨k31, k32, trivial⟩ b33
theorem k34 : EntOk Tryz.prog e34 := entOk progOk (l := [e33]) ⟨k33, trivial⟩ b34
theorem k35 : EntOk Tryz.prog e35 := entOk progOk (l := [e34]) ⟨k34, trivial⟩ b35
theorem k36 : EntOk Tryz.prog e36 := entOk progOk (l := [e19, e20]) ⟨k19, k20, trivial⟩ b36
theorem k37 : EntOk Tryz.prog e37 := entOk progOk (l := []) trivial b37
theorem k38 : EntOk Tryz.prog e38 := entOk progOk (l := [e37]) ⟨k37, trivial⟩ b38
theorem k39 : EntOk Tryz.prog e39 := entOk progOk (l := [e38]) ⟨k38, trivial⟩ b39
theorem k40 : EntOk Tryz.prog e40 := entOk progOk (l := [e36, e39]) ⟨k36, k39, trivial⟩ b40
theorem k41 : EntOk Tryz.prog e41 := entOk progOk (l := [e32]) ⟨k32, trivial⟩ b41
theorem k42 : EntOk Tryz.prog e42 := entOk progOk (l := [e41, e33]) ⟨k41, k33, trivial⟩ b42
theorem k43 : EntOk Tryz.prog e43 := entOk progOk (l := [e42]) ⟨k42, trivial⟩ b43
theorem k44 : EntOk Tryz.prog e44 := entOk progOk (l := [e19, e20]) ⟨k19, k20, trivial⟩ b44
theorem k45 : EntOk Tryz.prog e45 := entOk progOk (l := []) trivial b45
theorem k46 : EntOk Tryz.prog e46 := entOk progOk (l := [e45]) ⟨k45, trivial⟩ b46
theorem k47 : EntOk Tryz.prog e47 := entOk progOk (l := [e46]) ⟨k46, trivial⟩ b47
theorem k48 : EntOk Tryz.prog e48 := entOk progOk (l := [e44, e47]) ⟨k44, k47, trivial⟩ b48
theorem k49 : EntOk Tryz.prog e49 := entOk progOk (l := []) trivial b49
theorem k50 : EntOk Tryz.prog e50 := entOk progOk (l := [e32, e49]) ⟨k32, k49, trivial⟩ b50
theorem k51 : EntOk Tryz.prog e51 := entOk progOk (l := [e50]) ⟨k50, trivial⟩ b51
theorem k52 : EntOk Tryz.prog e52 := entOk progOk (l := [e51]) ⟨k51, trivial⟩ b52
theorem k53 : EntOk Tryz.prog e53 := entOk progOk (l := [e18, e25, e30, e35, e40, e43, e48, e52]) ⟨k18, k25, k30, k35, k40, k43, k48, k52, trivial⟩ b53
theorem k54 : EntOk Tryz.prog e54 := entOk progOk (l := []) trivial b54
theorem k55 : EntOk Tryz.prog e55 := entOk progOk (l := [e54]) ⟨k54, trivial⟩ b55
theorem k56 : EntOk Tryz.prog e56 := entOk progOk (l := [e55]) ⟨k55, trivial⟩ b56
theorem k57 : EntOk Tryz.prog e57 := entOk progOk (l := [e56]) ⟨k56, trivial⟩ b57
theorem k58 : EntOk Tryz.prog e58 := entOk progOk (l := [e55]) ⟨k55, trivial⟩ b58
theorem k59 : EntOk Tryz.prog e59 := entOk progOk (l := [e58]) ⟨k58, trivial⟩ b59
theorem k60 : EntOk Tryz.prog e60 := entOk progOk (l := [e57, e59]) ⟨k57, k59, trivial⟩ b60
theorem k61 : EntOk Tryz.prog e61 := entOk progOk (l := [e60]) ⟨k60, trivial⟩ b61
theorem k62 : EntOk Tryz.prog e62 := entOk progOk (l := [e61]) ⟨k61, trivial⟩ b62
theorem k63 : EntOk Tryz.prog e63 := entOk progOk (l := []) trivial b63
theorem k64 : EntOk Tryz.prog e64 := entOk progOk (l := []) trivial b64
theorem k65 : EntOk Tryz.prog e65 := entOk progOk (l := [e64]) ⟨k64, trivial⟩ b65
theorem k66 : EntOk Tryz.prog e66 := entOk progOk (l := [e46]) ⟨k46, trivial⟩ b66
theorem k67 : EntOk Tryz.prog e67 := entOk progOk (l := [e64, e66]) ⟨k64, k66, trivial⟩ b67
theorem k68 : EntOk Tryz.prog e68 := entOk progOk (l := [e64]) ⟨k64, trivial⟩ b68
theorem k69 : EntOk Tryz.prog e69 := entOk progOk (l := [e62, e63, e65, e67, e68]) ⟨k62, k63, k65, k67, k68, trivial⟩ b69
theorem k70 : EntOk Tryz.prog e70 := entOk progOk (l := []) trivial b70
theorem k71 : EntOk Tryz.prog e71 := entOk progOk (l := [e70]) ⟨k70, trivial⟩ b71
theorem k72 : EntOk Tryz.prog e72 := entOk progOk (l := [e71]) ⟨k71, trivial⟩ b72
theorem k73 : EntOk Tryz.prog e73 := entOk progOk (l := [e72]) ⟨k72, trivial⟩ b73
theorem k74 : EntOk Tryz.prog e74 := entOk progOk (l := [e73]) ⟨k73, trivial⟩ b74
theorem k75 : EntOk Tryz.prog e75 := entOk progOk (l := [e46]) ⟨k46, trivial⟩ b75
theorem k76 : EntOk Tryz.prog e76 := entOk progOk (l := [e75, e47]) ⟨k75, k47, trivial⟩ b76
theorem k77 : EntOk Tryz.prog e77 := entOk progOk (l := []) trivial b77
theorem k78 : EntOk Tryz.prog e78 := entOk progOk (l := []) trivial b78
theorem k79 : EntOk Tryz.prog e79 := entOk progOk (l := []) trivial b79
theorem k80 : EntOk Tryz.prog e80 := entOk progOk (l := []) trivial b80
theorem k81 : EntOk Tryz.prog e81 := entOk progOk (l := [e78]) ⟨k78, trivial⟩ b81
theorem k82 : EntOk Tryz.prog e82 := entOk progOk (l := [e78]) ⟨k78, trivial⟩ b82
theorem k83 : EntOk Tryz.prog e83 := entOk progOk (l := [e78]) ⟨k78, trivial⟩ b83
theorem k84 : EntOk Tryz.prog e84 := entOk progOk (l := []) trivial b84
theorem k85 : EntOk Tryz.prog e85 := entOk progOk (l := []) trivial b85
theorem k86 : EntOk Tryz.prog e86 := entOk progOk (l := []) trivial b86
theorem k87 : EntOk Tryz.prog e87 := entOk progOk (l := []) trivial b87
theorem k88 : EntOk Tryz.prog e88 := entOk progOk (l := []) trivial b88
theorem k89 : EntOk Tryz.prog e89 := entOk progOk (l := []) trivial b89
theorem k90 : EntOk Tryz.prog e90 := entOk progOk (l := [e77]) ⟨k77, trivial⟩ b90
theorem k91 : EntOk Tryz.prog e91 := entOk progOk (l := [e77]) ⟨k77, trivial⟩ b91
theorem k92 : EntOk Tryz.prog e92 := entOk progOk (l := [e77, e78, e79, e80, e81, e82, e83, e84, e85, e86, e87, e88, e89, e90, e91]) ⟨k77, k78, k79, k80, k81, k82, k83, k84, k85, k86, k87, k88, k89, k90, k91, trivial⟩ b92
theorem k93 : EntOk Tryz.prog e93 := entOk progOk (l := []) trivial b93
theorem k94 : EntOk Tryz.prog e94 := entOk progOk (l := []) trivial b94
theorem k95 : EntOk Tryz.prog e95 := entOk progOk (l := [e93, e94]) ⟨k93, k94, trivial⟩ b95
theorem k96 : EntOk Tryz.prog e96 := entOk progOk (l := [e95]) ⟨k95, trivial⟩ b96
theorem k97 : EntOk Tryz.prog e97 := entOk progOk (l := [e92, e96]) ⟨k92, k96, trivial⟩ b97
theorem k98 : EntOk Tryz.prog e98 := entOk progOk (l := [e63, e74, e76, e97]) ⟨k63, k74, k76, k97, trivial⟩ b98
theorem k99 : EntOk Tryz.prog e99 := entOk progOk (l := [e53, e69, e98]) ⟨k53, k69, k98, trivial⟩ b99
theorem k100 : EntOk Tryz.prog e100 := entOk progOk (l := []) trivial b100
theorem k101 : EntOk Tryz.prog e101 := entOk progOk (l := []) trivial b101
theorem k102 : EntOk Tryz.prog e102 := entOk progOk (l := [e55]) ⟨k55, trivial⟩ b102
theorem k103 : EntOk Tryz.prog e103 := entOk progOk (l := [e102]) ⟨k102, trivial⟩ b103
theorem k104 : EntOk Tryz.prog e104 := entOk progOk (l := [e57, e103]) ⟨k57, k103, trivial⟩ b104
theorem k105 : EntOk Tryz.prog e105 := entOk progOk (l := [e104]) ⟨k104, trivial⟩ b105
theorem k106 : EntOk Tryz.prog e106 := entOk progOk (l := [e105]) ⟨k105, trivial⟩ b106
theorem k107 : EntOk Tryz.prog e107 := entOk progOk (l := []) trivial b107
theorem k108 : EntOk Tryz.prog e108 := entOk progOk (l := [e64]) ⟨k64, trivial⟩ b108
theorem k109 : EntOk Tryz.prog e109 := entOk progOk (l := [e64]) ⟨k64, trivial⟩ b109
theorem k110 : EntOk Tryz.prog e110 := entOk progOk (l := [e106, e107, e65, e108, e109]) ⟨k106, k107, k65, k108, k109, trivial⟩ b110
theorem k111 : EntOk Tryz.prog e111 := entOk progOk (l := [e70]) ⟨k70, trivial⟩ b111
theorem k112 : EntOk Tryz.prog e112 := entOk progOk (l := [e111]) ⟨k111, trivial⟩ b112
theorem k113 : EntOk Tryz.prog e113 := entOk progOk (l := [e112]) ⟨k112, trivial⟩ b113
theorem k114 : EntOk Tryz.prog e114 := entOk progOk (l := [e113]) ⟨k113, trivial⟩ b114
theorem k115 : EntOk Tryz.prog e115 := entOk progOk (l := [e107, e74, e114]) ⟨k107, k74, k114, trivial⟩ b115
theorem k116 : EntOk Tryz.prog e116 := entOk progOk (l := [e53, e110, e115]) ⟨k53, k110, k115, trivial⟩ b116
theorem k117 : EntOk Tryz.prog e117 := entOk progOk (l := [e53]) ⟨k53, trivial⟩ b117
theorem k118 : EntOk Tryz.prog e118 := entOk progOk (l := [e117]) ⟨k117, trivial⟩ b118
theorem k119 : EntOk Tryz.prog e119 := entOk progOk (l := [e118]) ⟨k118, trivial⟩ b119
theorem k120 : EntOk Tryz.prog e120 := entOk progOk (l := [e119]) ⟨k119, trivial⟩ b120
theorem k121 : EntOk Tryz.prog e121 := entOk progOk (l := []) trivial b121
theorem k122 : EntOk Tryz.prog e122 := entOk progOk (l := []) trivial b122
theorem k123 : EntOk Tryz.prog e123 := entOk progOk (l := []) trivial b123
theorem k124 : EntOk Tryz.prog e124 := entOk progOk (l := []) trivial b124
theorem k125 : EntOk Tryz.prog e125 := entOk progOk (l := []) trivial b125
theorem k126 : EntOk Tryz.prog e126 := entOk progOk (l := []) trivial b126
theorem k127 : EntOk Tryz.prog e127 := entOk progOk (l := []) trivial b127
theorem k128 : EntOk Tryz.prog e128 := entOk progOk (l := []) trivial b128
theorem k129 : EntOk Tryz.prog e129 := entOk progOk (l := []) trivial b129
theorem k130 : EntOk Tryz.prog e130 := entOk progOk (l := []) trivial b130
theorem k131 : EntOk Tryz.prog e131 := entOk progOk (l := [e130]) ⟨k130, trivial⟩ b131
theorem k132 : EntOk Tryz.prog e132 := entOk progOk (l := []) trivial b132
theorem k133 : EntOk Tryz.prog e133 := entOk progOk (l := [e132]) ⟨k132, trivial⟩ b133
theorem k134 : EntOk Tryz.prog e134 := entOk progOk (l := [e131, e133]) ⟨k131, k133, trivial⟩ b134
theorem k135 : EntOk Tryz.prog e135 := entOk progOk (l := [e126, e127, e128, e129, e134]) ⟨k126, k127, k128, k129, k134, trivial⟩ b135
theorem k136 : EntOk Tryz.prog e136 := entOk progOk (l := [e120, e121, e122, e123, e124, e125, e135]) ⟨k120, k121, k122, k123, k124, k125, k135, trivial⟩ b136
theorem k137 : EntOk Tryz.prog e137 := entOk progOk (l := []) trivial b137
theorem k138 : EntOk Tryz.prog e138 := entOk progOk (l := []) trivial b138
theorem k139 : EntOk Tryz.prog e139 := entOk progOk (l := []) trivial b139
theorem k140 : EntOk Tryz.prog e140 := entOk progOk (l := []) trivial b140
theorem k141 : EntOk Tryz.prog e141 := entOk progOk (l := []) trivial b141
theorem k142 : EntOk Tryz.prog e142 := entOk progOk (l := []) trivial b142
theorem k143 : EntOk Tryz.prog e143 := entOk progOk (l := []) trivial b143
theorem k144 : EntOk Tryz.prog e144 := entOk progOk (l := [e142, e143]) ⟨k142, k143, trivial⟩ b144
theorem k145 : EntOk Tryz.prog e145 := entOk progOk (l := [e140, e141, e144]) ⟨k140, k141, k144, trivial⟩ b145
theorem k146 : EntOk Tryz.prog e146 := entOk progOk (l := [e145]) ⟨k145, trivial⟩ b146
theorem k147 : EntOk Tryz.prog e147 := entOk progOk (l := []) trivial b147
theorem k148 : EntOk Tryz.prog e148 := entOk progOk (l := [e61]) ⟨k61, trivial⟩ b148
theorem k149 : EntOk Tryz.prog e149 := entOk progOk (l := []) trivial b149
theorem k150 : EntOk Tryz.prog e150 := entOk progOk (l := [e64]) ⟨k64, trivial⟩ b150
theorem k151 : EntOk Tryz.prog e151 := entOk progOk (l := [e148, e149, e65, e67, e150]) ⟨k148, k149, k65, k67, k150, trivial⟩ b151
theorem k152 : EntOk Tryz.prog e152 := entOk progOk (l := [e77, e78, e79, e80, e81, e82, e83, e84, e85, e86, e87, e88, e89, e90, e91]) ⟨k77, k78, k79, k80, k81, k82, k83, k84, k85, k86, k87, k88, k89, k90, k91, trivial⟩ b152
theorem k153 : EntOk Tryz.prog e153 := entOk progOk (l := [e94]) ⟨k94, trivial⟩ b153
theorem k154 : EntOk Tryz.prog e154 := entOk progOk (l := [e152, e153]) ⟨k152, k153, trivial⟩ b154
theorem k155 : EntOk Tryz.prog e155 := entOk progOk (l := [e149, e74, e76, e154]) ⟨k149, k74, k76, k154, trivial⟩ b155
theorem k156 : EntOk Tryz.prog e156 := entOk progOk (l := [e53, e151, e155]) ⟨k53, k151, k155, trivial⟩ b156
theorem k157 : EntOk Tryz.prog e157 := entOk progOk (l := []) trivial b157
theorem k158 : EntOk Tryz.prog e158 := entOk progOk (l := [e157]) ⟨k157, trivial⟩ b158
theorem k159 : EntOk Tryz.prog e159 := entOk progOk (l := []) trivial b159
theorem k160 : EntOk Tryz.prog e160 := entOk progOk (l := []) trivial b160
theorem k161 : EntOk Tryz.prog e161 := entOk progOk (l := [e160]) ⟨k160, trivial⟩ b161
theorem k162 : EntOk Tryz.prog e162 := entOk progOk (l := [e161]) ⟨k161, trivial⟩ b162
theorem k163 : EntOk Tryz.prog e163 := entOk progOk (l := []) trivial b163
theorem k164 : EntOk Tryz.prog e164 := entOk progOk (l := [e163]) ⟨k163, trivial⟩ b164
theorem k165 : EntOk Tryz.prog e165 := entOk progOk (l := [e164]) ⟨k164, trivial⟩ b165
theorem k166 : EntOk Tryz.prog e166 := entOk progOk (l := [e162, e165]) ⟨k162, k165, trivial⟩ b166
theorem k167 : EntOk Tryz.prog e167 := entOk progOk (l := []) trivial b167
theorem k168 : EntOk Tryz.prog e168 := entOk progOk (l := [e167]) ⟨k167, trivial⟩ b168
theorem k169 : EntOk Tryz.prog e169 := entOk progOk (l := [e168]) ⟨k168, trivial⟩ b169
theorem k170 : EntOk Tryz.prog e170 := entOk progOk (l := [e169, e165]) ⟨k169, k165, trivial⟩ b170
theorem k171 : EntOk Tryz.prog e171 := entOk progOk (l := []) trivial b171
theorem k172 : EntOk Tryz.prog e172 := entOk progOk (l := []) trivial b172
theorem k173 : EntOk Tryz.prog e173 := entOk progOk (l := [e160]) ⟨k160, trivial⟩ b173
theorem k174 : EntOk Tryz.prog e174 := entOk progOk (l := [e167]) ⟨k167, trivial⟩ b174
theorem k175 : EntOk Tryz.prog e175 := entOk progOk (l := [e163]) ⟨k163, trivial⟩ b175
theorem k176 : EntOk Tryz.prog e176 := entOk progOk (l := []) trivial b176
theorem k177 : EntOk Tryz.prog e177 := entOk progOk (l := []) trivial b177
theorem k178 : EntOk Tryz.prog e178 := entOk progOk (l := []) trivial b178
theorem k179 : EntOk Tryz.prog e179 := entOk progOk (l := [e177, e178]) ⟨k177, k178, trivial⟩ b179
theorem k180 : EntOk Tryz.prog e180 := entOk progOk (l := []) trivial b180
theorem k181 : EntOk Tryz.prog e181 := entOk progOk (l := [e178]) ⟨k178, trivial⟩ b181
theorem k182 : EntOk Tryz.prog e182 := entOk progOk (l := []) trivial b182
theorem k183 : EntOk Tryz.prog e183 := entOk progOk (l := [e182]) ⟨k182, trivial⟩ b183
theorem k184 : EntOk Tryz.prog e184 := entOk progOk (l := [e180, e181, e183]) ⟨k180, k181, k183, trivial⟩ b184
theorem k185 : EntOk Tryz.prog e185 := entOk progOk (l := [e184]) ⟨k184, trivial⟩ b185
theorem k186 : EntOk Tryz.prog e186 := entOk progOk (l := []) trivial b186
theorem k187 : EntOk Tryz.prog e187 := entOk progOk (l := [e185, e186]) ⟨k185, k186, trivial⟩ b187
theorem k188 : EntOk Tryz.prog e188 := entOk progOk (l := [e171, e172, e173, e174, e175, e176, e179, e187]) ⟨k171, k172, k173, k174, k175, k176, k179, k187, trivial⟩ b188
theorem k189 : EntOk Tryz.prog e189 := entOk progOk (l := [e188]) ⟨k188, trivial⟩ b189
theorem k190 : EntOk Tryz.prog e190 := entOk progOk (l := []) trivial b190
theorem k191 : EntOk Tryz.prog e191 := entOk progOk (l := [e190]) ⟨k190, trivial⟩ b191
theorem k192 : EntOk Tryz.prog e192 := entOk progOk (l := [e189, e191]) ⟨k189, k191, trivial⟩ b192
theorem k193 : EntOk Tryz.prog e193 := entOk progOk (l := [e159, e166, e170, e192]) ⟨k159, k166, k170, k192, trivial⟩ b193
theorem k194 : EntOk Tryz.prog e194 := entOk progOk (l := []) trivial b194
theorem k195 : EntOk Tryz.prog e195 := entOk progOk (l := []) trivial b195
theorem k196 : EntOk Tryz.prog e196 := entOk progOk (l := [e193, e194, e195]) ⟨k193, k194, k195, trivial⟩ b196
theorem k197 : EntOk Tryz.prog e197 := entOk progOk (l := [e152, e23, e46, e158, e196]) ⟨k152, k23, k46, k158, k196, trivial⟩ b197
theorem k198 : EntOk Tryz.prog e198 := entOk progOk (l := [e149, e74, e197]) ⟨k149, k74, k197, trivial⟩ b198
theorem k199 : EntOk Tryz.prog e199 := entOk progOk (l := [e157]) ⟨k157, trivial⟩ b199
theorem k200 : EntOk Tryz.prog e200 := entOk progOk (l := []) trivial b200
theorem k201 : EntOk Tryz.prog e201 := entOk progOk (l := [e200]) ⟨k200, trivial⟩ b201
theorem k202 : EntOk Tryz.prog e202 := entOk progOk (l := [e201]) ⟨k201, trivial⟩ b202
theorem k203 : EntOk Tryz.prog e203 := entOk progOk (l := [e202, e165]) ⟨k202, k165, trivial⟩ b203
theorem k204 : EntOk Tryz.prog e204 := entOk progOk (l := []) trivial b204
theorem k205 : EntOk Tryz.prog e205 := entOk progOk (l := [e200]) ⟨k200, trivial⟩ b205
theorem k206 : EntOk Tryz.prog e206 := entOk progOk (l := []) trivial b206
theorem k207 : EntOk Tryz.prog e207 := entOk progOk (l := []) trivial b207
theorem k208 : EntOk Tryz.prog e208 := entOk progOk (l := []) trivial b208
theorem k209 : EntOk Tryz.prog e209 := entOk progOk (l := [e207, e208]) ⟨k207, k208, trivial⟩ b209
theorem k210 : EntOk Tryz.prog e210 := entOk progOk (l := []) trivial b210
theorem k211 : EntOk Tryz.prog e211 := entOk progOk (l := [e208]) ⟨k208, trivial⟩ b211
theorem k212 : EntOk Tryz.prog e212 := entOk progOk (l := [e210, e211, e183]) ⟨k210, k211, k183, trivial⟩ b212
theorem k213 : EntOk Tryz.prog e213 := entOk progOk (l := [e212]) ⟨k212, trivial⟩ b213
theorem k214 : EntOk Tryz.prog e214 := entOk progOk (l := [e213, e186]) ⟨k213, k186, trivial⟩ b214
theorem k215 : EntOk Tryz.prog e215 := entOk progOk (l := [e204, e172, e205, e174, e175, e206, e209, e214]) ⟨k204, k172, k205, k174, k175, k206, k209, k214, trivial⟩ b215
theorem k216 : EntOk Tryz.prog e216 := entOk progOk (l := [e215]) ⟨k215, trivial⟩ b216
theorem k217 : EntOk Tryz.prog e217 := entOk progOk (l := [e171]) ⟨k171, trivial⟩ b217
theorem k218 : EntOk Tryz.prog e218 := entOk progOk (l := [e216, e217]) ⟨k216, k217, trivial⟩ b218
theorem k219 : EntOk Tryz.prog e219 := entOk progOk (l := [e159, e203, e170, e218]) ⟨k159, k203, k170, k218, trivial⟩ b219
theorem k220 : EntOk Tryz.prog e220 := entOk progOk (l := [e219, e194, e195]) ⟨k219, k194, k195, trivial⟩ b220
theorem k221 : EntOk Tryz.prog e221 := entOk progOk (l := [e152, e28, e46, e199, e220]) ⟨k152, k28, k46, k199, k220, trivial⟩ b221
theorem k222 : EntOk Tryz.prog e222 := entOk progOk (l := [e149, e74, e221]) ⟨k149, k74, k221, trivial⟩ b222
theorem k223 : EntOk Tryz.prog e223 := entOk progOk (l := []) trivial b223
theorem k224 : EntOk Tryz.prog e224 := entOk progOk (l := [e152, e38, e46, e223]) ⟨k152, k38, k46, k223, trivial⟩ b224
theorem k225 : EntOk Tryz.prog e225 := entOk progOk (l := [e149, e74, e224]) ⟨k149, k74, k224, trivial⟩ b225
theorem k226 : EntOk Tryz.prog e226 := entOk progOk (l := [e157]) ⟨k157, trivial⟩ b226
theorem k227 : EntOk Tryz.prog e227 := entOk progOk (l := []) trivial b227
theorem k228 : EntOk Tryz.prog e228 := entOk progOk (l := []) trivial b228
theorem k229 : EntOk Tryz.prog e229 := entOk progOk (l := []) trivial b229
theorem k230 : EntOk Tryz.prog e230 := entOk progOk (l := [e228, e229]) ⟨k228, k229, trivial⟩ b230
theorem k231 : EntOk Tryz.prog e231 := entOk progOk (l := []) trivial b231
theorem k232 : EntOk Tryz.prog e232 := entOk progOk (l := [e231]) ⟨k231, trivial⟩ b232
theorem k233 : EntOk Tryz.prog e233 := entOk progOk (l := [e232]) ⟨k232, trivial⟩ b233
theorem k234 : EntOk Tryz.prog e234 := entOk progOk (l := [e233, e186]) ⟨k233, k186, trivial⟩ b234
theorem k235 : EntOk Tryz.prog e235 := entOk progOk (l := [e172, e174, e175, e227, e230, e234]) ⟨k172, k174, k175, k227, k230, k234, trivial⟩ b235
theorem k236 : EntOk Tryz.prog e236 := entOk progOk (l := [e235]) ⟨k235, trivial⟩ b236
theorem k237 : EntOk Tryz.prog e237 := entOk progOk (l := []) trivial b237
theorem k238 : EntOk Tryz.prog e238 := entOk progOk (l := [e237]) ⟨k237, trivial⟩ b238
theorem k239 : EntOk Tryz.prog e239 := entOk progOk (l := [e236, e238]) ⟨k236, k238, trivial⟩ b239
theorem k240 : EntOk Tryz.prog e240 := entOk progOk (l := [e159, e170, e239]) ⟨k159, k170, k239, trivial⟩ b240
theorem k241 : EntOk Tryz.prog e241 := entOk progOk (l := []) trivial b241
theorem k242 : EntOk Tryz.prog e242 := entOk progOk (l := []) trivial b242
theorem k243 : EntOk Tryz.prog e243 := entOk progOk (l := [e240, e241, e242]) ⟨k240, k241, k242, trivial⟩ b243
theorem k244 : EntOk Tryz.prog e244 := entOk progOk (l := [e152, e46, e226, e243]) ⟨k152, k46, k226, k243, trivial⟩ b244
theorem k245 : EntOk Tryz.prog e245 := entOk progOk (l := [e149, e74, e244]) ⟨k149, k74, k244, trivial⟩ b245
theorem k246 : EntOk Tryz.prog e246 := entOk progOk (l := []) trivial b246
theorem k247 : EntOk Tryz.prog e247 := entOk progOk (l := []) trivial b247
theorem k248 : EntOk Tryz.prog e248 := entOk progOk (l := []) trivial b248
theorem k249 : EntOk Tryz.prog e249 := entOk progOk (l := []) trivial b249
theorem k250 : EntOk Tryz.prog e250 := entOk progOk (l := [e249]) ⟨k249, trivial⟩ b250
theorem k251 : EntOk Tryz.prog e251 := entOk progOk (l := [e32, e31]) ⟨k32, k31, trivial⟩ b251
theorem k252 : EntOk Tryz.prog e252 := entOk progOk (l := [e251]) ⟨k251, trivial⟩ b252
theorem k253 : EntOk Tryz.prog e253 := entOk progOk (l := [e252]) ⟨k252, trivial⟩ b253
theorem k254 : EntOk Tryz.prog e254 := entOk progOk (l := [e253]) ⟨k253, trivial⟩ b254
theorem k255 : EntOk Tryz.prog e255 := entOk progOk (l := [e254]) ⟨k254, trivial⟩ b255
theorem k256 : EntOk Tryz.prog e256 := entOk progOk (l := [e255]) ⟨k255, trivial⟩ b256
theorem k257 : EntOk Tryz.prog e257 := entOk progOk (l := [e250, e256]) ⟨k250, k256, trivial⟩ b257
theorem k258 : EntOk Tryz.prog e258 := entOk progOk (l := [e246, e127, e247, e248, e128, e129, e257]) ⟨k246, k127, k247, k248, k128, k129, k257, trivial⟩ b258
theorem k259 : EntOk Tryz.prog e259 := entOk progOk (l := [e156, e198, e222, e225, e245, e258]) ⟨k156, k198, k222, k225, k245, k258, trivial⟩ b259
theorem k260 : EntOk Tryz.prog e260 := entOk progOk (l := []) trivial b260
theorem k261 : EntOk Tryz.prog e261 := entOk progOk (l := []) trivial b261
theorem k262 : EntOk Tryz.prog e262 := entOk progOk (l := []) trivial b262
theorem k263 : EntOk Tryz.prog e263 := entOk progOk (l := []) trivial b263
theorem k264 : EntOk Tryz.prog e264 := entOk progOk (l := [e262, e263, e142, e143]) ⟨k262, k263, k142, k143, trivial⟩ b264
theorem k265 : EntOk Tryz.prog e265 := entOk progOk (l := [e261, e141, e264]) ⟨k261, k141, k264, trivial⟩ b265
theorem k266 : EntOk Tryz.prog e266 := entOk progOk (l := [e265]) ⟨k265, trivial⟩ b266
theorem k267 : EntOk Tryz.prog e267 := entOk progOk (l := []) trivial b267
theorem k268 : EntOk Tryz.prog e268 := entOk progOk (l := []) trivial b268
theorem k269 : EntOk Tryz.prog e269 := entOk progOk (l := [e268]) ⟨k268, trivial⟩ b269
theorem k270 : EntOk Tryz.prog e270 := entOk progOk (l := [e269, e17]) ⟨k269, k17, trivial⟩ b270
theorem k271 : EntOk Tryz.prog e271 := entOk progOk (l := [e16]) ⟨k16, trivial⟩ b271
theorem k272 : EntOk Tryz.prog e272 := entOk progOk (l := []) trivial b272
theorem k273 : EntOk Tryz.prog e273 := entOk progOk (l := []) trivial b273
theorem k274 : EntOk Tryz.prog e274 := entOk progOk (l := [e272, e273]) ⟨k272, k273, trivial⟩ b274
theorem k275 : EntOk Tryz.prog e275 := entOk progOk (l := [e274]) ⟨k274, trivial⟩ b275
theorem k276 : EntOk Tryz.prog e276 := entOk progOk (l := []) trivial b276
theorem k277 : EntOk Tryz.prog e277 := entOk progOk (l := []) trivial b277
theorem k278 : EntOk Tryz.prog e278 := entOk progOk (l := [e271, e275, e276, e277]) ⟨k271, k275, k276, k277, trivial⟩ b278
theorem k279 : EntOk Tryz.prog e279 := entOk progOk (l := [e269]) ⟨k269, trivial⟩ b279
theorem k280 : EntOk Tryz.prog e280 := entOk progOk (l := []) trivial b280
theorem k281 : EntOk Tryz.prog e281 := entOk progOk (l := [e280]) ⟨k280, trivial⟩ b281
theorem k282 : EntOk Tryz.prog e282 := entOk progOk (l := [e281]) ⟨k281, trivial⟩ b282
theorem k283 : EntOk Tryz.prog e283 := entOk progOk (l := []) trivial b283
theorem k284 : EntOk Tryz.prog e284 := entOk progOk (l := [e279, e282, e283]) ⟨k279, k282, k283, trivial⟩ b284
theorem k285 : EntOk Tryz.prog e285 := entOk progOk (l := [e278, e21, e276, e277]) ⟨k278, k21, k276, k277, trivial⟩ b285
theorem k286 : EntOk Tryz.prog e286 := entOk progOk (l := []) trivial b286
theorem k287 : EntOk Tryz.prog e287 := entOk progOk (l := [e284, e286, e283]) ⟨k284, k286, k283, trivial⟩ b287
theorem k288 : EntOk Tryz.prog e288 := entOk progOk (l := [e278, e26, e276, e277]) ⟨k278, k26, k276, k277, trivial⟩ b288
theorem k289 : EntOk Tryz.prog e289 := entOk progOk (l := [e284, e286, e283]) ⟨k284, k286, k283, trivial⟩ b289
theorem k290 : EntOk Tryz.prog e290 := entOk progOk (l := [e278, e36, e276, e277]) ⟨k278, k36, k276, k277, trivial⟩ b290
theorem k291 : EntOk Tryz.prog e291 := entOk progOk (l := [e284, e286, e283]) ⟨k284, k286, k283, trivial⟩ b291
theorem k292 : EntOk Tryz.prog e292 := entOk progOk (l := [e278, e44, e276, e277]) ⟨k278, k44, k276, k277, trivial⟩ b292
theorem k293 : EntOk Tryz.prog e293 := entOk progOk (l := [e284, e286, e283]) ⟨k284, k286, k283, trivial⟩ b293
theorem k294 : EntOk Tryz.prog e294 := entOk progOk (l := []) trivial b294
theorem k295 : EntOk Tryz.prog e295 := entOk progOk (l := []) trivial b295
theorem k296 : EntOk Tryz.prog e296 := entOk progOk (l := []) trivial b296
theorem k297 : EntOk Tryz.prog e297 := entOk progOk (l := []) trivial b297
theorem k298 : EntOk Tryz.prog e298 := entOk progOk (l := []) trivial b298
theorem k299 : EntOk Tryz.prog e299 := entOk progOk (l := []) trivial b299
theorem k300 : EntOk Tryz.prog e300 := entOk progOk (l := []) trivial b300
theorem k301 : EntOk Tryz.prog e301 := entOk progOk (l := []) trivial b301
theorem k302 : EntOk Tryz.prog e302 := entOk progOk (l := [e301]) ⟨k301, trivial⟩ b302
theorem k303 : EntOk Tryz.prog e303 := entOk progOk (l := [e49, e32]) ⟨k49, k32, trivial⟩ b303
theorem k304 : EntOk Tryz.prog e304 := entOk progOk (l := [e303]) ⟨k303, trivial⟩ b304
theorem k305 : EntOk Tryz.prog e305 := entOk progOk (l := [e304]) ⟨k304, trivial⟩ b305
theorem k306 : EntOk Tryz.prog e306 := entOk progOk (l := [e305]) ⟨k305, trivial⟩ b306
theorem k307 : EntOk Tryz.prog e307 := entOk progOk (l := []) trivial b307
theorem k308 : EntOk Tryz.prog e308 := entOk progOk (l := [e307, e49]) ⟨k307, k49, trivial⟩ b308
theorem k309 : EntOk Tryz.prog e309 := entOk progOk (l := [e308]) ⟨k308, trivial⟩ b309
theorem k310 : EntOk Tryz.prog e310 := entOk progOk (l := [e309]) ⟨k309, trivial⟩ b310
theorem k311 : EntOk Tryz.prog e311 := entOk progOk (l := [e310]) ⟨k310, trivial⟩ b311
theorem k312 : EntOk Tryz.prog e312 := entOk progOk (l := []) trivial b312
theorem k313 : EntOk Tryz.prog e313 := entOk progOk (l := [e312, e307]) ⟨k312, k307, trivial⟩ b313
theorem k314 : EntOk Tryz.prog e314 := entOk progOk (l := [e313]) ⟨k313, trivial⟩ b314
theorem k315 : EntOk Tryz.prog e315 := entOk progOk (l := [e314]) ⟨k314, trivial⟩ b315
theorem k316 : EntOk Tryz.prog e316 := entOk progOk (l := [e315]) ⟨k315, trivial⟩ b316
theorem k317 : EntOk Tryz.prog e317 := entOk progOk (l := [e306, e311, e316]) ⟨k306, k311, k316, trivial⟩ b317
theorem k318 : EntOk Tryz.prog e318 := entOk progOk (l := [e317]) ⟨k317, trivial⟩ b318
theorem k319 : EntOk Tryz.prog e319 := entOk progOk (l := [e302, e318]) ⟨k302, k318, trivial⟩ b319
theorem k320 : EntOk Tryz.prog e320 := entOk progOk (l := [e294, e127, e295, e248, e296, e129, e297, e298, e299, e300, e319]) ⟨k294, k127, k295, k248, k296, k129, k297, k298, k299, k300, k319, trivial⟩ b320
theorem k321 : EntOk Tryz.prog e321 := entOk progOk (l := [e120, e270, e278, e284, e285, e287, e288, e289, e290, e291, e292, e293, e320]) ⟨k120, k270, k278, k284, k285, k287, k288, k289, k290, k291, k292, k293, k320, trivial⟩ b321
theorem k322 : EntOk Tryz.prog e322 := entOk progOk (l := []) trivial b322
theorem k323 : EntOk Tryz.prog e323 := entOk progOk (l := []) trivial b323
theorem k324 : EntOk Tryz.prog e324 := entOk progOk (l := []) trivial b324
theorem k325 : EntOk Tryz.prog e325 := entOk progOk (l := []) trivial b325
theorem k326 : EntOk Tryz.prog e326 := entOk progOk (l := []) trivial b326
theorem k327 : EntOk Tryz.prog e327 := entOk progOk (l := []) trivial b327
theorem k328 : EntOk Tryz.prog e328 := entOk progOk (l := []) trivial b328
theorem k329 : EntOk Tryz.prog e329 := entOk progOk (l := []) trivial b329
theorem k330 : EntOk Tryz.prog e330 := entOk progOk (l := []) trivial b330
theorem k331 : EntOk Tryz.prog e331 := entOk progOk (l := []) trivial b331
theorem k332 : EntOk Tryz.prog e332 := entOk progOk (l := []) trivial b332
theorem k333 : EntOk Tryz.prog e333 := entOk progOk (l := []) trivial b333
theorem k334 : EntOk Tryz.prog e334 := entOk progOk (l := [e328, e263, e329, e143, e330, e331, e332, e333]) ⟨k328, k263, k329, k143, k330, k331, k332, k333, trivial⟩ b334
theorem k335 : EntOk Tryz.prog e335 := entOk progOk (l := [e327, e141, e334]) ⟨k327, k141, k334, trivial⟩ b335
theorem k336 : EntOk Tryz.prog e336 := entOk progOk (l := [e335]) ⟨k335, trivial⟩ b336
theorem k337 : EntOk Tryz.prog e337 := entOk progOk (l := [e117]) ⟨k117, trivial⟩ b337
theorem k338 : EntOk Tryz.prog e338 := entOk progOk (l := [e337]) ⟨k337, trivial⟩ b338
theorem k339 : EntOk Tryz.prog e339 := entOk progOk (l := [e338]) ⟨k338, trivial⟩ b339
theorem k340 : EntOk Tryz.prog e340 := entOk progOk (l := []) trivial b340
theorem k341 : EntOk Tryz.prog e341 := entOk progOk (l := [e340]) ⟨k340, trivial⟩ b341
theorem k342 : EntOk Tryz.prog e342 := entOk progOk (l := [e341]) ⟨k341, trivial⟩ b342
theorem k343 : EntOk Tryz.prog e343 := entOk progOk (l := [e342]) ⟨k342, trivial⟩ b343
theorem k344 : EntOk Tryz.prog e344 := entOk progOk (l := [e343]) ⟨k343, trivial⟩ b344
theorem k345 : EntOk Tryz.prog e345 := entOk progOk (l := []) trivial b345
theorem k346 : EntOk Tryz.prog e346 := entOk progOk (l := []) trivial b346
theorem k347 : EntOk Tryz.prog e347 := entOk progOk (l := [e345, e346]) ⟨k345, k346, trivial⟩ b347
theorem k348 : EntOk Tryz.prog e348 := entOk progOk (l := [e347]) ⟨k347, trivial⟩ b348
theorem k349 : EntOk Tryz.prog e349 := entOk progOk (l := []) trivial b349
theorem k350 : EntOk Tryz.prog e350 := entOk progOk (l := []) trivial b350
theorem k351 : EntOk Tryz.prog e351 := entOk progOk (l := []) trivial b351
theorem k352 : EntOk Tryz.prog e352 := entOk progOk (l := []) trivial b352
theorem k353 : EntOk Tryz.prog e353 := entOk progOk (l := []) trivial b353
theorem k354 : EntOk Tryz.prog e354 := entOk progOk (l := []) trivial b354
theorem k355 : EntOk Tryz.prog e355 := entOk progOk (l := []) trivial b355
theorem k356 : EntOk Tryz.prog e356 := entOk progOk (l := []) trivial b356
theorem k357 : EntOk Tryz.prog e357 := entOk progOk (l := []) trivial b357
theorem k358 : EntOk Tryz.prog e358 := entOk progOk (l := []) trivial b358
theorem k359 : EntOk Tryz.prog e359 := entOk progOk (l := []) trivial b359
theorem k360 : EntOk Tryz.prog e360 := entOk progOk (l := []) trivial b360
theorem k361 : EntOk Tryz.prog e361 := entOk progOk (l := []) trivial b361
theorem k362 : EntOk Tryz.prog e362 := entOk progOk (l := []) trivial b362
theorem k363 : EntOk Tryz.prog e363 := entOk progOk (l := []) trivial b363
theorem k364 : EntOk Tryz.prog e364 := entOk progOk (l := [e363]) ⟨k363, trivial⟩ b364
theorem k365 : EntOk Tryz.prog e365 := entOk progOk (l := [e41, e251]) ⟨k41, k251, trivial⟩ b365
theorem k366 : EntOk Tryz.prog e366 := entOk progOk (l := [e365]) ⟨k365, trivial⟩ b366
theorem k367 : EntOk Tryz.prog e367 := entOk progOk (l := [e366]) ⟨k366, trivial⟩ b367
theorem k368 : EntOk Tryz.prog e368 := entOk progOk (l := [e303]) ⟨k303, trivial⟩ b368
theorem k369 : EntOk Tryz.prog e369 := entOk progOk (l := [e368]) ⟨k368, trivial⟩ b369
theorem k370 : EntOk Tryz.prog e370 := entOk progOk (l := [e369]) ⟨k369, trivial⟩ b370
theorem k371 : EntOk Tryz.prog e371 := entOk progOk (l := [e308]) ⟨k308, trivial⟩ b371
theorem k372 : EntOk Tryz.prog e372 := entOk progOk (l := [e371]) ⟨k371, trivial⟩ b372
theorem k373 : EntOk Tryz.prog e373 := entOk progOk (l := [e372]) ⟨k372, trivial⟩ b373
theorem k374 : EntOk Tryz.prog e374 := entOk progOk (l := []) trivial b374
theorem k375 : EntOk Tryz.prog e375 := entOk progOk (l := [e374, e307]) ⟨k374, k307, trivial⟩ b375
theorem k376 : EntOk Tryz.prog e376 := entOk progOk (l := [e375]) ⟨k375, trivial⟩ b376
theorem k377 : EntOk Tryz.prog e377 := entOk progOk (l := [e376]) ⟨k376, trivial⟩ b377
theorem k378 : EntOk Tryz.prog e378 := entOk progOk (l := [e377]) ⟨k377, trivial⟩ b378
theorem k379 : EntOk Tryz.prog e379 := entOk progOk (l := [e374]) ⟨k374, trivial⟩ b379
theorem k380 : EntOk Tryz.prog e380 := entOk progOk (l := [e379, e251]) ⟨k379, k251, trivial⟩ b380
theorem k381 : EntOk Tryz.prog e381 := entOk progOk (l := [e380]) ⟨k380, trivial⟩ b381
theorem k382 : EntOk Tryz.prog e382 := entOk progOk (l := [e381]) ⟨k381, trivial⟩ b382
theorem k383 : EntOk Tryz.prog e383 := entOk progOk (l := []) trivial b383
theorem k384 : EntOk Tryz.prog e384 := entOk progOk (l := [e383, e374]) ⟨k383, k374, trivial⟩ b384
theorem k385 : EntOk Tryz.prog e385 := entOk progOk (l := [e384]) ⟨k384, trivial⟩ b385
theorem k386 : EntOk Tryz.prog e386 := entOk progOk (l := [e385]) ⟨k385, trivial⟩ b386
theorem k387 : EntOk Tryz.prog e387 := entOk progOk (l := [e386]) ⟨k386, trivial⟩ b387
theorem k388 : EntOk Tryz.prog e388 := entOk progOk (l := [e254, e367, e370, e373, e378, e382, e387]) ⟨k254, k367, k370, k373, k378, k382, k387, trivial⟩ b388
theorem k389 : EntOk Tryz.prog e389 := entOk progOk (l := [e388]) ⟨k388, trivial⟩ b389
theorem k390 : EntOk Tryz.prog e390 := entOk progOk (l := [e364, e389]) ⟨k364, k389, trivial⟩ b390
theorem k391 : EntOk Tryz.prog e391 := entOk progOk (l := [e356, e127, e247, e248, e128, e129, e357, e298, e358, e300, e359, e360, e361, e362, e390]) ⟨k356, k127, k247, k248, k128, k129, k357, k298, k358, k300, k359, k360, k361, k362, k390, trivial⟩ b391
theorem k392 : EntOk Tryz.prog e392 := entOk progOk (l := [e339, e344, e121, e348, e349, e350, e351, e352, e353, e354, e355, e391]) ⟨k339, k344, k121, k348, k349, k350, k351, k352, k353, k354, k355, k391, trivial⟩ b392
theorem k393 : EntOk Tryz.prog e393 := entOk progOk (l := [e340]) ⟨k340, trivial⟩ b393
theorem k394 : EntOk Tryz.prog e394 := entOk progOk (l := []) trivial b394
theorem k395 : EntOk Tryz.prog e395 := entOk progOk (l := [e394]) ⟨k394, trivial⟩ b395
theorem k396 : EntOk Tryz.prog e396 := entOk progOk (l := [e393, e395]) ⟨k393, k395, trivial⟩ b396
theorem k397 : EntOk Tryz.prog e397 := entOk progOk (l := [e396]) ⟨k396, trivial⟩ b397
theorem k398 : EntOk Tryz.prog e398 := entOk progOk (l := [e397]) ⟨k397, trivial⟩ b398
theorem k399 : EntOk Tryz.prog e399 := entOk progOk (l := [e398]) ⟨k398, trivial⟩ b399
theorem k400 : EntOk Tryz.prog e400 := entOk progOk (l := [e340]) ⟨k340, trivial⟩ b400
theorem k401 : EntOk Tryz.prog e401 := entOk progOk (l := [e394]) ⟨k394, trivial⟩ b401
theorem k402 : EntOk Tryz.prog e402 := entOk progOk (l := [e400, e401]) ⟨k400, k401, trivial⟩ b402
theorem k403 : EntOk Tryz.prog e403 := entOk progOk (l := [e402]) ⟨k402, trivial⟩ b403
theorem k404 : EntOk Tryz.prog e404 := entOk progOk (l := [e403]) ⟨k403, trivial⟩ b404
theorem k405 : EntOk Tryz.prog e405 := entOk progOk (l := [e404, e74]) ⟨k404, k74, trivial⟩ b405
theorem k406 : EntOk Tryz.prog e406 := entOk progOk (l := [e15]) ⟨k15, trivial⟩ b406
theorem k407 : EntOk Tryz.prog e407 := entOk progOk (l := [e406, e17]) ⟨k406, k17, trivial⟩ b407
theorem k408 : EntOk Tryz.prog e408 := entOk progOk (l := []) trivial b408
theorem k409 : EntOk Tryz.prog e409 := entOk progOk (l := [e408]) ⟨k408, trivial⟩ b409
theorem k410 : EntOk Tryz.prog e410 := entOk progOk (l := []) trivial b410
theorem k411 : EntOk Tryz.prog e411 := entOk progOk (l := [e409, e410]) ⟨k409, k410, trivial⟩ b411
theorem k412 : EntOk Tryz.prog e412 := entOk progOk (l := []) trivial b412
theorem k413 : EntOk Tryz.prog e413 := entOk progOk (l := []) trivial b413
theorem k414 : EntOk Tryz.prog e414 := entOk progOk (l := [e408]) ⟨k408, trivial⟩ b414
theorem k415 : EntOk Tryz.prog e415 := entOk progOk (l := [e414, e410]) ⟨k414, k410, trivial⟩ b415
theorem k416 : EntOk Tryz.prog e416 := entOk progOk (l := []) trivial b416
theorem k417 : EntOk Tryz.prog e417 := entOk progOk (l := [e120, e399, e405, e407, e411, e412, e413, e415, e416]) ⟨k120, k399, k405, k407, k411, k412, k413, k415, k416, trivial⟩ b417
theorem k418 : EntOk Tryz.prog e418 := entOk progOk (l := []) trivial b418
theorem k419 : EntOk Tryz.prog e419 := entOk progOk (l := [e418]) ⟨k418, trivial⟩ b419
theorem k420 : EntOk Tryz.prog e420 := entOk progOk (l := []) trivial b420
theorem k421 : EntOk Tryz.prog e421 := entOk progOk (l := [e419, e420]) ⟨k419, k420, trivial⟩ b421
theorem k422 : EntOk Tryz.prog e422 := entOk progOk (l := []) trivial b422
theorem k423 : EntOk Tryz.prog e423 := entOk progOk (l := []) trivial b423
theorem k424 : EntOk Tryz.prog e424 := entOk progOk (l := [e418]) ⟨k418, trivial⟩ b424
theorem k425 : EntOk Tryz.prog e425 := entOk progOk (l := [e424, e420]) ⟨k424, k420, trivial⟩ b425
theorem k426 : EntOk Tryz.prog e426 := entOk progOk (l := []) trivial b426
theorem k427 : EntOk Tryz.prog e427 := entOk progOk (l := []) trivial b427
theorem k428 : EntOk Tryz.prog e428 := entOk progOk (l := []) trivial b428
theorem k429 : EntOk Tryz.prog e429 := entOk progOk (l := [e251]) ⟨k251, trivial⟩ b429
theorem k430 : EntOk Tryz.prog e430 := entOk progOk (l := [e429]) ⟨k429, trivial⟩ b430
theorem k431 : EntOk Tryz.prog e431 := entOk progOk (l := [e430]) ⟨k430, trivial⟩ b431
theorem k432 : EntOk Tryz.prog e432 := entOk progOk (l := [e431]) ⟨k431, trivial⟩ b432
theorem k433 : EntOk Tryz.prog e433 := entOk progOk (l := [e432]) ⟨k432, trivial⟩ b433
theorem k434 : EntOk Tryz.prog e434 := entOk progOk (l := [e250, e433]) ⟨k250, k433, trivial⟩ b434
theorem k435 : EntOk Tryz.prog e435 := entOk progOk (l := [e427, e127, e428, e129, e295, e300, e434]) ⟨k427, k127, k428, k129, k295, k300, k434, trivial⟩ b435
theorem k436 : EntOk Tryz.prog e436 := entOk progOk (l := [e120, e399, e405, e407, e411, e412, e413, e415, e416, e421, e422, e423, e425, e426, e435]) ⟨k120, k399, k405, k407, k411, k412, k413, k415, k416, k421, k422, k423, k425, k426, k435, trivial⟩ b436
theorem k437 : EntOk Tryz.prog e437 := entOk progOk (l := []) trivial b437
theorem k438 : EntOk Tryz.prog e438 := entOk progOk (l := []) trivial b438
theorem k439 : EntOk Tryz.prog e439 := entOk progOk (l := []) trivial b439
theorem k440 : EntOk Tryz.prog e440 := entOk progOk (l := []) trivial b440
theorem k441 : EntOk Tryz.prog e441 := entOk progOk (l := []) trivial b441
theorem k442 : EntOk Tryz.prog e442 := entOk progOk (l := [e441, e143, e328, e333]) ⟨k441, k143, k328, k333, trivial⟩ b442
theorem k443 : EntOk Tryz.prog e443 := entOk progOk (l := [e440, e141, e442]) ⟨k440, k141, k442, trivial⟩ b443
theorem k444 : EntOk Tryz.prog e444 := entOk progOk (l := [e443]) ⟨k443, trivial⟩ b444
theorem k445 : EntOk Tryz.prog e445 := entOk progOk (l := [e10, e11, e12, e13, e99, e100, e101, e116, e136, e137, e138, e4, e5, e139, e146, e147, e259, e260, e266, e267, e321, e2, e322, e323, e324, e7, e325, e326, e336, e392, e1, e417, e436, e437, e438, e439, e444]) ⟨k10, k11, k12, k13, k99, k100, k101, k116, k136, k137, k138, k4, k5, k139, k146, k147, k259, k260, k266, k267, k321, k2, k322, k323, k324, k7, k325, k326, k336, k392, k1, k417, k436, k437, k438, k439, k444, trivial⟩ b445
end Go.Proofs.YtpejdgkaapnekaaGreat
