import Derived.Test.YtpejdgkaapnekaaGreatPb
import Derived.Test.YtpejdgkaapnekaaGreatKE
set_option linter.unusedVariables false
set_option linter.unusedSimpArgs false

namespace Go.Proofs.YtpejdgkaapnekaaGreat
open Go Go.Abs
set_option maxRecDepth 1000000
theorem b180 : entRun Tryz.prog env cfg [] 40 e180 = true := by kernel_rfl
theorem b181 : entRun Tryz.prog env cfg [e178] 40 e181 = true := by kernel_rfl
theorem b182 : entRun Tryz.prog env cfg [] 40 e182 = true := by kernel_rfl
theorem b183 : entRun Tryz.prog env cfg [e182] 40 e183 = true := by kernel_rfl
theorem b184 : entRun Tryz.prog env cfg [e180, e181, e183] 40 e184 = true := by kernel_rfl
theorem b185 : entRun Tryz.prog env cfg [e184] 40 e185 = true := by kernel_rfl
theorem b186 : entRun Tryz.prog env cfg [] 40 e186 = true := by kernel_rfl
theorem b187 : entRun Tryz.prog env cfg [e185, e186] 40 e187 = true := by kernel_rfl
theorem b188 : entRun Tryz.prog env cfg [e171, e172, e173, e174, e175, e176, e179, e187] 40 e188 = true := by kernel_rfl
theorem b189 : entRun Tryz.prog env cfg [e188] 40 e189 = true := by kernel_rfl
theorem b190 : entRun Tryz.prog env cfg [] 40 e190 = true := by kernel_rfl
theorem b191 : entRun Tryz.prog env cfg [e190] 40 e191 = true := by kernel_rfl
theorem b192 : entRun Tryz.prog env cfg [e189, e191] 40 e192 = true := by kernel_rfl
theorem b193 : entRun Tryz.prog env cfg [e159, e166, e170, e192] 40 e193 = true := by kernel_rfl
theorem b194 : entRun Tryz.prog env cfg [] 40 e194 = true := by kernel_rfl
theorem b195 : entRun Tryz.prog env cfg [] 40 e195 = true := by kernel_rfl
theorem b196 : entRun Tryz.prog env cfg [e193, e194, e195] 40 e196 = true := by kernel_rfl
theorem b197 : entRun Tryz.prog env cfg [e152, e23, e46, e158, e196] 40 e197 = true := by kernel_rfl
theorem b198 : entRun Tryz.prog env cfg [e149, e74, e197] 40 e198 = true := by kernel_rfl
theorem b199 : entRun Tryz.prog env cfg [e157] 40 e199 = true := by kernel_rfl
theorem b200 : entRun Tryz.prog env cfg [] 40 e200 = true := by kernel_rfl
theorem b201 : entRun Tryz.prog env cfg [e200] 40 e201 = true := by kernel_rfl
theorem b202 : entRun Tryz.prog env cfg [e201] 40 e202 = true := by kernel_rfl
theorem b203 : entRun Tryz.prog env cfg [e202, e165] 40 e203 = true := by kernel_rfl
theorem b204 : entRun Tryz.prog env cfg [] 40 e204 = true := by kernel_rfl
theorem b205 : entRun Tryz.prog env cfg [e200] 40 e205 = true := by kernel_rfl
theorem b206 : entRun Tryz.prog env cfg [] 40 e206 = true := by kernel_rfl
theorem b207 : entRun Tryz.prog env cfg [] 40 e207 = true := by kernel_rfl
theorem b208 : entRun Tryz.prog env cfg [] 40 e208 = true := by kernel_rfl
theorem b209 : entRun Tryz.prog env cfg [e207, e208] 40 e209 = true := by kernel_rfl
end Go.Proofs.YtpejdgkaapnekaaGreat
