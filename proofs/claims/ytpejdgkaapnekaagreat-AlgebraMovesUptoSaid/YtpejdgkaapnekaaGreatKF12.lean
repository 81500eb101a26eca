import Derived.Test.YtpejdgkaapnekaaGreatPb
import Derived.Test.YtpejdgkaapnekaaGreatKE
set_option linter.unusedVariables false
set_option linter.unusedSimpArgs false

namespace Go.Proofs.YtpejdgkaapnekaaGreat
open Go Go.Abs
set_option maxRecDepth 1000000
theorem b360 : entRun Tryz.prog env cfg [] 40 e360 = true := by kernel_rfl
theorem b361 : entRun Tryz.prog env cfg [] 40 e361 = true := by kernel_rfl
theorem b362 : entRun Tryz.prog env cfg [] 40 e362 = true := by kernel_rfl
theorem b363 : entRun Tryz.prog env cfg [] 40 e363 = true := by kernel_rfl
theorem b364 : entRun Tryz.prog env cfg [e363] 40 e364 = true := by kernel_rfl
theorem b365 : entRun Tryz.prog env cfg [e41, e251] 40 e365 = true := by kernel_rfl
theorem b366 : entRun Tryz.prog env cfg [e365] 40 e366 = true := by kernel_rfl
theorem b367 : entRun Tryz.prog env cfg [e366] 40 e367 = true := by kernel_rfl
theorem b368 : entRun Tryz.prog env cfg [e303] 40 e368 = true := by kernel_rfl
theorem b369 : entRun Tryz.prog env cfg [e368] 40 e369 = true := by kernel_rfl
theorem b370 : entRun Tryz.prog env cfg [e369] 40 e370 = true := by kernel_rfl
theorem b371 : entRun Tryz.prog env cfg [e308] 40 e371 = true := by kernel_rfl
theorem b372 : entRun Tryz.prog env cfg [e371] 40 e372 = true := by kernel_rfl
theorem b373 : entRun Tryz.prog env cfg [e372] 40 e373 = true := by kernel_rfl
theorem b374 : entRun Tryz.prog env cfg [] 40 e374 = true := by kernel_rfl
theorem b375 : entRun Tryz.prog env cfg [e374, e307] 40 e375 = true := by kernel_rfl
theorem b376 : entRun Tryz.prog env cfg [e375] 40 e376 = true := by kernel_rfl
theorem b377 : entRun Tryz.prog env cfg [e376] 40 e377 = true := by kernel_rfl
theorem b378 : entRun Tryz.prog env cfg [e377] 40 e378 = true := by kernel_rfl
theorem b379 : entRun Tryz.prog env cfg [e374] 40 e379 = true := by kernel_rfl
theorem b380 : entRun Tryz.prog env cfg [e379, e251] 40 e380 = true := by kernel_rfl
theorem b381 : entRun Tryz.prog env cfg [e380] 40 e381 = true := by kernel_rfl
theorem b382 : entRun Tryz.prog env cfg [e381] 40 e382 = true := by kernel_rfl
theorem b383 : entRun Tryz.prog env cfg [] 40 e383 = true := by kernel_rfl
theorem b384 : entRun Tryz.prog env cfg [e383, e374] 40 e384 = true := by kernel_rfl
theorem b385 : entRun Tryz.prog env cfg [e384] 40 e385 = true := by kernel_rfl
theorem b386 : entRun Tryz.prog env cfg [e385] 40 e386 = true := by kernel_rfl
theorem b387 : entRun Tryz.prog env cfg [e386] 40 e387 = true := by kernel_rfl
theorem b388 : entRun Tryz.prog env cfg [e254, e367, e370, e373, e378, e382, e387] 40 e388 = true := by kernel_rfl
theorem b389 : entRun Tryz.prog env cfg [e388] 40 e389 = true := by kernel_rfl
end Go.Proofs.YtpejdgkaapnekaaGreat
