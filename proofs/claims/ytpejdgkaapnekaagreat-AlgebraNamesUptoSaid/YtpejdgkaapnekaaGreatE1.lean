import Derived.Test.YtpejdgkaapnekaaGreatPb
set_option linter.unusedVariables false
set_option linter.unusedSimpArgs false
namespace Go.Proofs.YtpejdgkaapnekaaGreat
open Go Go.Abs
set_option maxRecDepth 1000000
def cfe : Cfg := ⟨[190, 216, 217, 181, 231, 271, 272, 273, 274, 275, 276, 277, 278, 338, 339, 340, 368], [(23, [5]), (34, [6, 18, 22])]⟩
def needsL : List AC := [.d (.int .i64 0), .d (.bool false), .d (.bool false), .d (.int .i64 0), .d (.bool false), .d (.bool true), .d (.int .i64 0), .d (.bool true), .d (.bool false), .d (.int .i64 0), .d (.bool true), .d (.bool false), .d (.int .i64 1), .d (.bool false), .d (.bool false), .d (.int .i64 1), .d (.bool false), .d (.bool false), .d (.int .i64 1), .d (.bool false), .d (.bool false), .d (.int .i64 1), .d (.bool false), .d (.bool false), .d (.int .i64 1), .d (.bool false), .d (.bool false), .d (.int .i64 2), .d (.bool false), .d (.bool false), .d (.int .i64 2), .d (.bool false), .d (.bool false), .d (.int .i64 2), .d (.bool false), .d (.bool false), .d (.int .i64 2), .d (.bool false), .d (.bool false), .d (.int .i64 2), .d (.bool false), .d (.bool false), .d (.int .i64 2), .d (.bool false), .d (.bool false), .d (.int .i64 2), .d (.bool false), .d (.bool false), .d (.int .i64 2), .d (.bool false), .d (.bool false), .d (.int .i64 2), .d (.bool false), .d (.bool false), .d (.int .i64 2), .d (.bool false), .d (.bool false), .d (.int .i64 2), .d (.bool false), .d (.bool false), .d (.int .i64 2), .d (.bool false), .d (.bool false), .d (.int .i64 2), .d (.bool false), .d (.bool false), .d (.int .i64 3), .d (.bool false), .d (.bool false)]
def fe224 : Ent := ⟨224, false, [], [], .agg needsL, []⟩
theorem fb224 : entRun Tryz.prog env cfe [] 40 fe224 = true := by kernel_rfl
theorem c224 : CallA Tryz.prog 224 [] [] (.agg needsL) [] := entOk (e := fe224) progOk (l := []) trivial fb224
end Go.Proofs.YtpejdgkaapnekaaGreat
