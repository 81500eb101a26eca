import Derived.Test.YtpejdgkaapnekaaGreatGP10
import Derived.Test.YtpejdgkaapnekaaGreatGTab
set_option linter.unusedVariables false
set_option linter.unusedSimpArgs false
set_option linter.unnecessarySimpa false
set_option maxHeartbeats 1000000
namespace Go.Proofs.YtpejdgkaapnekaaGreat
open Go Go.Abs
def MU : rS:=[(28,[.int .i64,.int .i64,.int .i64,.str]),(27,[.int .i64,.int .i64,.int .i64,.str]),(53,[.str,.int .i64,.int .i64]),(52,[.str,.int .i64,.int .i64]),(82,[.str,.int .i64]),(81,[.str,.int .i64]),
 (121,[.int .i64,.int .i64,.int .i64,.int .i64]),(120,[.int .i64,.int .i64,.int .i64,.int .i64]),(111,[.int .i64,.bool])]
def MV : BD:=[(176,⟨9,4,false,[.str],false,[.bool false]⟩),(115,⟨121,3,true,[.int .i64,.int .i64,.int .i64,.int .i64],false,[.int .i64 0]⟩),
 (150,⟨121,4,true,[.int .i64,.int .i64,.int .i64,.int .i64],false,[.bool false]⟩),(197,⟨121,24,true,[.int .i64,.int .i64,.int .i64,.int .i64],false,[.nil]⟩)]
def env : Env:=⟨tab,MU,MV⟩
theorem aq : EnvOk Tryz.prog env:=⟨ae,xG (by kernel_rfl),xH (by kernel_rfl)⟩
end Go.Proofs.YtpejdgkaapnekaaGreat
